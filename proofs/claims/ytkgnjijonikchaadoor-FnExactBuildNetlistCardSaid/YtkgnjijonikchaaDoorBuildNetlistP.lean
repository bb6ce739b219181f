import Derived.Test.YtkgnjijonikchaaDoorBuildNetlistF
namespace Go.Proofs.YtkgnjijonikchaaDoor
open Go.RowKit
set_option linter.unusedVariables false
set_option linter.unusedSimpArgs false
theorem Zct (n lo hi:Int):Zbx [pI n,pI lo,pI hi]=some (pB (decide (lo≤n)&&decide (n≤hi))):=by
 show (fun x0 x1 x2=>Zbx [x0,x1,x2]) _ _ _=_
 rw[ZpJ]
 by_cases h:lo≤n<;>simp only[h,EVS]
def Zq0 (first:Bool) (b:UInt8):Bool:=(decide ((97:Int)≤b.toNat)&&decide ((b.toNat:Int)≤122))||(!first&&(!decide ((b.toNat:Int)<48)&& !decide ((57:Int)<b.toNat)))
def Zgv :Bool→List UInt8→Bool
 |_,[]=>true
 |f,b::r=>Zq0 f b&&Zgv false r
def Z4 (s:List UInt8):Bool:=Zgv true s&&(decide ((1:Int)≤s.length)&&decide ((s.length:Int)≤6))
theorem Zjy (s:List UInt8) (hs:s.length≤9223372036854775807):ZdA [.str s]=some (pB (Z4 s)):=by
 show (fun x0=>ZdA [x0]) _=_
 rw[Zm1]
 refine (congrArg (Zh true) (Zfc (R:=PV) (fun k:Nat=>[pI (Int.ofNat k)]) (fun k=>s.length+1 - k) (fun k=>some (pB (Zgv (k==0) (s.drop k)&&(decide ((1:Int)≤s.length)&&decide ((s.length:Int)≤6))))) _ (fun again k ih=> ?_) _ 0 (by omega))).trans ?_
 ·by_cases hk:k<s.length
  ·obtain ⟨b,hb⟩:∃b,s[k]?=some b:=⟨s[k],List.getElem?_eq_getElem hk⟩
   have hd:s.drop k=b::s.drop (k+1):=by
    obtain ⟨h1,rfl⟩:=List.getElem?_eq_some_iff.1 hb
    exact List.drop_eq_getElem_cons h1
   have hlt:decide ((k:Int)<s.length)=true:=by simpa using hk
   have hw:IntKind.i64.wrap ((k:Int)+1)=((k+1:Nat):Int):=by rw[Zdb (by omega) (by omega)];omega
   have hnext:=ih (k+1) (by omega)
   simp only[Int.ofNat_eq_natCast] at hnext
   have hk0:decide ((k:Int)=0)=(k==0):=by rw[Bool.eq_iff_iff];simp
   rw[hd]
   have hk1:(k+1==0)=false:=rfl
   rw[hk1] at hnext
   have ev1:=hlt
   have ev2:=Z2 (k:=.i64) hb
   simp only[Zgv,Zq0,hlt,Z2 hb,hk0,hw,hnext,EVS]
   by_cases c1:(97:Int)≤b.toNat
   all_goals simp only[c1,Z2 hb,EVS]
   by_cases c2:(b.toNat:Int)≤122
   all_goals try simp only[c2,Z2 hb,EVS]
   all_goals try simp only[hk0]
   all_goals try (cases c5:(k==0))
   all_goals try simp only[c5,Z2 hb,EVS]
   all_goals try (by_cases c3:(b.toNat:Int)<48)
   all_goals try simp only[c3,Z2 hb,EVS]
   all_goals try (by_cases c4:(57:Int)<b.toNat)
   all_goals try simp only[c4,Z2 hb,EVS]
  ·have hd:s.drop k=[]:=List.drop_eq_nil_of_le (by omega)
   have hlt:decide ((k:Int)<s.length)=false:=by simpa using hk
   rw[hd]
   simp only[Zgv,hlt,Zct,EVS]
 ·simp only[Z4,List.drop_zero,beq_self_eq_true,EVS]
def Zik (b:UInt8):Bool:=decide ((b.toNat:Int)=48)||decide ((b.toNat:Int)=49)||decide ((b.toNat:Int)=45)
def Zf5 (s:List UInt8):Bool:=Z9 (fun _ b=>Zik b) 0 s&&(decide ((1:Int)≤s.length)&&decide ((s.length:Int)≤8))
theorem Zu {α:Type} {l:List α} {k:Nat} {x:α} (h:l[k]?=some x):k<l.length:=(List.getElem?_eq_some_iff.1 h).1
theorem ZN {k n:Nat} (h:k<n) (hn:n≤9223372036854775807):IntKind.i64.wrap ((k:Int)+1)=((k+1:Nat):Int):=by rw[Zdb (by omega) (by omega)];omega
theorem Zbp {k n:Nat} (h:k<n):decide ((k:Int)<(n:Int))=true:=by simpa using h
theorem Zcc {n:Nat}:decide ((n:Int)<(n:Int))=false:=by simp
theorem ZmN (s:List UInt8) (hs:s.length≤9223372036854775807):ZdM [.str s]=some (pB (Zf5 s)):=by
 show (fun x0=>ZdM [x0]) _=_
 rw[Zlz]
 refine (congrArg (Zh true) (Zbg (R:=PV) s (fun _ b=>Zik b) (some (pB false)) (some (pB (decide ((1:Int)≤s.length)&&decide ((s.length:Int)≤8)))) _ hs (fun again k b hb=> ?_) (fun again=> ?_))).trans ?_
 ·have hk:=Zu hb
  cases c1:decide ((b.toNat:Int)=48)<;>cases c2:decide ((b.toNat:Int)=49)<;>cases c3:decide ((b.toNat:Int)=45)<;>
   simp only[Zik,Zbp hk,ZN hk hs,Z2 hb,c1,c2,c3,EVS]
 ·simp only[Zcc,Zct,EVS]
 ·unfold Zf5
  cases Z9 (fun _ b=>Zik b) 0 s<;>simp only[EVS]
abbrev ZK (s:List UInt8×Int):PV:=.agg [.str s.1,pI s.2]
def inR (n lo hi:Int):Bool:=decide (lo≤n)&&decide (n≤hi)
def Zhg (l:List (List UInt8×Int)) (k:Nat) (s:List UInt8×Int):Bool:=(Z4 s.1&&inR s.2 1 3)&&Z9 (fun _ y=> !decide (s.1=y.1)) 0 (l.take k)
def ZdL (l:List (List UInt8×Int)):Bool:=Z9 (Zhg l) 0 l&&inR l.length 1 8
theorem ZkE (x:List UInt8×Int):Zao 2 (ZK x)=true:=rfl
theorem Zf6 (l:List (List UInt8×Int)) (hl:l.length≤9223372036854775807) (hs:∀s∈l,s.1.length≤9223372036854775807):ZbZ [.lst (l.map ZK)]=some (pB (ZdL l)):=by
 show (fun x0=>ZbZ [x0]) _=_
 rw[ZjO]
 simp only[EVS]
 refine (congrArg (Zh true) (Zbg (R:=PV) l (Zhg l) (some (pB false)) (some (pB (inR l.length 1 8))) _ hl (fun again k s hb=> ?_) (fun again=> ?_))).trans ?_
 ·have hk:=Zu hb
  have hi:ZH (.lst (l.map ZK)) (.int .i64 (k:Int))=some (ZK s):=ZA hb
  have hc:Zis 2 (.lst (l.map ZK)) none (some (.int .i64 (k:Int)))=some (.lst ((l.take k).map ZK)):=ZiA ZkE (by omega)
  have hn:=Zjy s.1 (hs s (List.mem_of_getElem? hb))
  simp only[Zbp hk,ZN hk hl,hi,ZK,hn,Zct,Zhg,inR,EVS]
  obtain c1|c1:=(Bool.eq_false_or_eq_true (Z4 s.1)).symm<;>simp only[c1,Zct,EVS]
  obtain c2|c2:=(Bool.eq_false_or_eq_true (decide (1≤s.2)&&decide (s.2≤3))).symm<;>simp only[c2,EVS]
  simp only[hc,EVS]
  refine (Zbg (R:=PV) (l.take k) (fun _ y=> !decide (s.1=y.1)) (some (pB false)) (again [pI ((k+1:Nat):Int)]) _ (by simp;omega) (fun again' j y hy=> ?_) (fun again'=> ?_)).trans ?_
  ·have hj:=Zu hy
   have hi':ZH (.lst ((l.take k).map ZK)) (.int .i64 (j:Int))=some (ZK y):=ZA hy
   simp only[Zbp hj,ZN hj (by simp;omega),hi',ZK,EVS]
   cases c3:decide (s.1=y.1)<;>simp only[c3,EVS]
  ·simp only[Zcc,ZN hk hl,EVS]
  ·rfl
 ·simp only[Zcc,Zct,inR,EVS]
 ·unfold ZdL
  cases Z9 (Zhg l) 0 l<;>simp only[EVS]
def ZfO (n:Int) (l:List (List UInt8)):Bool:=Z9 (fun _ c=>Zf5 c&&decide ((c.length:Int)=n)) 0 l
def ZcB (n:Int) (l:List (List UInt8)):Bool:=ZfO n l&&(inR n 1 8&&decide ((l.length:Int)≤60))
theorem Zfs (n:Int) (l:List (List UInt8)) (hl:l.length≤9223372036854775807) (hs:∀s∈l,s.length≤9223372036854775807):Zby [pI n,.lst (l.map PV.str)]=some (pB (ZcB n l)):=by
 show (fun x0 x1=>Zby [x0,x1]) _ _=_
 rw[ZlA]
 simp only[EVS]
 refine (congrArg (Zh true) (Zbg (R:=PV) l (fun _ c=>Zf5 c&&decide ((c.length:Int)=n)) (some (pB false)) (some (pB (inR n 1 8&&decide ((l.length:Int)≤60)))) _ hl (fun again k s hb=> ?_) (fun again=> ?_))).trans ?_
 ·have hk:=Zu hb
  have hi:ZH (.lst (l.map PV.str)) (.int .i64 (k:Int))=some (.str s):=ZA hb
  have hn:=ZmN s (hs s (List.mem_of_getElem? hb))
  simp only[Zbp hk,ZN hk hl,hi,hn,EVS]
  obtain c1|c1:=(Bool.eq_false_or_eq_true (Zf5 s)).symm<;>simp only[c1,EVS]
  obtain c2|c2:=(Bool.eq_false_or_eq_true (decide ((s.length:Int)=n))).symm<;>simp only[c2,EVS]
 ·simp only[Zcc,Zct,inR,EVS]
  obtain c1|c1:=(Bool.eq_false_or_eq_true (decide (1≤n)&&decide (n≤8))).symm<;>simp only[c1,EVS]
 ·unfold ZcB ZfO
  cases Z9 (fun _ c=>Zf5 c&&decide ((c.length:Int)=n)) 0 l<;>simp only[EVS]
structure PWire where
 name:List UInt8
 kind:Int
 ins:List (Int×Bool)
 cover:List (List UInt8)
structure PNet where
 signals:List (List UInt8×Int)
 wires:List PWire
abbrev Zcu (p:Int×Bool):PV:=.agg [pI p.1,pB p.2]
abbrev Zr (w:PWire):PV:=.agg [.str w.name,pI w.kind,.lst (w.ins.map Zcu),.lst (w.cover.map PV.str)]
abbrev Z0 (n:PNet):PV:=.agg [.lst (n.signals.map ZK),.lst (n.wires.map Zr)]
abbrev Zae {α:Type} (l:List α):Prop:=l.length≤9223372036854775807
structure PWire.Fit (w:PWire):Prop where
 name:Zae w.name
 ins:Zae w.ins
 cover:Zae w.cover
 cubes:∀c∈w.cover,Zae c
structure PNet.Fit (n:PNet):Prop where
 signals:Zae n.signals
 names:∀s∈n.signals,Zae s.1
 wires:Zae n.wires
 wire:∀w∈n.wires,w.Fit
def Zf7 (n:PNet) (k:Nat) (p:Int×Bool):Bool:=inR p.1 0 ((n.wires.length:Int) - 1)&& !(decide ((n.signals.length:Int)≤k)&&decide ((k:Int)≤p.1))
def Zde (k:Nat) (kind:Int) (ins:List (Int×Bool)):Bool:=
 if decide (kind=1)=true then decide ((ins.length:Int)=0)
 else if decide (kind=4)=true then decide ((ins.length:Int)=2)
 else if decide (kind=5)=true then decide ((ins.length:Int)=0)||(match ins with|[p]=>decide (p.1=k)&& !p.2|_=>false)
 else inR ins.length 1 8
def Zjz (n:PNet) (k:Nat) (w:PWire):Bool:=Z9 (fun _ p=>Zf7 n k p) 0 w.ins&&Zde k w.kind w.ins
theorem ZmO (n:PNet) (k:Nat) (w:PWire) (hn:n.Fit) (hw:w.Fit):ZdQ [Z0 n,pI k,Zr w]=some (pB (Zjz n k w)):=by
 show (fun x0 x1 x2=>ZdQ [x0,x1,x2]) _ _ _=_
 rw[ZlI]
 simp only[Z0,Zr,EVS]
 have hwl:IntKind.i64.wrap ((n.wires.length:Int) - 1)=(n.wires.length:Int) - 1:=Zdb (by omega) (by have:=hn.wires;unfold Zae at this;omega)
 have hi0:=hw.ins
 unfold Zae at hi0
 refine (congrArg (Zh true) (Zbg (R:=PV) w.ins (fun _ p=>Zf7 n k p) (some (pB false)) (some (pB (Zde k w.kind w.ins))) _ hi0 (fun again j p hb=> ?_) (fun again=> ?_))).trans ?_
 ·have hk:=Zu hb
  have hi:ZH (.lst (w.ins.map Zcu)) (.int .i64 (j:Int))=some (Zcu p):=ZA hb
  simp only[Zbp hk,ZN hk hi0,hi,Zcu,hwl,Zct,Zf7,inR,EVS]
  obtain c1|c1:=(Bool.eq_false_or_eq_true (decide (0≤p.1)&&decide (p.1≤(n.wires.length:Int) - 1))).symm<;>simp only[c1,EVS]
  obtain c2|c2:=(Bool.eq_false_or_eq_true (decide ((n.signals.length:Int)≤(k:Int)))).symm<;>simp only[c2,EVS]
  obtain c3|c3:=(Bool.eq_false_or_eq_true (decide ((k:Int)≤p.1))).symm<;>simp only[c3,EVS]
 ·simp only[Zcc,Zde,EVS]
  obtain c1|c1:=(Bool.eq_false_or_eq_true (decide (w.kind=1))).symm<;>simp only[c1,EVS]
  obtain c2|c2:=(Bool.eq_false_or_eq_true (decide (w.kind=4))).symm<;>simp only[c2,EVS]
  obtain c3|c3:=(Bool.eq_false_or_eq_true (decide (w.kind=5))).symm<;>simp only[c3,Zct,inR,EVS]
  have h01:decide ((0:Int)=1)=false:=rfl
  have h00:decide ((0:Int)=0)=true:=rfl
  have h11:decide ((1:Int)=1)=true:=rfl
  have h10:decide ((1:Int)=0)=false:=rfl
  rcases hq:w.ins with _|⟨p,_|⟨q,r⟩⟩
  ·simp only[List.length_nil,h00,EVS]
  ·have hi:ZH (.lst ([p].map Zcu)) (.int .i64 0)=some (Zcu p):=rfl
   simp only[List.length_cons,List.length_nil,Nat.zero_add,h11,h10,hi,Zcu,List.drop_zero,List.drop_succ_cons,EVS]
   obtain c4|c4:=(Bool.eq_false_or_eq_true (decide (p.1=(k:Int)))).symm<;>simp only[c4,h11,h10,hi,Zcu,List.drop_zero,List.drop_succ_cons,EVS]
  ·have h2:decide (((r.length+1+1:Nat):Int)=0)=false:=by simp;omega
   have h3:decide (((r.length+1+1:Nat):Int)=1)=false:=by simp;omega
   simp only[List.length_cons,h2,h3,EVS]
 ·unfold Zjz
  cases Z9 (fun _ p=>Zf7 n k p) 0 w.ins<;>simp only[EVS]
def Zdx (n:PNet) (k:Nat) (w:PWire):Bool:=match n.signals[k]? with|some s=>decide (w.name=s.1)&&(decide (w.kind=1)==decide (s.2=1))|none=>false
def ZjA (n:PNet) (k:Nat) (w:PWire):Bool:=
 let seen:=decide ((k:Int)<(n.signals.length:Int))
 (inR w.kind 1 5&&(seen||decide (w.kind=2)||decide (w.kind=3)))&&(!seen||Zdx n k w)&&(if decide (w.kind=5)=true then ZcB n.signals.length w.cover else !decide ((0:Int)<w.cover.length))&&(Z4 w.name&&Zjz n k w)
theorem ZmP (n:PNet) (k:Nat) (w:PWire) (hn:n.Fit) (hw:w.Fit):ZdR [Z0 n,pI k,Zr w]=some (pB (ZjA n k w)):=by
 have g1:=Zfs n.signals.length w.cover hw.cover hw.cubes
 have g2:=Zjy w.name hw.name
 have g3:=ZmO n k w hn hw
 have g4:=Zct w.kind 1 5
 simp only[Z0,Zr] at g3
 show (fun x0 x1 x2=>ZdR [x0,x1,x2]) _ _ _=_
 rw[ZlK]
 simp only[Z0,Zr,g4,EVS]
 have fin:∀b:Bool,((some (pB (Z4 w.name&&b))))=(some (pB (Z4 w.name&&b))):=fun _=>rfl
 simp only[ZjA,inR]
 obtain c1|c1:=(Bool.eq_false_or_eq_true (decide (1≤w.kind)&&decide (w.kind≤5))).symm<;>simp only[c1,EVS]
 obtain c2|c2:=(Bool.eq_false_or_eq_true (decide ((k:Int)<(n.signals.length:Int)))).symm<;>simp only[c2,EVS]
 ·obtain c3|c3:=(Bool.eq_false_or_eq_true (decide (w.kind=2))).symm<;>simp only[c3,EVS]
  ·obtain c4|c4:=(Bool.eq_false_or_eq_true (decide (w.kind=3))).symm<;>simp only[c4,EVS]
   have c5:decide (w.kind=5)=false:=by have:=of_decide_eq_true c4;simp;omega
   simp only[c5,EVS]
   obtain c6|c6:=(Bool.eq_false_or_eq_true (decide ((0:Int)<w.cover.length))).symm<;>simp only[c6,g2,EVS]
   obtain c7|c7:=(Bool.eq_false_or_eq_true (Z4 w.name)).symm<;>simp only[c7,g3,EVS]
  ·have c4:decide (w.kind=3)=false:=by have:=of_decide_eq_true c3;simp;omega
   have c5:decide (w.kind=5)=false:=by have:=of_decide_eq_true c3;simp;omega
   simp only[c4,c5,EVS]
   obtain c6|c6:=(Bool.eq_false_or_eq_true (decide ((0:Int)<w.cover.length))).symm<;>simp only[c6,g2,EVS]
   obtain c7|c7:=(Bool.eq_false_or_eq_true (Z4 w.name)).symm<;>simp only[c7,g3,EVS]
 ·have hk:k<n.signals.length:=by have:=of_decide_eq_true c2;omega
  have hs:n.signals[k]?=some n.signals[k]:=List.getElem?_eq_getElem hk
  have hi:ZH (.lst (n.signals.map ZK)) (.int .i64 (k:Int))=some (ZK n.signals[k]):=ZA hs
  simp only[Zdx,hs,hi,ZK,List.drop_zero,List.drop_succ_cons,EVS]
  obtain c3|c3:=(Bool.eq_false_or_eq_true (decide (w.name=n.signals[k].1))).symm<;>simp only[c3,hi,ZK,List.drop_zero,List.drop_succ_cons,EVS]
  obtain c4|c4:=(Bool.eq_false_or_eq_true (decide (w.kind=1)==decide (n.signals[k].2=1))).symm<;>simp only[bne,c4,hi,ZK,List.drop_zero,List.drop_succ_cons,EVS]
  obtain c5|c5:=(Bool.eq_false_or_eq_true (decide (w.kind=5))).symm<;>simp only[c5,g1,g2,EVS]
  ·obtain c6|c6:=(Bool.eq_false_or_eq_true (decide ((0:Int)<w.cover.length))).symm<;>simp only[c6,g2,EVS]
   obtain c7|c7:=(Bool.eq_false_or_eq_true (Z4 w.name)).symm<;>simp only[c7,g3,EVS]
  ·obtain c6|c6:=(Bool.eq_false_or_eq_true (ZcB n.signals.length w.cover)).symm<;>simp only[c5,c6,g2,EVS]
   obtain c7|c7:=(Bool.eq_false_or_eq_true (Z4 w.name)).symm<;>simp only[c5,c7,g3,EVS]
def ZbJ (n:PNet) (k:Nat) (w:PWire):Bool:=ZjA n k w&&Z9 (fun _ v=> !decide (v.name=w.name)) 0 (n.wires.take k)
def Zft (n:PNet):Bool:=ZdL n.signals&&(!decide ((n.wires.length:Int)<n.signals.length)&& !decide ((24:Int)<n.wires.length))&&Z9 (ZbJ n) 0 n.wires
theorem ZjB (x:PWire):Zao 4 (Zr x)=true:=rfl
theorem ZmQ (n:PNet) (hn:n.Fit):ZdS [Z0 n]=some (pB (Zft n)):=by
 have g1:=Zf6 n.signals hn.signals hn.names
 have hwl:=hn.wires
 unfold Zae at hwl
 show (fun x0=>ZdS [x0]) _=_
 rw[ZlM]
 simp only[Z0,g1,EVS]
 unfold Zft
 obtain c1|c1:=(Bool.eq_false_or_eq_true (ZdL n.signals)).symm<;>simp only[c1,EVS]
 obtain c2|c2:=(Bool.eq_false_or_eq_true (decide ((n.wires.length:Int)<n.signals.length))).symm<;>simp only[c2,EVS]
 obtain c3|c3:=(Bool.eq_false_or_eq_true (decide ((24:Int)<n.wires.length))).symm<;>simp only[c3,EVS]
 refine (congrArg (Zh true) (Zbg (R:=PV) n.wires (ZbJ n) (some (pB false)) (some (pB true)) _ hwl (fun again k w hb=> ?_) (fun again=> ?_))).trans ?_
 ·have hk:=Zu hb
  have hi:ZH (.lst (n.wires.map Zr)) (.int .i64 (k:Int))=some (Zr w):=ZA hb
  have hc:Zis 4 (.lst (n.wires.map Zr)) none (some (.int .i64 (k:Int)))=some (.lst ((n.wires.take k).map Zr)):=ZiA ZjB (by omega)
  have g3:=ZmP n k w hn (hn.wire w (List.mem_of_getElem? hb))
  simp only[Z0,Zr] at g3
  simp only[Zbp hk,ZN hk hwl,hi,Zr,ZbJ,g3,EVS]
  obtain c4|c4:=(Bool.eq_false_or_eq_true (ZjA n k w)).symm<;>simp only[c4,hc,EVS]
  refine (Zbg (R:=PV) (n.wires.take k) (fun _ v=> !decide (v.name=w.name)) (some (pB false)) (again [pI ((k+1:Nat):Int)]) _ (by simp;omega) (fun again' j y hy=> ?_) (fun again'=> ?_)).trans ?_
  ·have hj:=Zu hy
   have hi':ZH (.lst ((n.wires.take k).map Zr)) (.int .i64 (j:Int))=some (Zr y):=ZA hy
   simp only[Zbp hj,ZN hj (by simp;omega),hi',Zr,EVS]
   obtain c5|c5:=(Bool.eq_false_or_eq_true (decide (y.name=w.name))).symm<;>simp only[c5,EVS]
  ·simp only[Zcc,ZN hk hwl,EVS]
  ·rfl
 ·simp only[Zcc,EVS]
 ·cases Z9 (ZbJ n) 0 n.wires<;>simp only[EVS]
theorem ZaM (n lo hi:Int):Zam [pI n,pI lo,pI hi]=some (pB (inR n lo hi)):=by
 show (fun x0 x1 x2=>Zam [x0,x1,x2]) _ _ _=_
 rw[Zm5]
 unfold inR
 by_cases h:lo≤n<;>simp only[h,EVS]
def ZhU (k:Nat) (b:UInt8):Bool:=(decide ((97:Int)≤b.toNat)&&decide ((b.toNat:Int)≤122))||(!decide ((k:Int)=0)&&(decide ((48:Int)≤b.toNat)&&decide ((b.toNat:Int)≤57)))
def Zlq (s:List UInt8):Bool:=Z9 ZhU 0 s&&inR s.length 1 6
theorem Zn1 (s:List UInt8) (hs:s.length≤9223372036854775807):ZcP [.str s]=some (pB (Zlq s)):=by
 show (fun x0=>ZcP [x0]) _=_
 rw[Zm6]
 refine (congrArg (Zh true) (Zbg (R:=PV) s ZhU (some (pB false)) (some (pB (inR s.length 1 6))) _ hs (fun again k b hb=> ?_) (fun again=> ?_))).trans ?_
 ·have hk:=Zu hb
  simp only[ZhU,Zbp hk,ZN hk hs,Z2 hb,EVS]
  obtain c1|c1:=(Bool.eq_false_or_eq_true (decide ((97:Int)≤b.toNat))).symm<;>simp only[c1,Z2 hb,EVS]
  all_goals (obtain c2|c2:=(Bool.eq_false_or_eq_true (decide ((b.toNat:Int)≤122))).symm<;>try simp only[c2,Z2 hb,EVS])
  all_goals (obtain c3|c3:=(Bool.eq_false_or_eq_true (decide ((48:Int)≤b.toNat))).symm<;>try simp only[c3,Z2 hb,EVS])
  all_goals (obtain c4|c4:=(Bool.eq_false_or_eq_true (decide ((b.toNat:Int)≤57))).symm<;>try simp only[c4,Z2 hb,EVS])
  all_goals (obtain c5|c5:=(Bool.eq_false_or_eq_true (decide ((k:Int)=0))).symm<;>try simp only[c5,EVS])
 ·simp only[Zcc,ZaM,EVS]
 ·unfold Zlq
  cases Z9 ZhU 0 s<;>simp only[EVS]
theorem ZjC :∀(l:List UInt8) (k:Nat),Zgv (k==0) l=Z9 ZhU k l
 |[],_=>rfl
 | b::r,k=>by
  have h:=ZjC r (k+1)
  have h1:(k+1==0)=false:=rfl
  rw[h1] at h
  unfold Zgv Z9
  rw[h]
  congr 1
  unfold Zq0 ZhU
  have e1:decide ((48:Int)≤b.toNat)= !decide ((b.toNat:Int)<48):=by rw[Bool.eq_iff_iff];simp
  have e2:decide ((b.toNat:Int)≤57)= !decide ((57:Int)<b.toNat):=by rw[Bool.eq_iff_iff];simp
  have e3:decide ((k:Int)=0)=(k==0):=by rw[Bool.eq_iff_iff];simp
  rw[e1,e2,e3]
theorem Zrw (s:List UInt8):Z4 s=Zlq s:=by
 unfold Z4 Zlq inR
 rw[←ZjC s 0]
 rfl
theorem Zil (s:List UInt8) (hs:s.length≤9223372036854775807):ZcP [.str s]=some (pB (Z4 s)):=(Zn1 s hs).trans (by rw[Zrw])
def Zd4 (s:List UInt8) (n:Int):Bool:=Z9 (fun _ b=>Zik b) 0 s&&(decide ((s.length:Int)=n)&&inR n 1 8)
theorem Zn2 (s:List UInt8) (n:Int) (hs:s.length≤9223372036854775807):ZeO [.str s,pI n]=some (pB (Zd4 s n)):=by
 show (fun x0 x1=>ZeO [x0,x1]) _ _=_
 rw[Zm8]
 refine (congrArg (Zh true) (Zbg (R:=PV) s (fun _ b=>Zik b) (some (pB false)) (some (pB (decide ((s.length:Int)=n)&&inR n 1 8))) _ hs (fun again k b hb=> ?_) (fun again=> ?_))).trans ?_
 ·have hk:=Zu hb
  simp only[Zik,Zbp hk,ZN hk hs,Z2 hb,EVS]
  obtain c1|c1:=(Bool.eq_false_or_eq_true (decide ((b.toNat:Int)=48))).symm<;>simp only[c1,Z2 hb,EVS]
  obtain c2|c2:=(Bool.eq_false_or_eq_true (decide ((b.toNat:Int)=49))).symm<;>simp only[c2,Z2 hb,EVS]
  obtain c3|c3:=(Bool.eq_false_or_eq_true (decide ((b.toNat:Int)=45))).symm<;>simp only[c3,Z2 hb,EVS]
 ·simp only[Zcc,EVS]
  obtain c1|c1:=(Bool.eq_false_or_eq_true (decide ((s.length:Int)=n))).symm<;>simp only[c1,ZaM,EVS]
 ·unfold Zd4
  cases Z9 (fun _ b=>Zik b) 0 s<;>simp only[EVS]
def ixf {α:Type} (q:α→Bool):Nat→List α→Int
 |_,[]=> -1
 |k,x::r=>if q x=true then (k:Int) else ixf q (k+1) r
theorem ZoV {α:Type} (q:α→Bool):∀(l:List α) (k:Nat),rgo (fun k x=>if q x=true then some (some (pI (k:Int))) else none) (some (pI (-1))) k l=some (pI (ixf q k l))
 |[],k=>rfl
 | x::r,k=>by
  unfold rgo ixf
  cases q x
  ·simp[ZoV q r (k+1)]
  ·simp
theorem ZhV {α:Type} (q:α→Bool):∀(l:List α) (k:Nat),decide ((0:Int)≤ixf q k l)= !Z9 (fun _ x=> !q x) k l
 |[],k=>rfl
 | x::r,k=>by
  unfold ixf Z9
  cases q x
  ·simp[ZhV q r (k+1)]
  ·simp
theorem Zhh {α:Type} (l:List α) (q:α→Bool) (f:(List PV→Option PV)→List PV→Option PV) (hl:l.length≤9223372036854775807)
 (h1:∀again k x,l[k]?=some x→f again [pI (Int.ofNat k)]=if q x=true then some (pI (k:Int)) else again [pI (Int.ofNat (k+1))])
 (h2:∀again,f again [pI (Int.ofNat l.length)]=some (pI (-1))):ZO f 18446744073709551616 [pI (Int.ofNat 0)]=some (pI (ixf q 0 l)):=by
 rw[Zp9 l (fun k x=>if q x=true then some (some (pI (k:Int))) else none) (some (pI (-1))) f hl (fun again k x hx=> ?_) h2,ZoV]
 rw[h1 again k x hx]
 cases q x<;>simp
theorem ZmR (l:List PV):ZeG 1 (.tup [.agg l])=some [.agg l]:=by simp[ZeG,PV.parts,PV.isU]
theorem ZhW (a x:List UInt8×Int):ZbN [ZK a,ZK x]=some (pB (decide (a.1=x.1))):=by
 show (fun x0 x1=>ZbN [x0,x1]) _ _=_
 rw[Zhr]
 simp only[ZK,List.drop_zero,EVS]
theorem Za5 (l:List (List UInt8×Int)) (x:List UInt8×Int) (hl:Zae l):Zs [.lst (l.map ZK),.tup [ZK x]]=some (pI (ixf (fun a=>decide (a.1=x.1)) 0 l)):=by
 show (fun x0 x1=>Zs [x0,x1]) _ _=_
 rw[Za3]
 unfold Zae at hl
 simp only[EVS]
 refine (congrArg (Zh true) (Zhh l (fun a=>decide (a.1=x.1)) _ hl (fun again k a hb=> ?_) (fun again=> ?_))).trans ?_
 ·have hk:=Zu hb
  have hi:ZH (.lst (l.map ZK)) (.int .i64 (k:Int))=some (ZK a):=ZA hb
  have g:=ZhW a x
  simp only[ZK] at g
  simp only[Zbp hk,ZN hk hl,hi,ZK,ZmR,List.cons_append,List.nil_append,g,EVS]
 ·simp only[Zcc,EVS]
  rfl
 ·simp only[EVS]
theorem ZaN (l:List (List UInt8×Int)) (x:List UInt8×Int) (hl:Zae l):Zm [.lst (l.map ZK),.tup [ZK x]]=some (pB (!Z9 (fun _ a=> !decide (a.1=x.1)) 0 l)):=by
 show (fun x0 x1=>Zm [x0,x1]) _ _=_
 rw[ZaI]
 simp only[Za5 l x hl,ZhV (fun a:List UInt8×Int=>decide (a.1=x.1)) l 0,EVS]
theorem Zkg (p:Int×Bool) (n:Nat) (hn:n≤9223372036854775807):ZcW [Zcu p,.agg [pI n]]=some (pB (!inR p.1 0 ((n:Int) - 1))):=by
 have hwl:IntKind.i64.wrap ((n:Int) - 1)=(n:Int) - 1:=Zdb (by omega) (by omega)
 show (fun x0 x1=>ZcW [x0,x1]) _ _=_
 rw[ZjS]
 simp only[Zcu,hwl,ZaM,EVS]
theorem ZbK (l:List (Int×Bool)) (n:Nat) (hn:n≤9223372036854775807) (hl:Zae l):ZB [.lst (l.map Zcu),.tup [.agg [pI n]]]=some (pI (ixf (fun p=> !inR p.1 0 ((n:Int) - 1)) 0 l)):=by
 show (fun x0 x1=>ZB [x0,x1]) _ _=_
 rw[ZbD]
 unfold Zae at hl
 simp only[EVS]
 refine (congrArg (Zh true) (Zhh l (fun p=> !inR p.1 0 ((n:Int) - 1)) _ hl (fun again k a hb=> ?_) (fun again=> ?_))).trans ?_
 ·have hk:=Zu hb
  have hi:ZH (.lst (l.map Zcu)) (.int .i64 (k:Int))=some (Zcu a):=ZA hb
  have g:=Zkg a n hn
  simp only[Zcu] at g
  simp only[Zbp hk,ZN hk hl,hi,Zcu,ZmR,List.cons_append,List.nil_append,g,EVS]
 ·simp only[Zcc,EVS]
  rfl
 ·simp only[EVS]
def ZbS (l:List (Int×Bool)) (n:Nat):Bool:=Z9 (fun _ p=>inR p.1 0 ((n:Int) - 1)) 0 l
theorem Zim (l:List (Int×Bool)) (n:Nat) (hn:n≤9223372036854775807) (hl:Zae l):Zc4 [.lst (l.map Zcu),pI n]=some (pB (ZbS l n)):=by
 have g:Zv [.lst (l.map Zcu),.tup [.agg [pI n]]]=some (pB (!Z9 (fun _ p=>inR p.1 0 ((n:Int) - 1)) 0 l)):=by
  show (fun x0 x1=>Zv [x0,x1]) _ _=_
  rw[Zbl]
  simp only[ZbK l n hn hl,ZhV (fun p:Int×Bool=> !inR p.1 0 ((n:Int) - 1)) l 0,Bool.not_not,EVS]
 show (fun x0 x1=>Zc4 [x0,x1]) _ _=_
 rw[ZlP]
 have lt:∀{R:Type} (l:List PV) (x:Option R),Za [.tup l] x=x:=fun l x=>(Eq.refl _).trans (Eq.refl _)
 simp only[lt,g,List.drop_zero,Bool.not_not,ZbS,EVS]
theorem Zlr (w:PWire) (x:List UInt8):Zdg [Zr w,.agg [.str x]]=some (pB (decide (w.name=x))):=by
 show (fun x0 x1=>Zdg [x0,x1]) _ _=_
 rw[Zkk]
 simp only[Zr,List.drop_zero,EVS]
theorem Zn3 (l:List PWire) (x:List UInt8) (hl:Zae l):ZeQ [.lst (l.map Zr),.str x]=some (pI (ixf (fun w:PWire=>decide (w.name=x)) 0 l)):=by
 unfold Zae at hl
 have g:ZD [.lst (l.map Zr),.tup [.agg [.str x]]]=some (pI (ixf (fun w:PWire=>decide (w.name=x)) 0 l)):=by
  show (fun x0 x1=>ZD [x0,x1]) _ _=_
  rw[ZbF]
  simp only[EVS]
  refine (congrArg (Zh true) (Zhh l (fun w:PWire=>decide (w.name=x)) _ hl (fun again k a hb=> ?_) (fun again=> ?_))).trans ?_
  ·have hk:=Zu hb
   have hi:ZH (.lst (l.map Zr)) (.int .i64 (k:Int))=some (Zr a):=ZA hb
   have g:=Zlr a x
   simp only[Zr] at g
   simp only[Zbp hk,ZN hk hl,hi,Zr,ZmR,List.cons_append,List.nil_append,g,EVS]
  ·simp only[Zcc,EVS]
   rfl
  ·simp only[EVS]
 show (fun x0 x1=>ZeQ [x0,x1]) _ _=_
 rw[Zna]
 have lt:∀{R:Type} (l:List PV) (x:Option R),Za [.tup l] x=x:=fun l x=>(Eq.refl _).trans (Eq.refl _)
 simp only[lt,g,List.drop_zero,Bool.not_not,EVS]
theorem Zgw (c:List UInt8) (n:Int) (hc:Zae c):Zbe [.str c,.agg [pI n]]=some (pB (!Zd4 c n)):=by
 show (fun x0 x1=>Zbe [x0,x1]) _ _=_
 rw[ZfW]
 simp only[Zn2 c n hc,EVS]
theorem ZaW (l:List (List UInt8)) (n:Int) (hl:Zae l) (hc:∀c∈l,Zae c):Zo [.lst (l.map PV.str),.tup [.agg [pI n]]]=some (pI (ixf (fun c:List UInt8=> !Zd4 c n) 0 l)):=by
 unfold Zae at hl
 show (fun x0 x1=>Zo [x0,x1]) _ _=_
 rw[ZaR]
 simp only[EVS]
 refine (congrArg (Zh true) (Zhh l (fun c:List UInt8=> !Zd4 c n) _ hl (fun again k a hb=> ?_) (fun again=> ?_))).trans ?_
 ·have hk:=Zu hb
  have hi:ZH (.lst (l.map PV.str)) (.int .i64 (k:Int))=some (.str a):=ZA hb
  have g:=Zgw a n (hc a (List.mem_of_getElem? hb))
  simp only[Zbp hk,ZN hk hl,hi,ZmR,List.cons_append,List.nil_append,g,EVS]
 ·simp only[Zcc,EVS]
  rfl
 ·simp only[EVS]
theorem eqPin (a c:Int) (b d:Bool):eqV (some [(0,TD.int .i64),(1,TD.bool)]) .struct (.agg [pI a,pB b]) (.agg [pI c,pB d])=some (decide (a=c)&&(b==d)):=by
 simp[eqV,Zi8,scEq,Zd0]
theorem Zrx :ZC.bool.pv=pB false:=(Eq.refl _).trans (Eq.refl _)
theorem sp12 (a b c:PV):splice [a,b] 0 [c]=[c,b]:=(Eq.refl _).trans (Eq.refl _)
def ZaO (n:Int) (l:List (List UInt8)):Bool:=(inR n 1 8&&decide ((l.length:Int)≤60))&&Z9 (fun _ c=>Zd4 c n) 0 l
def Zdy (n:PNet) (k:Nat) (w:PWire):Bool:=
 if decide (w.kind=1)=true then decide ((w.ins.length:Int)=0)
 else if (decide (w.kind=2)||decide (w.kind=3))=true then inR w.ins.length 1 8
 else if decide (w.kind=4)=true then decide ((w.ins.length:Int)=2)
 else if decide (w.kind=5)=true then ZaO n.signals.length w.cover&&(decide ((w.ins.length:Int)=0)||(match w.ins with|[p]=>decide (p.1=(k:Int))&&(p.2==false)|_=>false))
 else false
def ZmS (n:PNet) (k:Nat) (w:PWire):Bool:= !((!decide (w.kind=5)&&decide ((0:Int)<w.cover.length))|| !ZbS w.ins n.wires.length)&&Zdy n k w
theorem Zn4 (h160:∀(n:Int) (l:List (List UInt8)),Zae l→(∀c∈l,Zae c)→Zaf [pI n,.lst (l.map PV.str)]=some (pB (ZaO n l))) (n:PNet) (k:Nat) (w:PWire) (hn:n.Fit) (hk:n.wires[k]?=some w):ZeR [Z0 n,pI k]=some (pB (ZmS n k w)):=by
 have hw:=hn.wire w (List.mem_of_getElem? hk)
 have g1:=h160 n.signals.length w.cover hw.cover hw.cubes
 have hwl:=hn.wires
 unfold Zae at hwl
 have g2:=Zim w.ins n.wires.length hwl hw.ins
 have hi:ZH (.lst (n.wires.map Zr)) (.int .i64 (k:Int))=some (Zr w):=ZA hk
 show (fun x0 x1=>ZeR [x0,x1]) _ _=_
 rw[Znc]
 simp only[Z0,hi,Zr,EVS]
 unfold ZmS
 obtain c1|c1:=(Bool.eq_false_or_eq_true (!decide (w.kind=5))).symm<;>simp only[c1,g2,EVS]
 ·obtain c2|c2:=(Bool.eq_false_or_eq_true (ZbS w.ins n.wires.length)).symm<;>simp only[c1,c2,g2,EVS]
  have c5:decide (w.kind=5)=true:=by simpa using c1
  have e1:decide (w.kind=1)=false:=by have:=of_decide_eq_true c5;simp;omega
  have e2:decide (w.kind=2)=false:=by have:=of_decide_eq_true c5;simp;omega
  have e3:decide (w.kind=3)=false:=by have:=of_decide_eq_true c5;simp;omega
  have e4:decide (w.kind=4)=false:=by have:=of_decide_eq_true c5;simp;omega
  simp only[Zee,Zdy,e1,e2,e3,e4,c5,g1,EVS]
  obtain c3|c3:=(Bool.eq_false_or_eq_true (ZaO n.signals.length w.cover)).symm<;>simp only[c3,EVS]
  have h01:decide ((0:Int)=1)=false:=rfl
  have h00:decide ((0:Int)=0)=true:=rfl
  have h11:decide ((1:Int)=1)=true:=rfl
  have h10:decide ((1:Int)=0)=false:=rfl
  rcases hq:w.ins with _|⟨p,_|⟨q,r⟩⟩
  ·simp only[List.length_nil,h00,EVS]
  ·have hi:ZH (.lst ([p].map Zcu)) (.int .i64 0)=some (Zcu p):=rfl
   simp only[List.length_cons,List.length_nil,Nat.zero_add,h11,h10,hi,Zcu,Zrx,sp12,eqPin,List.drop_zero,List.drop_succ_cons,EVS]
  ·have h2:decide (((r.length+1+1:Nat):Int)=0)=false:=by simp;omega
   have h3:decide (((r.length+1+1:Nat):Int)=1)=false:=by simp;omega
   simp only[List.length_cons,h2,h3,EVS]
 ·have c5:decide (w.kind=5)=false:=by simpa using c1
  obtain c2|c2:=(Bool.eq_false_or_eq_true (decide ((0:Int)<w.cover.length))).symm<;>simp only[c1,c2,g2,EVS]
  obtain c3|c3:=(Bool.eq_false_or_eq_true (ZbS w.ins n.wires.length)).symm<;>simp only[c3,EVS]
  simp only[Zee,Zdy,c5,EVS]
  obtain e1|e1:=(Bool.eq_false_or_eq_true (decide (w.kind=1))).symm<;>simp only[e1,EVS]
  obtain e2|e2:=(Bool.eq_false_or_eq_true (decide (w.kind=2))).symm<;>simp only[e2,ZaM,EVS]
  obtain e3|e3:=(Bool.eq_false_or_eq_true (decide (w.kind=3))).symm<;>simp only[e3,ZaM,EVS]
  obtain e4|e4:=(Bool.eq_false_or_eq_true (decide (w.kind=4))).symm<;>simp only[e4,EVS]
theorem ZcM (n:Int) (l:List (List UInt8)) (hl:Zae l) (hc:∀c∈l,Zae c):Zaf [pI n,.lst (l.map PV.str)]=some (pB (ZaO n l)):=by
 have g:Zk [.lst (l.map PV.str),.tup [.agg [pI n]]]=some (pB (!Z9 (fun _ c=>Zd4 c n) 0 l)):=by
  show (fun x0 x1=>Zk [x0,x1]) _ _=_
  rw[Zay]
  simp only[ZaW l n hl hc,ZhV (fun c:List UInt8=> !Zd4 c n) l 0,Bool.not_not,EVS]
 show (fun x0 x1=>Zaf [x0,x1]) _ _=_
 rw[Zhs]
 simp only[ZaM,ZiY,List.drop_zero,ZaO,EVS]
 obtain c1|c1:=(Bool.eq_false_or_eq_true (inR n 1 8)).symm<;>simp only[c1,EVS]
 obtain c2|c2:=(Bool.eq_false_or_eq_true (decide ((l.length:Int)≤60))).symm<;>simp only[c2,ZiY,g,Bool.not_not,EVS]
def ZhX (l:List (List UInt8×Int)) (k:Nat) (s:List UInt8×Int):Bool:=(Z4 s.1&&inR s.2 1 3)&&Z9 (fun _ a=> !decide (a.1=s.1)) 0 (l.take k)
def Zin (l:List (List UInt8×Int)):Bool:=Z9 (ZhX l) 0 l&&inR l.length 1 8
theorem Zfu (l:List (List UInt8×Int)) (hl:Zae l) (hs:∀s∈l,Zae s.1):Zbz [.lst (l.map ZK)]=some (pB (Zin l)):=by
 unfold Zae at hl
 show (fun x0=>Zbz [x0]) _=_
 rw[Ziw]
 simp only[EVS]
 refine (congrArg (Zh true) (Zbg (R:=PV) l (ZhX l) (some (pB false)) (some (pB (inR l.length 1 8))) _ hl (fun again k s hb=> ?_) (fun again=> ?_))).trans ?_
 ·have hk:=Zu hb
  have hi:ZH (.lst (l.map ZK)) (.int .i64 (k:Int))=some (ZK s):=ZA hb
  have hc:Zis 2 (.lst (l.map ZK)) none (some (.int .i64 (k:Int)))=some (.lst ((l.take k).map ZK)):=ZiA ZkE (by omega)
  have hn:=Zil s.1 (hs s (List.mem_of_getElem? hb))
  have g:=ZaN (l.take k) s (by show (l.take k).length≤_;simp;omega)
  simp only[ZK] at g
  simp only[Zbp hk,ZN hk hl,hi,ZK,hn,ZhX,EVS]
  obtain c1|c1:=(Bool.eq_false_or_eq_true (Z4 s.1)).symm<;>simp only[c1,ZaM,EVS]
  obtain c2|c2:=(Bool.eq_false_or_eq_true (inR s.2 1 3)).symm<;>simp only[c2,EVS]
  simp only[hc,List.drop_zero,ZiY,g,EVS]
  obtain c3|c3:=(Bool.eq_false_or_eq_true (Z9 (fun _ (a:List UInt8×Int)=> !decide (a.1=s.1)) 0 (l.take k))).symm<;>simp only[c3,EVS]
 ·simp only[Zcc,ZaM,EVS]
 ·unfold Zin
  cases Z9 (ZhX l) 0 l<;>simp only[EVS]
def Zdz (n:PNet) (k:Nat) (w:PWire):Bool:=
 (ZmS n k w&&Z4 w.name&&Z9 (fun _ v=> !decide (v.name=w.name)) 0 (n.wires.take k))&&
 (if decide ((k:Int)<(n.signals.length:Int))=true then Zdx n k w else (decide (w.kind=2)||decide (w.kind=3))&&ZbS w.ins k)
def netI (n:PNet):Bool:=(Zin n.signals&&inR n.wires.length n.signals.length 24)&&Z9 (Zdz n) 0 n.wires
theorem Zgx (n:PNet) (hn:n.Fit):Zaw [Z0 n]=some (pB (netI n)):=by
 have g1:=Zfu n.signals hn.signals hn.names
 have hwl:=hn.wires
 unfold Zae at hwl
 show (fun x0=>Zaw [x0]) _=_
 rw[Zf0]
 simp only[Z0,g1,EVS]
 unfold netI
 obtain c1|c1:=(Bool.eq_false_or_eq_true (Zin n.signals)).symm<;>simp only[c1,ZaM,EVS]
 obtain c2|c2:=(Bool.eq_false_or_eq_true (inR n.wires.length n.signals.length 24)).symm<;>simp only[c2,EVS]
 refine (congrArg (Zh true) (Zbg (R:=PV) n.wires (Zdz n) (some (pB false)) (some (pB true)) _ hwl (fun again k w hb=> ?_) (fun again=> ?_))).trans ?_
 ·have hk:=Zu hb
  have hw:=hn.wire w (List.mem_of_getElem? hb)
  have hi:ZH (.lst (n.wires.map Zr)) (.int .i64 (k:Int))=some (Zr w):=ZA hb
  have hc:Zis 4 (.lst (n.wires.map Zr)) none (some (.int .i64 (k:Int)))=some (.lst ((n.wires.take k).map Zr)):=ZiA ZjB (by omega)
  have g2:=Zn4 ZcM n k w hn hb
  have g3:=Zil w.name hw.name
  have g4:=Zn3 (n.wires.take k) w.name (by show (n.wires.take k).length≤_;simp;omega)
  have g5:=Zim w.ins k (by omega) hw.ins
  simp only[Z0] at g2
  simp only[Zbp hk,ZN hk hwl,hi,Zr,Zdz,g2,EVS]
  obtain c1|c1:=(Bool.eq_false_or_eq_true (ZmS n k w)).symm<;>simp only[c1,g3,EVS]
  obtain c2|c2:=(Bool.eq_false_or_eq_true (Z4 w.name)).symm<;>simp only[c2,hc,g4,EVS]
  simp only[ZhV (fun v:PWire=>decide (v.name=w.name)) (n.wires.take k) 0]
  obtain c3|c3:=(Bool.eq_false_or_eq_true (Z9 (fun _ (v:PWire)=> !decide (v.name=w.name)) 0 (n.wires.take k))).symm<;>simp only[c3,Zee,EVS]
  obtain c4|c4:=(Bool.eq_false_or_eq_true (decide ((k:Int)<(n.signals.length:Int)))).symm<;>simp only[c4,EVS]
  ·obtain c5|c5:=(Bool.eq_false_or_eq_true (decide (w.kind=2))).symm<;>simp only[c5,g5,EVS]
   ·obtain c6|c6:=(Bool.eq_false_or_eq_true (decide (w.kind=3))).symm<;>simp only[c6,g5,EVS]
    obtain c7|c7:=(Bool.eq_false_or_eq_true (ZbS w.ins k)).symm<;>simp only[c7,ZN hk hwl,EVS]
   ·obtain c7|c7:=(Bool.eq_false_or_eq_true (ZbS w.ins k)).symm<;>simp only[c7,ZN hk hwl,EVS]
  ·have hks:k<n.signals.length:=by have:=of_decide_eq_true c4;omega
   have hs:n.signals[k]?=some n.signals[k]:=List.getElem?_eq_getElem hks
   have hi2:ZH (.lst (n.signals.map ZK)) (.int .i64 (k:Int))=some (ZK n.signals[k]):=ZA hs
   simp only[Zdx,hs,hi2,ZK,List.drop_zero,List.drop_succ_cons,EVS]
   obtain c5|c5:=(Bool.eq_false_or_eq_true (decide (w.name=n.signals[k].1))).symm<;>simp only[c5,hi2,ZK,List.drop_zero,List.drop_succ_cons,EVS]
   obtain c6|c6:=(Bool.eq_false_or_eq_true (decide (w.kind=1)==decide (n.signals[k].2=1))).symm<;>simp only[bne,c6,ZN hk hwl,EVS]
 ·simp only[Zcc,EVS]
 ·cases Z9 (Zdz n) 0 n.wires<;>simp only[EVS]
theorem Zem {α:Type} (q:α→Bool):∀(l:List α) (k:Nat),Z9 (fun _ x=>q x) k l=l.all q
 |[],_=>rfl
 |x::r,k=>by unfold Z9;rw[Zem q r (k+1),List.all_cons]
theorem ZcN {α:Type} (f g:Nat→α→Bool) (h:∀k x,f k x=g k x):∀(l:List α) (k:Nat),Z9 f k l=Z9 g k l
 |[],_=>rfl
 |x::r,k=>by unfold Z9;rw[h k x,ZcN f g h r (k+1)]
theorem ZoW (l:List (List UInt8×Int)):ZdL l=Zin l:=by
 unfold ZdL Zin
 rw[ZcN (Zhg l) (ZhX l) (fun k x=> ?_) l 0]
 unfold Zhg ZhX
 rw[ZcN (fun _ (y:List UInt8×Int)=> !decide (x.1=y.1)) (fun _ (y:List UInt8×Int)=> !decide (y.1=x.1)) (fun _ y=>by simp[eq_comm]) _ 0]
theorem ZjD (n:Int) (l:List (List UInt8)):ZcB n l=ZaO n l:=by
 unfold ZcB ZaO ZfO
 rw[Bool.and_comm,Bool.eq_iff_iff]
 simp only[Bool.and_eq_true]
 refine and_congr_right fun h=> ?_
 rw[ZcN (fun _ c=>Zf5 c&&decide ((c.length:Int)=n)) (fun _ c=>Zd4 c n) (fun _ c=> ?_) l 0]
 unfold Zf5 Zd4 inR
 rw[Bool.eq_iff_iff]
 simp only[Bool.and_eq_true,decide_eq_true_eq]
 constructor
 ·rintro ⟨⟨h1,h2,h3⟩,h4⟩
  exact ⟨h1,h4,by omega,by omega⟩
 ·rintro ⟨h1,h2,h3,h4⟩
  exact ⟨⟨h1,by omega,by omega⟩,h2⟩
theorem ZpD (n:PNet) (k:Nat) (l:List (Int×Bool)) (h:k<n.signals.length):Z9 (fun _ p=>Zf7 n k p) 0 l=ZbS l n.wires.length:=by
 unfold ZbS
 refine ZcN _ _ (fun _ p=> ?_) l 0
 unfold Zf7
 have:decide ((n.signals.length:Int)≤k)=false:=by simp;omega
 rw[this]
 simp
theorem ZpE (n:PNet) (k:Nat) (l:List (Int×Bool)) (h:¬k<n.signals.length):Z9 (fun _ p=>Zf7 n k p) 0 l=(ZbS l n.wires.length&&ZbS l k):=by
 unfold ZbS
 rw[Zem,Zem,Zem,Bool.eq_iff_iff]
 have:decide ((n.signals.length:Int)≤k)=true:=by simp;omega
 simp only[Bool.and_eq_true,List.all_eq_true,Zf7,inR,this,Bool.true_and,Bool.not_eq_true',decide_eq_true_eq,decide_eq_false_iff_not]
 constructor
 ·intro h
  exact ⟨fun p hp=>(h p hp).1,fun p hp=>⟨(h p hp).1.1,by have:=(h p hp).2;omega⟩⟩
 ·rintro ⟨h1,h2⟩ p hp
  exact ⟨h1 p hp,by have:=(h2 p hp).2;omega⟩
theorem Zrz (n:PNet) (k:Nat) (w:PWire):(inR w.kind 1 5&&((if decide (w.kind=5)=true then ZaO n.signals.length w.cover else !decide ((0:Int)<w.cover.length))&&Zde k w.kind w.ins))=(!(!decide (w.kind=5)&&decide ((0:Int)<w.cover.length))&&Zdy n k w):=by
 unfold Zde Zdy
 by_cases h1:w.kind=1
 ·simp[h1,inR]
 by_cases h2:w.kind=2
 ·simp[h2,inR]
 by_cases h3:w.kind=3
 ·simp[h3,inR]
 by_cases h4:w.kind=4
 ·simp[h4,inR]
 by_cases h5:w.kind=5
 ·obtain ⟨nm,kd,ins,cov⟩:=w
  simp only at h5
  rcases ins with _|⟨p,_|⟨q,r⟩⟩<;>simp[h5,inR]
 ·have:inR w.kind 1 5=false:=by
   unfold inR
   simp only[Bool.and_eq_false_iff,decide_eq_false_iff_not]
   omega
  simp[this,h1,h2,h3,h4,h5]
theorem ZrA (n:PNet) (k:Nat) (w:PWire):ZbJ n k w=Zdz n k w:=by
 unfold ZbJ Zdz ZjA ZmS Zjz
 have hf:=Zrz n k w
 rw[ZjD]
 by_cases hk:k<n.signals.length
 ·have hd:decide ((k:Int)<(n.signals.length:Int))=true:=by simpa using hk
  rw[ZpD n k w.ins hk]
  simp only[hd,if_true,Bool.true_or,Bool.not_true,Bool.false_or,Bool.not_false,Bool.false_eq_true,if_false,Bool.true_and]
  revert hf
  generalize inR w.kind 1 5=a1
  generalize (if decide (w.kind=5)=true then ZaO (↑n.signals.length) w.cover else !decide ((0:Int)<↑w.cover.length))=a2
  generalize Zde k w.kind w.ins=a3
  generalize (!decide (w.kind=5)&&decide ((0:Int)<w.cover.length))=a4
  generalize Zdy n k w=a5
  generalize ZbS w.ins n.wires.length=a6
  generalize Zdx n k w=a7
  generalize Z4 w.name=a8
  generalize Z9 (fun _ (v:PWire)=> !decide (v.name=w.name)) 0 (n.wires.take k)=a9
  cases a1<;>cases a2<;>cases a3<;>cases a4<;>cases a5<;>cases a6<;>cases a7<;>cases a8<;>cases a9<;>decide
 ·have hd:decide ((k:Int)<(n.signals.length:Int))=false:=by simpa using hk
  rw[ZpE n k w.ins hk]
  simp only[hd,if_true,Bool.true_or,Bool.not_true,Bool.false_or,Bool.not_false,Bool.false_eq_true,if_false,Bool.true_and]
  revert hf
  generalize inR w.kind 1 5=a1
  generalize (if decide (w.kind=5)=true then ZaO (↑n.signals.length) w.cover else !decide ((0:Int)<↑w.cover.length))=a2
  generalize Zde k w.kind w.ins=a3
  generalize (!decide (w.kind=5)&&decide ((0:Int)<w.cover.length))=a4
  generalize Zdy n k w=a5
  generalize ZbS w.ins n.wires.length=a6
  generalize Z4 w.name=a8
  generalize ZbS w.ins k=a7
  generalize decide (w.kind=2)=b2
  generalize decide (w.kind=3)=b3
  generalize Z9 (fun _ (v:PWire)=> !decide (v.name=w.name)) 0 (n.wires.take k)=a9
  cases a1<;>cases a2<;>cases a3<;>cases a4<;>cases a5<;>cases a6<;>cases a7<;>cases a8<;>cases a9<;>cases b2<;>cases b3<;>decide
theorem net_eq (n:PNet):Zft n=netI n:=by
 unfold Zft netI
 rw[ZoW,ZcN (ZbJ n) (Zdz n) (fun k x=>ZrA n k x) n.wires 0]
 congr 2
 unfold inR
 rw[Bool.eq_iff_iff]
 simp
theorem ZfP {α:Type} (q:Nat→α→Bool):∀(l:List α) (j:Nat),Z9 q j l=true→∀(i:Nat) (x:α),l[i]?=some x→q (j+i) x=true
 |[],j,_,i,x,hx=>by simp at hx
 | y::r,j,h,i,x,hx=>by
  unfold Z9 at h
  rw[Bool.and_eq_true] at h
  cases i with
  |zero=>simp at hx;subst hx;simpa using h.1
  | succ i=>
   have:=ZfP q r (j+1) h.2 i x (by simpa using hx)
   rw[show j+(i+1)=j+1+i by omega]
   exact this
theorem ZjE {α:Type} (q:α→Bool) {l:List α} (h:Z9 (fun _ x=>q x) 0 l=true) {x:α} (hx:x∈l):q x=true:=by
 rw[Zem] at h
 exact List.all_eq_true.1 h x hx
structure PGate where
 sig:Int
 kind:Int
 set:List (List UInt8)
 reset:List (List UInt8)
structure PCirc where
 signals:List (List UInt8×Int)
 gates:List PGate
abbrev ZaU (g:PGate):PV:=.agg [pI g.sig,pI g.kind,.lst (g.set.map PV.str),.lst (g.reset.map PV.str)]
abbrev Zc0 (c:PCirc):PV:=.agg [.lst (c.signals.map ZK),.lst (c.gates.map ZaU)]
structure PGate.Fit (g:PGate):Prop where
 set:Zae g.set
 sets:∀c∈g.set,Zae c
 reset:Zae g.reset
 resets:∀c∈g.reset,Zae c
structure PCirc.Fit (c:PCirc):Prop where
 signals:Zae c.signals
 names:∀s∈c.signals,Zae s.1
 gates:Zae c.gates
 gate:∀g∈c.gates,g.Fit
def Zbq (n:Int) (g:PGate):Bool:=
 if decide (g.kind=1)=true then ZcB n g.set&&decide ((g.reset.length:Int)=0)
 else if decide (g.kind=2)=true then ZcB n g.set&&ZcB n g.reset else false
def Zaq :Nat→List (List UInt8×Int)→List Int
 |_,[]=>[]
 |k,s::r=>if decide (s.2=1)=true then Zaq (k+1) r else (k:Int)::Zaq (k+1) r
def Zhi (c:PCirc):Bool:=ZdL c.signals&&(decide (c.gates.map (·.sig)=Zaq 0 c.signals)&&c.gates.all (Zbq c.signals.length))
theorem ZmT (c:PCirc) (g:PGate) (hg:g.Fit):ZdO [Zc0 c,ZaU g]=some (pB (Zbq c.signals.length g)):=by
 have g1:=Zfs c.signals.length g.set hg.set hg.sets
 have g2:=Zfs c.signals.length g.reset hg.reset hg.resets
 show (fun x0 x1=>ZdO [x0,x1]) _ _=_
 rw[ZlC]
 unfold Zbq
 simp only[Zc0,ZaU,List.length_map,EVS]
 cases c1:decide (g.kind=1)<;>cases c2:decide (g.kind=2)<;>cases c3:ZcB (c.signals.length:Int) g.set<;>rw[c3] at g1<;>simp only[c1,c2,g1,g2,List.length_map,if_true,EVS]
def Zfv (n:Int) (gs:List PGate):Nat→Nat→List (List UInt8×Int)→Bool
 |at_,_,[]=>decide (at_=gs.length)
 | at_,k,s::r=>if decide (s.2=1)=true then Zfv n gs at_ (k+1) r else
  match gs[at_]? with
  |none=>false
  |some g=>if (decide (g.sig=(k:Int))&&Zbq n g)=true then Zfv n gs (at_+1) (k+1) r else false
theorem ZhY (n:Int) (gs:List PGate):∀(l:List (List UInt8×Int)) (at_ k:Nat),at_≤gs.length→Zfv n gs at_ k l=(decide ((gs.drop at_).map (·.sig)=Zaq k l)&&(gs.drop at_).all (Zbq n))
 | [],at_,k,h=>by
  unfold Zfv Zaq
  by_cases e:at_=gs.length
  ·subst e;simp
  ·have:gs.drop at_≠[]:=by intro hc;rw[List.drop_eq_nil_iff] at hc;omega
   simp[e,this];omega
 | s ::r,at_,k,h=>by
  unfold Zfv Zaq
  cases c1:decide (s.2=1)
  ·simp only[Bool.false_eq_true,if_false]
   by_cases e:at_<gs.length
   ·rw[List.getElem?_eq_getElem e,List.drop_eq_getElem_cons e]
    simp only[List.map_cons,List.all_cons]
    have ih:=ZhY n gs r (at_+1) (k+1) e
    by_cases e1:gs[at_].sig=(k:Int)
    ·cases e2:Zbq n gs[at_]
     ·simp[e1]
     ·simp[e1,ih]
    ·simp[e1]
   ·rw[List.getElem?_eq_none (by omega),List.drop_eq_nil_iff.2 (by omega)]
    simp
  ·simp only[if_true]
   exact ZhY n gs r at_ (k+1) h
theorem Zls {R:Type} (n:Int) (gs:List PGate) (z:Bool→Option R):∀(l:List (List UInt8×Int)) (k at_:Nat),Zgd (R:=R) (fun (at_:Nat) k (s:List UInt8×Int)=>if decide (s.2=1)=true then .inl at_ else match gs[at_]? with
 |none=>.inr (z false)
 |some g=>if (decide (g.sig=(k:Int))&&Zbq n g)=true then .inl (at_+1) else .inr (z false)) (fun at_=>z (decide (at_=gs.length))) k at_ l=z (Zfv n gs at_ k l)
 |[],k,at_=>by unfold Zgd Zfv;rfl
 | s ::r,k,at_=>by
  unfold Zgd Zfv
  cases c1:decide (s.2=1)
  ·simp only[Bool.false_eq_true,if_false]
   cases gs[at_]? with
   |none=>rfl
   | some g=>
    dsimp only
    cases c2:(decide (g.sig=(k:Int))&&Zbq n g)
    ·simp
    ·simp only[if_true];exact Zls n gs z r (k+1) (at_+1)
  ·simp only[if_true];exact Zls n gs z r (k+1) at_
theorem ZmU (c:PCirc) (hc:c.Fit):ZdP [Zc0 c]=some (pB (Zhi c)):=by
 have hg1:=hc.gates
 have hs1:=hc.signals
 unfold Zae at hg1 hs1
 have g1:=Zf6 c.signals hs1 hc.names
 show (fun x0=>ZdP [x0]) _=_
 rw[ZlE]
 unfold Zhi
 simp only[Zc0,EVS]
 cases c1:ZdL c.signals<;>rw[c1] at g1<;>simp only[g1,EVS]
 have h8:c.signals.length≤8:=by
  unfold ZdL inR at c1;simp only[Bool.and_eq_true,decide_eq_true_eq] at c1;omega
 refine (congrArg (Zh true) (Zqt (R:=PV) c.signals (fun (at_:Nat) k=>[pI (Int.ofNat at_),pI (Int.ofNat k)]) (fun k at_=>at_≤k∧at_≤c.gates.length) (fun (at_:Nat) k (s:List UInt8×Int)=>if decide (s.2=1)=true then .inl at_ else match c.gates[at_]? with
  |none=>.inr (some (pB false))
  |some g=>if (decide (g.sig=(k:Int))&&Zbq c.signals.length g)=true then .inl (at_+1) else .inr (some (pB false))) (fun at_=>some (pB (decide (at_=c.gates.length)))) _ (by omega) (fun a k s a' hi hf he=> ?_) (fun again a k s hi hf=> ?_) (fun again a hi=> ?_) (b:=0) ⟨Nat.le_refl _,Nat.zero_le _⟩)).trans ?_
 ·split at he
  ·cases he;omega
  ·split at he
   ·cases he
   ·rename_i g hg
    split at he
    ·cases he;have:=Zu hg;omega
    ·cases he
 ·have hk:=Zu hf
  have hx:ZH (.lst (c.signals.map ZK)) (.int .i64 (k:Int))=some (ZK s):=ZA hf
  have hn:=ZN hk (show c.signals.length≤9223372036854775807 by omega)
  simp only[Zbp hk,hx,ZK,sp2,Zdl,hn,EVS]
  cases c2:decide (s.2=1)
  ·simp only[Bool.false_eq_true,if_false,EVS]
   by_cases e:a<c.gates.length
   ·have he:c.gates[a]?=some c.gates[a]:=List.getElem?_eq_getElem e
    have hy:ZH (.lst (c.gates.map ZaU)) (.int .i64 (a:Int))=some (ZaU c.gates[a]):=ZA he
    have d1:decide ((a:Int)=(c.gates.length:Int))=false:=by simp;omega
    have g2:=ZmT c c.gates[a] (hc.gate _ (List.getElem_mem e))
    have hwn:IntKind.i64.wrap ((a:Int)+1)=((a+1:Nat):Int):=by rw[Zdb (by omega) (by omega)];omega
    rw[he]
    simp only[Zc0,ZaU] at g2 hy
    cases c3:decide (c.gates[a].sig=(k:Int))<;>cases c4:Zbq c.signals.length c.gates[a]<;>rw[c4] at g2<;>simp only[d1,hy,c3,c4,g2,hwn,List.drop_zero,List.length_map,Bool.false_eq_true,if_false,if_true,EVS]
   ·have he:c.gates[a]?=none:=List.getElem?_eq_none (by omega)
    have d1:decide ((a:Int)=(c.gates.length:Int))=true:=by simp;omega
    rw[he]
    simp only[d1,List.length_map,EVS]
  ·simp only[if_true,EVS]
 ·have d1:decide ((a:Int)=(c.gates.length:Int))=decide (a=c.gates.length):=by rw[decide_eq_decide];omega
  simp only[Zcc,d1,List.length_map,EVS]
 ·have h1:=Zls (c.signals.length:Int) c.gates (fun b=>some (pB b)) c.signals 0 0
  rw[h1,ZhY _ _ _ _ _ (Nat.zero_le _),List.drop_zero]
  simp only[EVS]
theorem Z7 {R:Type} (b:Nat) (st:Nat→List PV) (e:Option R) (f:(List PV→Option R)→List PV→Option R) (hm:b≤9223372036854775807) (h1:∀again k,k<b→f again (st k)=again (st (k+1))) (h2:∀again,f again (st b)=e) (J:List PV) (hJ:st 0=J):ZO f 18446744073709551616 J=e:=by
 subst hJ
 exact Zfc (R:=R) (fun k:{k:Nat // k≤b}=>st k.1) (fun k=>b+1 - k.1) (fun _=>e) f (fun again k ih=>by
  obtain ⟨k,hk⟩:=k
  dsimp only at ih⊢
  by_cases c:k<b
  ·rw[h1 again k c];exact ih ⟨k+1,c⟩ (by simp only;omega)
  ·obtain rfl:k=b:=by omega
   exact h2 again) 18446744073709551616 ⟨0,Nat.zero_le _⟩ (by simp only;omega)
theorem Ziu (c:PCirc) (hc:c.gates.length≤1048576):Zb7 [Zc0 c]=some (.lst ((c.gates.map (·.sig)).map pI)):=by
 have hm:(c.gates.map (·.sig)).map pI=c.gates.map fun g=>pI g.sig:=by rw[List.map_map];rfl
 rw[hm]
 show (fun x0=>Zb7 [x0]) _=_
 rw[Zh4]
 simp only[Zc0,EVS]
 refine Z7 (R:=PV) c.gates.length (fun k=>[.lst ((c.gates.take k).map fun g=>pI g.sig),pI (Int.ofNat k)]) (some (.lst (c.gates.map fun g=>pI g.sig))) _ (by omega) (fun again k k2=> ?_) (fun again=> ?_) _ (by rw[List.take_zero])
 ·have hk:c.gates[k]?=some c.gates[k]:=List.getElem?_eq_getElem k2
  have hx:ZH (.lst (c.gates.map ZaU)) (.int .i64 (k:Int))=some (ZaU c.gates[k]):=ZA hk
  have hl:(c.gates.take k).length=k:=by simp;omega
  have hlb:(c.gates.take k).length+[pI c.gates[k].sig].length≤4294967296∧[pI c.gates[k].sig].all (Zao 1)=true:=⟨by simp;omega,rfl⟩
  have hn:=ZN k2 (show c.gates.length≤9223372036854775807 by omega)
  simp only[Zbp k2,hx,ZaU,Zdm,sp4,if_pos hlb,hn,List.length_map,EVS]
  rw[List.take_succ_eq_append_getElem k2,List.map_append]
  rfl
 ·simp only[Zcc,List.take_length,EVS]
theorem ZfQ :∀(l:List (List UInt8×Int)) (k:Nat),(Zaq k l).length≤l.length
 |[],k=>by simp[Zaq]
 | s::r,k=>by
  unfold Zaq
  have:=ZfQ r (k+1)
  split<;>simp only[List.length_cons]<;>omega
theorem ZjF :∀(l:List (List UInt8×Int)) (k:Nat) (s:List UInt8×Int),Zaq k (l++[s])=Zaq k l++(if decide (s.2=1)=true then [] else [((k+l.length:Nat):Int)])
 | [],k,s=>by
  cases c:decide (s.2=1)<;>simp[Zaq,c]
 | x::r,k,s=>by
  rw[List.cons_append]
  have ih:=ZjF r (k+1) s
  have e:k+1+r.length=k+(x::r).length:=by rw[List.length_cons];omega
  rw[e] at ih
  rw[Zaq,Zaq,ih]
  split<;>rfl
theorem Zlt (l:List (List UInt8×Int)) (hl:l.length≤8) (A B:PV):ZdT [.agg [.lst (l.map ZK),A,B]]=some (.lst ((Zaq 0 l).map pI)):=by
 show (fun x0=>ZdT [x0]) _=_
 rw[ZlO]
 simp only[EVS]
 refine Z7 (R:=PV) l.length (fun k=>[.lst ((Zaq 0 (l.take k)).map pI),pI (Int.ofNat k)]) (some (.lst ((Zaq 0 l).map pI))) _ (by omega) (fun again k k2=> ?_) (fun again=> ?_) _ (by rw[List.take_zero];rfl)
 ·have hsg:ZH (.lst (l.map ZK)) (.int .i64 (k:Int))=some (ZK l[k]):=ZA (List.getElem?_eq_getElem k2)
  have hn:=ZN k2 (show l.length≤9223372036854775807 by omega)
  have hcl:(Zaq 0 (l.take k)).length≤k:=Nat.le_trans (ZfQ _ _) (by simp;omega)
  have hlb:(Zaq 0 (l.take k)).length+[pI (k:Int)].length≤4294967296∧[pI (k:Int)].all (Zao 1)=true:=⟨by simp;omega,rfl⟩
  have e1:Zaq 0 (l.take (k+1))=Zaq 0 (l.take k)++(if decide (l[k].2=1)=true then [] else [(k:Int)]):=by
   rw[List.take_succ_eq_append_getElem k2,ZjF]
   have:0+(l.take k).length=k:=by simp;omega
   rw[this]
  cases c1:decide (l[k].2=1)
  ·rw[c1] at e1
   simp only[Zbp k2,hsg,ZK,sp2,Zdl,c1,if_pos hlb,hn,e1,List.map_append,List.map_cons,List.map_nil,Bool.false_eq_true,if_false,EVS]
  ·rw[c1] at e1
   simp only[Zbp k2,hsg,ZK,sp2,Zdl,c1,hn,e1,if_true,List.append_nil,EVS]
 ·simp only[Zcc,List.take_length,EVS]
def ZkF (m:List Int) (k:Nat) (x:Int):Bool:=match m[k]? with|some y=>decide (x=y)|none=>false
theorem ZkG :∀(a b p:List Int),a.length=b.length→Z9 (ZkF (p++b)) p.length a=decide (a=b)
 |[],[],p,_=>by simp[Z9]
 | x::a,y::b,p,h=>by
  unfold Z9
  have ih:=ZkG a b (p++[y]) (by simpa using h)
  rw[List.append_assoc,List.length_append] at ih
  simp only[List.cons_append,List.nil_append,List.length_cons,List.length_nil,Nat.zero_add] at ih
  rw[ih]
  have:ZkF (p++y::b) p.length x=decide (x=y):=by
   unfold ZkF
   rw[List.getElem?_append_right (Nat.le_refl _),Nat.sub_self]
   rfl
  rw[this]
  by_cases e:x=y<;>simp[e]
theorem Zfw (a b:List Int) (ha:Zae a) (hb:Zae b):ZaJ [.lst (a.map pI),.lst (b.map pI)]=some (pB (decide (a=b))):=by
 unfold Zae at ha hb
 show (fun x0 x1=>ZaJ [x0,x1]) _ _=_
 rw[Ze2]
 simp only[EVS]
 by_cases hl:a.length=b.length
 ·have d:decide ((a.length:Int)=(b.length:Int))=true:=by simp;omega
  simp only[d,EVS]
  refine (congrArg (Zh true) (Zbg (R:=PV) a (ZkF b) (some (pB false)) (some (pB true)) _ ha (fun again k x hx=> ?_) (fun again=> ?_))).trans ?_
  ·have hk:=Zu hx
   have hy:b[k]?=some (b[k]'(by omega)):=List.getElem?_eq_getElem _
   have hi:ZH (.lst (a.map pI)) (.int .i64 (k:Int))=some (pI x):=ZA hx
   have hj:ZH (.lst (b.map pI)) (.int .i64 (k:Int))=some (pI (b[k]'(by omega))):=ZA hy
   have hs:ZkF b k x=decide (x=b[k]'(by omega)):=by unfold ZkF;rw[hy]
   rw[hs]
   cases c1:decide (x=b[k]'(by omega))<;>simp only[Zbp hk,ZN hk ha,hi,hj,c1,Bool.false_eq_true,if_false,if_true,EVS]
  ·simp only[Zcc,EVS]
  ·have:=ZkG a b [] hl
   simp only[List.nil_append,List.length_nil] at this
   rw[this]
   cases decide (a=b)<;>simp only[Bool.false_eq_true,if_false,if_true,EVS]
 ·have d:decide ((a.length:Int)=(b.length:Int))=false:=by simp;omega
  have e:decide (a=b)=false:=by simp;intro e;exact hl (by rw[e])
  simp only[d,e,EVS]
def Zdf (n:Int) (g:PGate):Bool:= !inR g.kind 1 2||(!ZaO n g.set||(!ZaO n g.reset||(decide (g.kind=1)&&decide ((0:Int)<g.reset.length))))
theorem Zfx (n:Int) (g:PGate) (hg:g.Fit):ZaK [ZaU g,.agg [pI n]]=some (pB (Zdf n g)):=by
 have g0:=ZaM g.kind 1 2
 have g1:=ZcM n g.set hg.set hg.sets
 have g2:=ZcM n g.reset hg.reset hg.resets
 show (fun x0 x1=>ZaK [x0,x1]) _ _=_
 rw[Ze4]
 unfold Zdf
 simp only[ZaU,EVS]
 cases c0:inR g.kind 1 2<;>rw[c0] at g0<;>simp only[g0,EVS]
 cases c1:ZaO n g.set<;>rw[c1] at g1<;>simp only[g1,EVS]
 cases c2:ZaO n g.reset<;>rw[c2] at g2<;>simp only[g2,EVS]
 cases c3:decide (g.kind=1)<;>simp only[c3,List.length_map,EVS]
theorem Zc6 (n:Int) (l:List PGate) (hl:Zae l) (hg:∀g∈l,g.Fit):Zp [.lst (l.map ZaU),.tup [.agg [pI n]]]=some (pI (ixf (Zdf n) 0 l)):=by
 unfold Zae at hl
 show (fun x0 x1=>Zp [x0,x1]) _ _=_
 rw[ZaT]
 simp only[EVS]
 refine (congrArg (Zh true) (Zhh l (Zdf n) _ hl (fun again k x hx=> ?_) (fun again=> ?_))).trans ?_
 ·have hk:=Zu hx
  have hi:ZH (.lst (l.map ZaU)) (.int .i64 (k:Int))=some (ZaU x):=ZA hx
  have g:=Zfx n x (hg x (List.mem_of_getElem? hx))
  simp only[ZaU] at g hi
  cases c:Zdf n x<;>rw[c] at g<;>simp only[Zbp hk,ZN hk hl,hi,ZmR,List.cons_append,List.nil_append,g,Bool.false_eq_true,if_false,if_true,EVS]
 ·simp only[Zcc,EVS]
  rfl
 ·simp only[EVS]
theorem Zn5 (n:Nat) (h1:1≤n) (h8:n≤8) (g:PGate):Zdf n g= !Zbq n g:=by
 have hr0:g.reset=[]→ZaO (n:Int) g.reset=true:=fun h=>by
  have e1:inR (n:Int) 1 8=true:=by unfold inR;rw[decide_eq_true (by omega),decide_eq_true (by omega)];rfl
  rw[h]
  unfold ZaO
  rw[e1]
  rfl
 unfold Zdf Zbq
 rw[ZjD,ZjD]
 by_cases k1:g.kind=1
 ·have d1:decide (g.kind=1)=true:=decide_eq_true k1
  have d2:inR g.kind 1 2=true:=by unfold inR;rw[k1];rfl
  simp only[d1,d2,if_true,Bool.not_true,Bool.false_or,Bool.true_and]
  by_cases hz:g.reset=[]
  ·have e1:decide ((0:Int)<g.reset.length)=false:=decide_eq_false (by rw[hz];simp)
   have e2:decide ((g.reset.length:Int)=0)=true:=decide_eq_true (by rw[hz];rfl)
   rw[e1,e2,hr0 hz]
   cases ZaO (n:Int) g.set<;>rfl
  ·have hp:=List.length_pos_iff.2 hz
   have e1:decide ((0:Int)<g.reset.length)=true:=decide_eq_true (by omega)
   have e2:decide ((g.reset.length:Int)=0)=false:=decide_eq_false (by omega)
   rw[e1,e2]
   cases ZaO (n:Int) g.set<;>cases ZaO (n:Int) g.reset<;>rfl
 ·have d1:decide (g.kind=1)=false:=decide_eq_false k1
  simp only[d1,Bool.false_eq_true,if_false,Bool.false_and,Bool.or_false]
  by_cases k2:g.kind=2
  ·have d2:decide (g.kind=2)=true:=decide_eq_true k2
   have d3:inR g.kind 1 2=true:=by unfold inR;rw[k2];rfl
   simp only[d2,d3,if_true,Bool.not_true,Bool.false_or]
   cases ZaO (n:Int) g.set<;>cases ZaO (n:Int) g.reset<;>rfl
  ·have d2:decide (g.kind=2)=false:=decide_eq_false k2
   have d3:inR g.kind 1 2=false:=by
    unfold inR
    rw[←Bool.not_eq_true,Bool.and_eq_true,decide_eq_true_eq,decide_eq_true_eq]
    omega
   simp only[d2,d3,Bool.false_eq_true,if_false,Bool.not_false,Bool.true_or]
theorem Zgy (c:PCirc) (hc:c.Fit) (hm:c.gates.length≤1048576):Zbf [Zc0 c]=some (pB (Zhi c)):=by
 have hs1:=hc.signals
 have g1:=Zfu c.signals hs1 hc.names
 have g2:=Ziu c hm
 show (fun x0=>Zbf [x0]) _=_
 rw[ZfY]
 unfold Zhi
 rw[ZoW]
 simp only[Zc0,EVS] at g2⊢
 cases c1:Zin c.signals<;>rw[c1] at g1<;>simp only[g1,EVS]
 have h8:c.signals.length≤8∧1≤c.signals.length:=by
  unfold Zin inR at c1;simp only[Bool.and_eq_true,decide_eq_true_eq] at c1;omega
 have g3:=Zlt c.signals h8.1 (.lst []) (.lst [])
 have g4:=Zfw (c.gates.map (·.sig)) (Zaq 0 c.signals) (by unfold Zae;simp;omega) (by unfold Zae;have:=ZfQ c.signals 0;omega)
 have g5:=Zc6 c.signals.length c.gates hc.gates hc.gate
 have g6:Zl [.lst (c.gates.map ZaU),.tup [.agg [pI (c.signals.length:Int)]]]=some (pB (!c.gates.all (Zbq c.signals.length))):=by
  show (fun x0 x1=>Zl [x0,x1]) _ _=_
  rw[ZaA]
  have hx:=ZhV (Zdf (c.signals.length:Int)) c.gates 0
  rw[Zem] at hx
  have e:∀l:List PGate,(l.all fun x=> !Zdf (c.signals.length:Int) x)=l.all (Zbq c.signals.length):=fun l=>by
   induction l with
   |nil=>rfl
   | cons x r ih=>
    have h1:=Zn5 c.signals.length h8.2 h8.1 x
    rw[List.all_cons,List.all_cons,ih,h1,Bool.not_not]
  rw[e] at hx
  simp only[g5,EVS]
  simp only[hx,EVS]
 cases c2:decide (c.gates.map (·.sig)=Zaq 0 c.signals)<;>rw[c2] at g4
 ·simp only[g2,g3,g4,List.length_map,EVS]
 ·simp only[g2,g3,g4,g6,List.length_map,List.drop_zero,Bool.not_not,EVS]
theorem u8_dec :∀d:Fin 10,IntKind.u8.wrap (IntKind.i64.wrap (48+(d.1:Int)))=((UInt8.ofNat (48+d.1)).toNat:Int):=by decide
theorem dgt (d:Nat) (h:d<10):Zks IntKind.u8 (.int .i64 (IntKind.i64.wrap (48+(d:Int))))=some (pU (UInt8.ofNat (48+d))):=congrArg (fun n=>some (PV.int .u8 n)) (u8_dec ⟨d,h⟩)
theorem quo10 (u:Nat) (h:u≤9223372036854775807):Ze .quo (TD.int .i64) (pI (u:Int)) (pI 10)=some (pI ((u / 10:Nat):Int)):=by
 show (if (10:Int)=0 then none else some (PV.int .i64 (IntKind.i64.wrap ((u:Int).tdiv 10))))=_
 have e:(u:Int).tdiv 10=((u / 10:Nat):Int):=rfl
 rw[if_neg (by omega),e,Zdb (by omega) (by omega)]
theorem rem10 (u:Nat):Ze .rem (TD.int .i64) (pI (u:Int)) (pI 10)=some (pI ((u % 10:Nat):Int)):=by
 show (if (10:Int)=0 then none else some (PV.int .i64 ((u:Int).tmod 10)))=_
 have e:(u:Int).tmod 10=((u % 10:Nat):Int):=rfl
 rw[if_neg (by omega),e]
theorem Zlu :∀(f u:Nat),u<10 ^ f→(Lib.decDigits u).length≤f+1
 | 0,u,h=>by
  have:u=0:=by simpa using h
  subst this
  rw[Lib.decDigits_one (by omega)];simp
 | f+1,u,h=>by
  by_cases c:u<10
  ·rw[Lib.decDigits_one c];simp
  ·rw[Lib.decDigits,dif_neg c,List.length_append]
   have:10 ^ (f+1)=10 * 10 ^ f:=by rw[Nat.pow_succ,Nat.mul_comm]
   have:=Zlu f (u / 10) (by omega)
   simp only[List.length_cons,List.length_nil];omega
theorem num_n (k:Nat):∀(f u:Nat),u<10 ^ (f+1)→u≤100000000→Zci (f+k+1) [pI (u:Int)]=some (.str (Lib.decDigits u)):=by
 intro f
 induction f with
 | zero=>
  intro u h _
  show (fun x0=>Zci (0+k+1) [x0]) _=_
  rw[ZjQ]
  have hu:u<10:=by simpa using h
  have c:decide ((u:Int)<10)=true:=by simp;omega
  have g:=dgt u hu
  simp only[c,g,EVS]
  rw[Lib.decDigits_one hu]
 | succ f ih=>
  intro u h hu
  have hp:10 ^ (f+1+1)=10 * 10 ^ (f+1):=by rw[Nat.pow_succ,Nat.mul_comm]
  show (fun x0=>Zci (f+1+k+1) [x0]) _=_
  rw[ZjQ,show f+1+k=f+k+1 by omega]
  by_cases c0:u<10
  ·have c:decide ((u:Int)<10)=true:=by simp;omega
   have g:=dgt u c0
   simp only[c,g,EVS]
   rw[Lib.decDigits_one c0]
  ·have c:decide ((u:Int)<10)=false:=by simp;omega
   have q:=quo10 u (by omega)
   have r:=rem10 u
   have g:=dgt (u % 10) (by omega)
   have i1:=ih (u / 10) (by omega) (by omega)
   have hl:=Zlu 8 (u / 10) (by omega)
   have ha:Ze .add TD.str (.str (Lib.decDigits (u / 10))) (.str [UInt8.ofNat (48+u % 10)])=some (.str (Lib.decDigits (u / 10)++[UInt8.ofNat (48+u % 10)])):=ZeD (by simp;omega)
   simp only[c,q,r,g,i1,ha,EVS]
   rw[Lib.decDigits.eq_1 u,dif_neg c0]
theorem ZkH (u:Nat) (h:u≤9999999):Zer [pI (u:Int)]=some (.str (Lib.itoa (u:Int))):=by
 rw[Lib.itoa,if_neg (by omega),Int.toNat_natCast]
 exact num_n 57 6 u (by omega) (by omega)
theorem ZmV (u:Nat) (h:u≤9999999):Zas [pI (u:Int)]=some (.str (Lib.itoa (u:Int))):=if_pos (by omega)
theorem ZfR (u:Nat) (h:u≤9999999):(Lib.itoa (u:Int)).length≤8:=by
 rw[Lib.itoa,if_neg (by omega),Int.toNat_natCast]
 exact Zlu 7 u (by omega)
theorem ag4 (a b c d:PV):aggL 4 (.agg [a,b,c,d])=some (.lst [.agg [a,b,c,d]]):=(Eq.refl _).trans (Eq.refl _)
theorem ne1 (x:PV):neL [x]=some [x]:=(Eq.refl _).trans (Eq.refl _)
theorem Zcv (cs l:List PV) (n:Nat):Zdw cs n (.agg l)=some (.agg (splice cs n l)):=(Eq.refl _).trans (Eq.refl _)
theorem Zkh (x:PV):[x].length=1:=(Eq.refl _).trans (Eq.refl _)
def Zau (kind:Int) (l:List (List UInt8×Int)):List PWire:=l.map fun s=>⟨s.1,if decide (s.2=1)=true then 1 else kind,[],[]⟩
theorem ZeU (l:List (List UInt8×Int)) (kind:Int) (hl:l.length≤8):Zbj [.lst (l.map ZK),pI kind]=some (.lst ((Zau kind l).map Zr)):=by
 show (fun x0 x1=>Zbj [x0,x1]) _ _=_
 rw[Zh5]
 simp only[EVS]
 refine Z7 (R:=PV) l.length (fun k=>[.lst ((Zau kind (l.take k)).map Zr),pI (Int.ofNat k)]) (some (.lst ((Zau kind l).map Zr))) _ (by omega) (fun again k k2=> ?_) (fun again=> ?_) _ (by rw[List.take_zero];rfl)
 ·have hsg:ZH (.lst (l.map ZK)) (.int .i64 (k:Int))=some (ZK l[k]):=ZA (List.getElem?_eq_getElem k2)
  have hn:=ZN k2 (show l.length≤9223372036854775807 by omega)
  have hcl:(Zau kind (l.take k)).length=k:=by simp[Zau];omega
  have hlb:(Zau kind (l.take k)).length+1≤4294967296:=by omega
  have e1:Zau kind (l.take (k+1))=Zau kind (l.take k)++[⟨l[k].1,if decide (l[k].2=1)=true then 1 else kind,[],[]⟩]:=by
   unfold Zau
   rw[List.take_succ_eq_append_getElem k2,List.map_append]
   rfl
  have hs4:∀a b c d a' b':PV,splice (splice [a,b,c,d] 0 [a']) 1 [b']=[a',b',c,d]:=fun _ _ _ _ _ _=>rfl
  have hs1:∀a b c d b':PV,splice [a,b,c,d] 1 [b']=[a,b',c,d]:=fun _ _ _ _ _=>rfl
  cases c1:decide (l[k].2=1)
  ·rw[c1] at e1
   simp only[Zbp k2,hsg,ZK,sp2,Zdl,c1,hs4,Zcv,sp4,Zdm,ag4,ne1,Zkh,if_pos hlb,hn,e1,List.map_append,List.map_cons,List.map_nil,Bool.false_eq_true,if_false,EVS]
   rfl
  ·rw[c1] at e1
   simp only[Zbp k2,hsg,ZK,sp2,Zdl,c1,hs4,hs1,Zcv,sp4,Zdm,ag4,ne1,Zkh,if_pos hlb,hn,e1,List.map_append,List.map_cons,List.map_nil,if_true,EVS]
   rfl
 ·simp only[Zcc,List.take_length,EVS]
def ZcC :Nat→List UInt8→List (Int×Bool)
 |_,[]=>[]
 |k,b::r=>if decide ((b.toNat:Int)=45)=true then ZcC (k+1) r else ((k:Int),decide ((b.toNat:Int)=48))::ZcC (k+1) r
theorem Zgz :∀(l:List UInt8) (k:Nat) (b:UInt8),ZcC k (l++[b])=ZcC k l++(if decide ((b.toNat:Int)=45)=true then [] else [(((k+l.length:Nat):Int),decide ((b.toNat:Int)=48))])
 | [],k,b=>by
  cases c:decide ((b.toNat:Int)=45)<;>simp[ZcC,c]
 | x::r,k,b=>by
  have ih:=Zgz r (k+1) b
  have e:k+1+r.length=k+(x::r).length:=by rw[List.length_cons];omega
  rw[e] at ih
  rw[List.cons_append,ZcC,ZcC,ih]
  split<;>rfl
theorem ZfS :∀(l:List UInt8) (k:Nat),(ZcC k l).length≤l.length
 |[],k=>by simp[ZcC]
 | b::r,k=>by
  unfold ZcC
  have:=ZfS r (k+1)
  split<;>simp only[List.length_cons]<;>omega
def ZmW (nm:List UInt8) (i:Nat) (cube:List UInt8):PWire:=⟨nm++[97]++Lib.itoa (i:Int),2,ZcC 0 cube,[]⟩
def Zav (nm:List UInt8):Nat→List (List UInt8)→List PWire
 |_,[]=>[]
 |i,c::r=>ZmW nm i c::Zav nm (i+1) r
theorem Zfy (nm:List UInt8):∀(l:List (List UInt8)) (i:Nat) (c:List UInt8),Zav nm i (l++[c])=Zav nm i l++[ZmW nm (i+l.length) c]
 |[],i,c=>rfl
 | x::r,i,c=>by
  have ih:=Zfy nm r (i+1) c
  have e:i+1+r.length=i+(x::r).length:=by rw[List.length_cons];omega
  rw[e] at ih
  rw[List.cons_append,Zav,Zav,ih]
  rfl
theorem ZcO (nm:List UInt8):∀(l:List (List UInt8)) (i:Nat),(Zav nm i l).length=l.length
 |[],_=>rfl
 |x::r,i=>by rw[Zav,List.length_cons,List.length_cons,ZcO nm r]
def orP (b n:Nat):List (Int×Bool):=(List.range n).map fun i=>(((b+i:Nat):Int),false)
theorem ZmX (b n:Nat):orP b (n+1)=orP b n++[(((b+n:Nat):Int),false)]:=by
 unfold orP
 rw[List.range_succ,List.map_append]
 rfl
def orW (nm:List UInt8) (b n:Nat):PWire:=⟨nm,3,orP b n,[]⟩
def Zen (ws:List PWire) (nm:List UInt8) (cov:List (List UInt8)):List PWire:=ws++Zav nm 0 cov++[orW nm ws.length cov.length]
theorem Zc1 (ws:List PWire) (nm:List UInt8) (cov:List (List UInt8)):(Zen ws nm cov).length=ws.length+cov.length+1:=by
 simp only[Zen,List.length_append,ZcO,List.length_cons,List.length_nil]
theorem ZkI (cube:List UInt8) (hc:cube.length≤64) (nm:PV) (R:Type) (e:Option R) (f:(List PV→Option R)→List PV→Option R)
 (h1:∀again k (b:UInt8),cube[k]?=some b→f again [.agg [nm,pI 2,.lst ((ZcC 0 (cube.take k)).map Zcu),.lst []],pI (Int.ofNat k)]=again [.agg [nm,pI 2,.lst ((ZcC 0 (cube.take (k+1))).map Zcu),.lst []],pI (Int.ofNat (k+1))])
 (h2:∀again,f again [.agg [nm,pI 2,.lst ((ZcC 0 cube).map Zcu),.lst []],pI (Int.ofNat cube.length)]=e):ZO f 18446744073709551616 [.agg [nm,pI 2,.lst [],.lst []],pI (Int.ofNat 0)]=e:=by
 refine Z7 (R:=R) cube.length (fun k=>[.agg [nm,pI 2,.lst ((ZcC 0 (cube.take k)).map Zcu),.lst []],pI (Int.ofNat k)]) e f (by omega) (fun again k k2=>h1 again k _ (List.getElem?_eq_getElem k2)) (fun again=> ?_) _ (by rw[List.take_zero];rfl)
 have:=h2 again
 rw[List.take_length]
 exact this
theorem ZeV (sg:List (List UInt8×Int)) (ws:List PWire) (nm:List UInt8) (cov:List (List UInt8)) (hw:ws.length≤1000000) (hn:nm.length≤100) (hc:cov.length≤60) (hcc:∀c∈cov,c.length≤8):
 ZZ [Z0 ⟨sg,ws⟩,.str nm,.lst (cov.map PV.str)]=some (.tup [pI ((ws.length+cov.length:Nat):Int),Z0 ⟨sg,Zen ws nm cov⟩]):=by
 show (fun x0 x1 x2=>ZZ [x0,x1,x2]) _ _ _=_
 rw[Zd8]
 have hs4:∀a b c d a' b':PV,splice (splice [a,b,c,d] 0 [a']) 1 [b']=[a',b',c,d]:=fun _ _ _ _ _ _=>rfl
 have hst:∀a b c d c':PV,[a,b,c,d].set 2 c'=[a,b,c',d]:=fun _ _ _ _ _=>rfl
 have hst2:∀a b b':PV,[a,b].set 1 b'=[a,b']:=fun _ _ _=>rfl
 have hp2:∀a b a' b':PV,splice (splice [a,b] 0 [a']) 1 [b']=[a',b']:=fun _ _ _ _=>rfl
 have hp1:∀a b a':PV,splice [a,b] 0 [a']=[a',b]:=fun _ _ _=>rfl
 simp only[Z0,hs4,Zcv,sp4,EVS]
 refine Z7 (R:=PV) cov.length (fun k=>[Zr ⟨nm,3,orP ws.length k,[]⟩,Z0 ⟨sg,ws++Zav nm 0 (cov.take k)⟩,pI (Int.ofNat k)]) _ _ (by omega) (fun again k k2=> ?_) (fun again=> ?_) _ (by rw[List.take_zero];simp only[Z0,Zav,List.append_nil];rfl)
 ·have hck:cov[k]?=some cov[k]:=List.getElem?_eq_getElem k2
  have hx:ZH (.lst (cov.map PV.str)) (.int .i64 (k:Int))=some (.str cov[k]):=ZA hck
  have hcl:=hcc _ (List.getElem_mem k2)
  have g1:=ZmV k (by omega)
  have hit:=ZfR k (by omega)
  have a1:Ze .add TD.str (.str nm) (.str [97])=some (.str (nm++[97])):=ZeD (by simp;omega)
  have a2:Ze .add TD.str (.str (nm++[97])) (.str (Lib.itoa (k:Int)))=some (.str (nm++[97]++Lib.itoa (k:Int))):=ZeD (by simp only[List.length_append,List.length_cons,List.length_nil];omega)
  have hnx:=ZN k2 (show cov.length≤9223372036854775807 by omega)
  simp only[Zbp k2,hx,a1,g1,a2,Z0,Zr,hs4,Zcv,sp4,EVS]
  refine ZkI cov[k] (by omega) (.str (nm++[97]++Lib.itoa (k:Int))) PV _ _ (fun again' i b hb=> ?_) (fun again'=> ?_)
  ·have hi:=Zu hb
   have hby:Zbi (.str cov[k]) (.int .i64 (i:Int))=some (pU b):=Z2 hb
   have hnx':=ZN hi (show (cov[k]).length≤9223372036854775807 by omega)
   have htk:(cov[k]).take (i+1)=(cov[k]).take i++[b]:=by
    rw[List.take_succ_eq_append_getElem hi]
    congr 2
    rw[List.getElem?_eq_getElem hi] at hb
    exact Option.some.inj hb
   have hpl:=ZfS ((cov[k]).take i) 0
   have htl:((cov[k]).take i).length=i:=by simp;omega
   have hsn:=Zgz ((cov[k]).take i) 0 b
   rw[htl,Nat.zero_add,←htk] at hsn
   have hlb:(ZcC 0 ((cov[k]).take i)).length+[PV.agg [pI (i:Int),pB (decide ((b.toNat:Int)=48))]].length≤4294967296∧[PV.agg [pI (i:Int),pB (decide ((b.toNat:Int)=48))]].all (Zao 2)=true:=⟨by simp only[List.length_cons,List.length_nil];omega,rfl⟩
   cases c1:decide ((b.toNat:Int)=45)
   ·rw[c1] at hsn
    simp only[Zbp hi,hby,c1,hp2,if_pos hlb,hst,hnx',hsn,List.length_map,List.map_append,List.map_cons,List.map_nil,Bool.false_eq_true,if_false,EVS]
   ·rw[c1] at hsn
    simp only[Zbp hi,hby,c1,hnx',hsn,List.append_nil,if_true,EVS]
  ·have hal:=ZcO nm (cov.take k) 0
   have htl:(cov.take k).length=k:=by simp;omega
   have hop:(orP ws.length k).length=k:=by simp[orP]
   have htk:cov.take (k+1)=cov.take k++[cov[k]]:=List.take_succ_eq_append_getElem k2
   have hsn:=Zfy nm (cov.take k) 0 cov[k]
   rw[htl,Nat.zero_add,←htk] at hsn
   have e1:((ws++Zav nm 0 (cov.take k)).length:Int)=((ws.length+k:Nat):Int):=by rw[List.length_append,hal,htl]
   have hlb:(orP ws.length k).length+1≤4294967296∧[PV.agg [pI ((ws.length+k:Nat):Int),pB false]].all (Zao 2)=true:=⟨by omega,rfl⟩
   have hlb2:(ws++Zav nm 0 (cov.take k)).length+1≤4294967296:=by rw[List.length_append,hal];omega
   simp only[Zcc,List.length_map,e1,hp1,if_pos hlb,hst,hst2,Zdm,ag4,ne1,Zkh,if_pos hlb2,hnx,EVS]
   rw[ZmX,hsn]
   simp only[ZmW,List.map_append,List.map_cons,List.map_nil,List.append_assoc]
   rfl
 ·have hal:=ZcO nm cov 0
  have hlb2:(ws++Zav nm 0 cov).length+1≤4294967296:=by rw[List.length_append,hal];omega
  have e3:(ws++Zav nm 0 cov).map Zr++[PV.agg [.str nm,pI 3,.lst ((orP ws.length cov.length).map Zcu),.lst (([]:List (List UInt8)).map PV.str)]]=(Zen ws nm cov).map Zr:=by
   unfold Zen
   rw[List.map_append (l₁:=ws++Zav nm 0 cov)]
   rfl
  have e4:((((Zen ws nm cov).map Zr).length:Nat):Int)=((ws.length+cov.length+1:Nat):Int):=by rw[List.length_map,Zc1]
  simp only[Zcc,List.take_length,Z0,Zr,hst2,Zdm,ag4,ne1,Zkh,if_pos hlb2,List.length_map,EVS]
  have e5:IntKind.i64.wrap ((((Zen ws nm cov).map Zr).length:Int) - 1)=((ws.length+cov.length:Nat):Int):=by
   rw[e4,Zdb (by omega) (by omega)]
   omega
  rw[e3,e5]
theorem Zio (sg:List (List UInt8×Int)) (ws:List PWire) (nm:List UInt8) (cov:List (List UInt8)) (hw:ws.length≤1000000) (hn:nm.length≤100) (hc:cov.length≤60) (hcc:∀c∈cov,c.length≤8):
 Zc3 [Z0 ⟨sg,ws⟩,.str nm,.lst (cov.map PV.str)]=some (.tup [pI ((ws.length+cov.length:Nat):Int),Z0 ⟨sg,Zen ws nm cov⟩]):=by
 show (fun x0 x1 x2=>Zc3 [x0,x1,x2]) _ _ _=_
 rw[ZlG]
 have hs4:∀a b c d a' b':PV,splice (splice [a,b,c,d] 0 [a']) 1 [b']=[a',b',c,d]:=fun _ _ _ _ _ _=>rfl
 have hst:∀a b c d c':PV,[a,b,c,d].set 2 c'=[a,b,c',d]:=fun _ _ _ _ _=>rfl
 have hst2:∀a b b':PV,[a,b].set 1 b'=[a,b']:=fun _ _ _=>rfl
 have hp2:∀a b a' b':PV,splice (splice [a,b] 0 [a']) 1 [b']=[a',b']:=fun _ _ _ _=>rfl
 have hp1:∀a b a':PV,splice [a,b] 0 [a']=[a',b]:=fun _ _ _=>rfl
 simp only[Z0,hs4,Zcv,sp4,EVS]
 refine Z7 (R:=PV) cov.length (fun k=>[Zr ⟨nm,3,orP ws.length k,[]⟩,Z0 ⟨sg,ws++Zav nm 0 (cov.take k)⟩,pI (Int.ofNat k)]) _ _ (by omega) (fun again k k2=> ?_) (fun again=> ?_) _ (by rw[List.take_zero];simp only[Z0,Zav,List.append_nil];rfl)
 ·have hck:cov[k]?=some cov[k]:=List.getElem?_eq_getElem k2
  have hx:ZH (.lst (cov.map PV.str)) (.int .i64 (k:Int))=some (.str cov[k]):=ZA hck
  have hcl:=hcc _ (List.getElem_mem k2)
  have g1:=ZkH k (by omega)
  have hit:=ZfR k (by omega)
  have a1:Ze .add TD.str (.str nm) (.str [97])=some (.str (nm++[97])):=ZeD (by simp;omega)
  have a2:Ze .add TD.str (.str (nm++[97])) (.str (Lib.itoa (k:Int)))=some (.str (nm++[97]++Lib.itoa (k:Int))):=ZeD (by simp only[List.length_append,List.length_cons,List.length_nil];omega)
  have hnx:=ZN k2 (show cov.length≤9223372036854775807 by omega)
  simp only[Zbp k2,hx,a1,g1,a2,Z0,Zr,hs4,Zcv,sp4,EVS]
  refine ZkI cov[k] (by omega) (.str (nm++[97]++Lib.itoa (k:Int))) PV _ _ (fun again' i b hb=> ?_) (fun again'=> ?_)
  ·have hi:=Zu hb
   have hby:Zbi (.str cov[k]) (.int .i64 (i:Int))=some (pU b):=Z2 hb
   have hnx':=ZN hi (show (cov[k]).length≤9223372036854775807 by omega)
   have htk:(cov[k]).take (i+1)=(cov[k]).take i++[b]:=by
    rw[List.take_succ_eq_append_getElem hi]
    congr 2
    rw[List.getElem?_eq_getElem hi] at hb
    exact Option.some.inj hb
   have hpl:=ZfS ((cov[k]).take i) 0
   have htl:((cov[k]).take i).length=i:=by simp;omega
   have hsn:=Zgz ((cov[k]).take i) 0 b
   rw[htl,Nat.zero_add,←htk] at hsn
   have hlb:(ZcC 0 ((cov[k]).take i)).length+[PV.agg [pI (i:Int),pB (decide ((b.toNat:Int)=48))]].length≤4294967296∧[PV.agg [pI (i:Int),pB (decide ((b.toNat:Int)=48))]].all (Zao 2)=true:=⟨by simp only[List.length_cons,List.length_nil];omega,rfl⟩
   cases c1:decide ((b.toNat:Int)=45)
   ·rw[c1] at hsn
    simp only[Zbp hi,hby,c1,hp2,if_pos hlb,hst,hnx',hsn,List.length_map,List.map_append,List.map_cons,List.map_nil,Bool.false_eq_true,if_false,EVS]
   ·rw[c1] at hsn
    simp only[Zbp hi,hby,c1,hnx',hsn,List.append_nil,if_true,EVS]
  ·have hal:=ZcO nm (cov.take k) 0
   have htl:(cov.take k).length=k:=by simp;omega
   have hop:(orP ws.length k).length=k:=by simp[orP]
   have htk:cov.take (k+1)=cov.take k++[cov[k]]:=List.take_succ_eq_append_getElem k2
   have hsn:=Zfy nm (cov.take k) 0 cov[k]
   rw[htl,Nat.zero_add,←htk] at hsn
   have e1:((ws++Zav nm 0 (cov.take k)).length:Int)=((ws.length+k:Nat):Int):=by rw[List.length_append,hal,htl]
   have hlb:(orP ws.length k).length+1≤4294967296∧[PV.agg [pI ((ws.length+k:Nat):Int),pB false]].all (Zao 2)=true:=⟨by omega,rfl⟩
   have hlb2:(ws++Zav nm 0 (cov.take k)).length+1≤4294967296∧[PV.agg [.str (nm++[97]++Lib.itoa (k:Int)),pI 2,.lst ((ZcC 0 cov[k]).map Zcu),.lst []]].all (Zao 4)=true:=⟨by rw[List.length_append,hal];omega,rfl⟩
   simp only[Zcc,List.length_map,e1,hp1,if_pos hlb,hst,hst2,Zdm,ag4,ne1,Zkh,if_pos hlb2,hnx,EVS]
   rw[ZmX,hsn]
   simp only[ZmW,List.map_append,List.map_cons,List.map_nil,List.append_assoc]
   rfl
 ·have hal:=ZcO nm cov 0
  have hlb2:(ws++Zav nm 0 cov).length+1≤4294967296∧[PV.agg [.str nm,pI 3,.lst ((orP ws.length cov.length).map Zcu),.lst (([]:List (List UInt8)).map PV.str)]].all (Zao 4)=true:=⟨by rw[List.length_append,hal];omega,rfl⟩
  have e3:(ws++Zav nm 0 cov).map Zr++[PV.agg [.str nm,pI 3,.lst ((orP ws.length cov.length).map Zcu),.lst (([]:List (List UInt8)).map PV.str)]]=(Zen ws nm cov).map Zr:=by
   unfold Zen
   rw[List.map_append (l₁:=ws++Zav nm 0 cov)]
   rfl
  have e4:((((Zen ws nm cov).map Zr).length:Nat):Int)=((ws.length+cov.length+1:Nat):Int):=by rw[List.length_map,Zc1]
  simp only[Zcc,List.take_length,Z0,Zr,hst2,Zdm,ag4,ne1,Zkh,if_pos hlb2,List.length_map,EVS]
  have e5:IntKind.i64.wrap ((((Zen ws nm cov).map Zr).length:Int) - 1)=((ws.length+cov.length:Nat):Int):=by
   rw[e4,Zdb (by omega) (by omega)]
   omega
  rw[e3,e5]
theorem as2t (a b:PV):ZbU (.tup [a,b])=some (a,b):=(Eq.refl _).trans (Eq.refl _)
theorem pts (l:List PV):(PV.tup l).parts=l:=(Eq.refl _).trans (Eq.refl _)
theorem on1 (b:Bool):one1 (.bool b)=some (.bool b):=(Eq.refl _).trans (Eq.refl _)
theorem drF (a x:SV) (off n:Nat) (k:IntKind) (i:Int) (y:PV) (dx:DV):Zdd a x off n ⟨.int k i,y⟩ dx=(Zbc a ⟨.int k i,y⟩).bind fun l=>(l[i.toNat]?).bind fun el=>(frV x dx).bind fun yv=>(ZaX off n el.cells el yv).map fun el'=>.lst (l.set i.toNat el'):=(Eq.refl _).trans (Eq.refl _)
theorem drD (a x:SV) (off:Nat) (k:IntKind) (i:Int) (y:PV) (dx:DV):Zdc a x off ⟨.int k i,y⟩ dx=(Zbc a ⟨.int k i,y⟩).bind fun l=>(l[i.toNat]?).bind fun el=>(Zg x dx).bind fun lx=>(Zej off el lx).map fun el'=>.lst (l.set i.toNat el'):=(Eq.refl _).trans (Eq.refl _)
theorem ZrB (a:Bool) (e:TypeId) (s:Nat) (k:Kd) (sl:Option Nat) (l:List PV) (y:PV):frV ⟨.ck (.own a e s),k,sl⟩ ⟨.lst l,y⟩=some (.lst l):=(Eq.refl _).trans (Eq.refl _)
theorem srD (a b c d:PV) (l:List PV):Zej 2 (.agg [a,b,c,d]) l=some (.agg [a,b,.lst l,d]):=(Eq.refl _).trans (Eq.refl _)
theorem se2 (a b d:PV) (c l:List PV):ZaX 2 1 [a,b,.lst c,d] (.agg [a,b,.lst c,d]) (.lst l)=some (.agg [a,b,.lst l,d]):=(Eq.refl _).trans (Eq.refl _)
def ZgA (ws:List PWire) (sig:Nat) (a b:Nat):List PWire:=match ws[sig]? with
 |some w=>ws.set sig ⟨w.name,w.kind,[((a:Int),false),((b:Int),false)],w.cover⟩
 |none=>ws
def ZcU (ws:List PWire) (g:PGate):List PWire:=
 ZgA (Zen (Zen ws ([115]++Lib.itoa g.sig) g.set) ([114]++Lib.itoa g.sig) g.reset) g.sig.toNat (ws.length+g.set.length) (ws.length+g.set.length+1+g.reset.length)
def Zbr :List PWire→List PGate→List PWire
 |ws,[]=>ws
 |ws,g::r=>Zbr (ZcU ws g) r
theorem ZgB :∀(l:List PGate) (ws:List PWire) (g:PGate),Zbr ws (l++[g])=ZcU (Zbr ws l) g
 |[],ws,g=>rfl
 |x::r,ws,g=>by rw[List.cons_append,Zbr,Zbr,ZgB r]
theorem Zn6 (ws:List PWire) (sig a b:Nat):(ZgA ws sig a b).length=ws.length:=by
 unfold ZgA
 split<;>simp
theorem ZmY (ws:List PWire) (g:PGate):(ZcU ws g).length=ws.length+g.set.length+g.reset.length+2:=by
 unfold ZcU
 rw[Zn6,Zc1,Zc1]
 omega
theorem ZkJ {ws:List PWire} {sig:Nat} {w:PWire} (h:ws[sig]?=some w) (a b:Nat):ZgA ws sig a b=ws.set sig ⟨w.name,w.kind,[((a:Int),false),((b:Int),false)],w.cover⟩:=by
 unfold ZgA
 rw[h]
structure GateIn (n:Nat) (g:PGate):Prop where
 lo:0≤g.sig
 hi:g.sig<n
 set:g.set.length≤60
 sets:∀c∈g.set,c.length≤8
 reset:g.reset.length≤60
 resets:∀c∈g.reset,c.length≤8
theorem Zeo {n:Nat}:∀(l:List PGate) (ws:List PWire),(∀g∈l,GateIn n g)→ws.length≤(Zbr ws l).length∧(Zbr ws l).length≤ws.length+122 * l.length
 |[],ws,_=>by simp[Zbr]
 | g::r,ws,h=>by
  have h1:=h g List.mem_cons_self
  have ih:=Zeo r (ZcU ws g) (fun g hg=>h g (List.mem_cons_of_mem _ hg))
  rw[ZmY] at ih
  have:=h1.set
  have:=h1.reset
  rw[Zbr,List.length_cons]
  omega
def WIn (w:PWire):Prop:=w.name.length≤1000∧w.ins.length≤1000∧w.cover.length≤1000∧∀c∈w.cover,c.length≤8
theorem WIn.fit {w:PWire} (h:WIn w):w.Fit:=⟨by unfold Zae;have:=h.1;omega,by unfold Zae;have:=h.2.1;omega,by unfold Zae;have:=h.2.2.1;omega,fun c hc=>by unfold Zae;have:=h.2.2.2 c hc;omega⟩
theorem Zq1 (u:Int) (h0:0≤u) (h:u≤9999999):(Lib.itoa u).length≤8:=by
 obtain ⟨m,rfl⟩:=Int.eq_ofNat_of_zero_le h0
 exact ZfR m (by omega)
theorem ZkK (nm:List UInt8) (hn:nm.length≤100):∀(l:List (List UInt8)) (i:Nat),i+l.length≤9999999→(∀c∈l,c.length≤8)→∀w∈Zav nm i l,WIn w
 |[],i,_,_,w,hw=>by cases hw
 | c::r,i,hi,hc,w,hw=>by
  rw[List.length_cons] at hi
  rcases List.mem_cons.1 hw with rfl|hw
  ·have h1:=ZfR i (by omega)
   have h2:=ZfS c 0
   have h3:=hc c List.mem_cons_self
   exact ⟨by simp only[ZmW,List.length_append,List.length_cons,List.length_nil];omega,by simp only[ZmW];omega,by simp[ZmW],by simp[ZmW]⟩
  ·exact ZkK nm hn r (i+1) (by omega) (fun c h=>hc c (List.mem_cons_of_mem _ h)) w hw
theorem ZoX {ws:List PWire} {nm:List UInt8} {cov:List (List UInt8)} (hn:nm.length≤100) (hc:cov.length≤60) (hcc:∀c∈cov,c.length≤8) (hw:∀w∈ws,WIn w):∀w∈Zen ws nm cov,WIn w:=by
 intro w h
 unfold Zen at h
 rcases List.mem_append.1 h with h|h
 ·rcases List.mem_append.1 h with h|h
  ·exact hw w h
  ·exact ZkK nm hn cov 0 (by omega) hcc w h
 ·rw[List.mem_singleton] at h
  subst h
  exact ⟨by simp only[orW];omega,by simp[orW,orP];omega,by simp[orW],by simp[orW]⟩
theorem ZpF {ws:List PWire} {sig a b:Nat} (hw:∀w∈ws,WIn w):∀w∈ZgA ws sig a b,WIn w:=by
 unfold ZgA
 split
 ·rename_i w h
  intro x hx
  rcases List.mem_or_eq_of_mem_set hx with hx|rfl
  ·exact hw x hx
  ·have:=hw w (List.mem_of_getElem? h)
   exact ⟨this.1,by simp,this.2.2⟩
 ·exact hw
theorem Zn7 {n:Nat} (hn:n≤8) {ws:List PWire} {g:PGate} (hg:GateIn n g) (hw:∀w∈ws,WIn w):∀w∈ZcU ws g,WIn w:=by
 have h1:=Zq1 g.sig hg.lo (by have:=hg.hi;omega)
 exact ZpF (ZoX (by simp;omega) hg.reset hg.resets (ZoX (by simp;omega) hg.set hg.sets hw))
theorem ZjG {n:Nat} (hn:n≤8):∀(l:List PGate) (ws:List PWire),(∀g∈l,GateIn n g)→(∀w∈ws,WIn w)→∀w∈Zbr ws l,WIn w
 |[],ws,_,hw=>hw
 |g::r,ws,h,hw=>ZjG hn r _ (fun g hg=>h g (List.mem_cons_of_mem _ hg)) (Zn7 hn (h g List.mem_cons_self) hw)
theorem ZoY {kind:Int} {l:List (List UInt8×Int)} (h:∀s∈l,s.1.length≤1000):∀w∈Zau kind l,WIn w:=by
 intro w hw
 unfold Zau at hw
 obtain ⟨s,hs,rfl⟩:=List.mem_map.1 hw
 exact ⟨h s hs,by simp,by simp,by simp⟩
theorem Zfz (kind:Int) (l:List (List UInt8×Int)):(Zau kind l).length=l.length:=by simp[Zau]
theorem Zn8 {sg:List (List UInt8×Int)} {ws:List PWire} (h1:sg.length≤8) (h2:∀s∈sg,s.1.length≤1000) (h3:ws.length≤1000000) (h4:∀w∈ws,WIn w):PNet.Fit ⟨sg,ws⟩:=
 ⟨by unfold Zae;dsimp only;omega,fun s hs=>by unfold Zae;have:=h2 s hs;omega,by unfold Zae;dsimp only;omega,fun w hw=>(h4 w hw).fit⟩
theorem Zlv (sg:List (List UInt8×Int)):(sg.map ZK).all (Zao 2)=true:=by
 rw[List.all_map]
 exact List.all_eq_true.2 fun x _=>rfl
theorem Ziv (sg:List (List UInt8×Int)) (gs:List PGate) (hs:sg.length≤8) (hn:∀s∈sg,s.1.length≤1000) (hg:gs.length≤8) (h:∀g∈gs,GateIn sg.length g):
 Zb6 [.lst (sg.map ZK),.lst (gs.map fun g=>pI g.sig),.lst (gs.map fun g=>PV.lst (g.set.map PV.str)),.lst (gs.map fun g=>PV.lst (g.reset.map PV.str))]=
  some (.tup [Z0 ⟨sg,Zbr (Zau 4 sg) gs⟩,pB (Zft ⟨sg,Zbr (Zau 4 sg) gs⟩)]):=by
 have hzi:=ZoY (kind:=4) hn
 have hml:=Zeo gs (Zau 4 sg) h
 have hmi:=ZjG hs gs (Zau 4 sg) h hzi
 rw[Zfz] at hml
 have gg:=ZmQ ⟨sg,Zbr (Zau 4 sg) gs⟩ (Zn8 hs hn (by omega) hmi)
 show (fun x0 x1 x2 x3=>Zb6 [x0,x1,x2,x3]) _ _ _ _=_
 rw[Zh2]
 have hb0:0+sg.length≤4294967296∧(sg.map ZK).all (Zao 2)=true:=⟨by omega,Zlv sg⟩
 have hs4:∀a b c d a' b':PV,splice (splice [a,b,c,d] 0 [a']) 1 [b']=[a',b',c,d]:=fun _ _ _ _ _ _=>rfl
 have hs1:∀a b c d b':PV,splice [a,b,c,d] 1 [b']=[a,b',c,d]:=fun _ _ _ _ _=>rfl
 have hst2:∀a b b':PV,[a,b].set 1 b'=[a,b']:=fun _ _ _=>rfl
 have hp1:∀a b a':PV,splice [a,b] 0 [a']=[a',b]:=fun _ _ _=>rfl
 have hp2:∀a b a' b':PV,splice [a,b] 0 [a',b']=[a',b']:=fun _ _ _ _=>rfl
 simp only[List.length_nil,List.nil_append,if_pos hb0,hp1,hp2,EVS]
 refine Z7 (R:=PV) sg.length (fun k=>[.agg [.lst (sg.map ZK),.lst ((Zau 4 (sg.take k)).map Zr)],pI (Int.ofNat k)]) _ _ (by omega) (fun again k k2=> ?_) (fun again=> ?_) _ (by rw[List.take_zero];rfl)
 ·have hsg:ZH (.lst (sg.map ZK)) (.int .i64 (k:Int))=some (ZK sg[k]):=ZA (List.getElem?_eq_getElem k2)
  have hnx:=ZN k2 (show sg.length≤9223372036854775807 by omega)
  have hcl:(Zau 4 (sg.take k)).length=k:=by simp[Zau];omega
  have e1:Zau 4 (sg.take (k+1))=Zau 4 (sg.take k)++[⟨sg[k].1,if decide (sg[k].2=1)=true then 1 else 4,[],[]⟩]:=by
   unfold Zau
   rw[List.take_succ_eq_append_getElem k2,List.map_append]
   rfl
  have hlb:∀q:Int,(Zau 4 (sg.take k)).length+1≤4294967296∧[PV.agg [.str sg[k].1,pI q,.lst [],.lst []]].all (Zao 4)=true:=fun q=>⟨by omega,rfl⟩
  cases c1:decide (sg[k].2=1)
  ·rw[c1] at e1
   simp only[Zbp k2,hsg,ZK,sp2,Zdl,c1,hs4,hs1,Zcv,sp4,Zdm,Zkh,if_pos (hlb 4),hst2,hnx,e1,List.map_append,List.map_cons,List.map_nil,Bool.false_eq_true,if_false,EVS]
   rfl
  ·rw[c1] at e1
   simp only[Zbp k2,hsg,ZK,sp2,Zdl,c1,hs4,hs1,Zcv,sp4,Zdm,Zkh,if_pos (hlb 1),hst2,hnx,e1,List.map_append,List.map_cons,List.map_nil,if_true,EVS]
   rfl
 ·simp only[Zcc,List.take_length,EVS]
  refine Z7 (R:=PV) gs.length (fun k=>[Z0 ⟨sg,Zbr (Zau 4 sg) (gs.take k)⟩,pI (Int.ofNat k)]) _ _ (by omega) (fun again k k2=> ?_) (fun again=> ?_) _ (by rw[List.take_zero];rfl)
  ·have hgk:gs[k]?=some gs[k]:=List.getElem?_eq_getElem k2
   have hgi:=h _ (List.getElem_mem k2)
   have hnx:=ZN k2 (show gs.length≤9223372036854775807 by omega)
   obtain ⟨g,hgg⟩:∃g,gs[k]=g:=⟨_,rfl⟩
   have htk:gs.take (k+1)=gs.take k++[g]:=by rw[←hgg];exact List.take_succ_eq_append_getElem k2
   rw[hgg] at hgk hgi
   obtain ⟨m,hm⟩:∃m:Nat,g.sig=m:=⟨g.sig.toNat,by have:=hgi.lo;omega⟩
   have hm8:m<sg.length:=by have:=hgi.hi;omega
   obtain ⟨ws,hws⟩:∃ws,Zbr (Zau 4 sg) (gs.take k)=ws:=⟨_,rfl⟩
   have hwl:=Zeo (gs.take k) (Zau 4 sg) (fun g hg=>h g (List.mem_of_mem_take hg))
   rw[hws,Zfz,List.length_take] at hwl
   have hx1:ZH (.lst (gs.map fun g=>pI g.sig)) (.int .i64 (k:Int))=some (pI g.sig):=ZA hgk
   have hx2:ZH (.lst (gs.map fun g=>PV.lst (g.set.map PV.str))) (.int .i64 (k:Int))=some (PV.lst (g.set.map PV.str)):=ZA hgk
   have hx3:ZH (.lst (gs.map fun g=>PV.lst (g.reset.map PV.str))) (.int .i64 (k:Int))=some (PV.lst (g.reset.map PV.str)):=ZA hgk
   have hit:=ZfR m (by omega)
   have n1:=ZkH m (by omega)
   have a1:Ze .add TD.str (.str [115]) (.str (Lib.itoa (m:Int)))=some (.str ([115]++Lib.itoa (m:Int))):=ZeD (by simp;omega)
   have a2:Ze .add TD.str (.str [114]) (.str (Lib.itoa (m:Int)))=some (.str ([114]++Lib.itoa (m:Int))):=ZeD (by simp;omega)
   have hs60:=hgi.set
   have hr60:=hgi.reset
   have o1:=Zio sg ws ([115]++Lib.itoa (m:Int)) g.set (by omega) (by simp;omega) hs60 hgi.sets
   have l1:=Zc1 ws ([115]++Lib.itoa (m:Int)) g.set
   obtain ⟨ws1,hw1⟩:∃ws1,Zen ws ([115]++Lib.itoa (m:Int)) g.set=ws1:=⟨_,rfl⟩
   rw[hw1] at o1 l1
   have o2:=Zio sg ws1 ([114]++Lib.itoa (m:Int)) g.reset (by omega) (by simp;omega) hr60 hgi.resets
   have l2:=Zc1 ws1 ([114]++Lib.itoa (m:Int)) g.reset
   obtain ⟨ws2,hw2⟩:∃ws2,Zen ws1 ([114]++Lib.itoa (m:Int)) g.reset=ws2:=⟨_,rfl⟩
   rw[hw2] at o2 l2
   have hm2:m<ws2.length:=by omega
   have hget:ws2[m]?=some ws2[m]:=List.getElem?_eq_getElem hm2
   have hgetm:(ws2.map Zr)[m]?=some (Zr ws2[m]):=by rw[List.getElem?_map,hget];rfl
   have hst:ZcU ws g=ws2.set m ⟨ws2[m].name,ws2[m].kind,[(((ws.length+g.set.length:Nat):Int),false),(((ws1.length+g.reset.length:Nat):Int),false)],ws2[m].cover⟩:=by
    unfold ZcU
    rw[hm,Int.toNat_natCast,hw1,hw2,ZkJ hget,l1]
   have hpl:Zgs (ws2.map Zr) (.int .i64 (m:Int))=some (.int .i64 (m:Int)):=ZkY (by rw[List.length_map];exact hm2)
   rw[htk,ZgB,hws,hst]
   simp only[Z0] at o1 o2
   simp only[Z0,Zbp k2,hx1,hx2,hx3,hm,n1,a1,a2,o1,o2,as2t,hp1,hpl,drF,ZrB,hgetm,Zr,se2,hst2,hnx,List.map_set,EVS]
   rfl
  ·simp only[Z0] at gg
   simp only[Zcc,List.take_length,Z0,Zdl,hp2,gg,EVS]
theorem ZbY (l:List (List UInt8×Int)) (hl:l.length≤1000000) (hne:l≠[]):ZY [.lst (l.map ZK)]=some (.lst (l.map ZK)):=by
 have hn:nilV (.lst (l.map ZK)) false=some (.bool false):=by
  cases l with
  |nil=>exact absurd rfl hne
  |cons x r=>rfl
 have hb:0+l.length≤4294967296∧(l.map ZK).all (Zao 2)=true:=⟨by omega,Zlv l⟩
 show (fun x0=>ZY [x0]) _=_
 rw[Zd6]
 simp only[hn,List.length_nil,List.nil_append,if_pos hb,EVS]
theorem Zq2 (sg:List (List UInt8×Int)) (ws:List PWire) (h:PNet.Fit ⟨sg,ws⟩):Zbn [Z0 ⟨sg,ws⟩]=some (.tup [Z0 (if Zft ⟨sg,ws⟩=true then ⟨sg,ws⟩ else ⟨[],[]⟩),pB (Zft ⟨sg,ws⟩)]):=by
 have g:=Zgx ⟨sg,ws⟩ h
 rw[←net_eq] at g
 unfold Zbn
 simp only[Z0] at g⊢
 rw[g]
 dsimp only
 cases Zft ⟨sg,ws⟩<;>rfl
def Zlw (sg:List (List UInt8×Int)) (gs:List PGate):PNet:=⟨sg,Zbr (Zau 4 sg) gs⟩
def Zn9 (sg:List (List UInt8×Int)) (gs:List PGate):PNet×Bool:=if Zft (Zlw sg gs)=true then (Zlw sg gs,true) else (⟨[],[]⟩,false)
theorem Zhj (sg:List (List UInt8×Int)) (gs:List PGate) (hs0:sg≠[]) (hs:sg.length≤8) (hn:∀s∈sg,s.1.length≤1000) (hg:gs.length≤8) (h:∀g∈gs,GateIn sg.length g):
 Zbs [.lst (sg.map ZK),.lst (gs.map ZaU)]=some (.tup [Z0 (Zn9 sg gs).1,pB (Zn9 sg gs).2]):=by
 have hzi:=ZoY (kind:=4) hn
 have hml:=Zeo gs (Zau 4 sg) h
 have hmi:=ZjG hs gs (Zau 4 sg) h hzi
 rw[Zfz] at hml
 have gg:=Zq2 sg (Zbr (Zau 4 sg) gs) (Zn8 hs hn (by omega) hmi)
 have c1:=ZbY sg (by omega) hs0
 have c2:=ZeU sg 4 hs
 show (fun x0 x1=>Zbs [x0,x1]) _ _=_
 rw[ZgH]
 have hst2:∀a b b':PV,[a,b].set 1 b'=[a,b']:=fun _ _ _=>rfl
 have hp1:∀a b a':PV,splice [a,b] 0 [a']=[a',b]:=fun _ _ _=>rfl
 have hp2:∀a b a' b':PV,splice [a,b] 0 [a',b']=[a',b']:=fun _ _ _ _=>rfl
 have hp3:∀a b a' b':PV,splice (splice [a,b] 0 [a']) 1 [b']=[a',b']:=fun _ _ _ _=>rfl
 simp only[c1,c2,hp3,Zcv,hp2,EVS]
 refine Z7 (R:=PV) gs.length (fun k=>[Z0 ⟨sg,Zbr (Zau 4 sg) (gs.take k)⟩,pI (Int.ofNat k)]) _ _ (by omega) (fun again k k2=> ?_) (fun again=> ?_) _ (by rw[List.take_zero];rfl)
 ·have hgk:gs[k]?=some gs[k]:=List.getElem?_eq_getElem k2
  have hgi:=h _ (List.getElem_mem k2)
  have hnx:=ZN k2 (show gs.length≤9223372036854775807 by omega)
  obtain ⟨g,hgg⟩:∃g,gs[k]=g:=⟨_,rfl⟩
  have htk:gs.take (k+1)=gs.take k++[g]:=by rw[←hgg];exact List.take_succ_eq_append_getElem k2
  rw[hgg] at hgk hgi
  obtain ⟨m,hm⟩:∃m:Nat,g.sig=m:=⟨g.sig.toNat,by have:=hgi.lo;omega⟩
  have hm8:m<sg.length:=by have:=hgi.hi;omega
  obtain ⟨ws,hws⟩:∃ws,Zbr (Zau 4 sg) (gs.take k)=ws:=⟨_,rfl⟩
  have hwl:=Zeo (gs.take k) (Zau 4 sg) (fun g hg=>h g (List.mem_of_mem_take hg))
  rw[hws,Zfz,List.length_take] at hwl
  have hx1:ZH (.lst (gs.map ZaU)) (.int .i64 (k:Int))=some (ZaU g):=ZA hgk
  have hit:=ZfR m (by omega)
  have n1:=ZmV m (by omega)
  have a1:Ze .add TD.str (.str [115]) (.str (Lib.itoa (m:Int)))=some (.str ([115]++Lib.itoa (m:Int))):=ZeD (by simp;omega)
  have a2:Ze .add TD.str (.str [114]) (.str (Lib.itoa (m:Int)))=some (.str ([114]++Lib.itoa (m:Int))):=ZeD (by simp;omega)
  have hs60:=hgi.set
  have hr60:=hgi.reset
  have o1:=ZeV sg ws ([115]++Lib.itoa (m:Int)) g.set (by omega) (by simp;omega) hs60 hgi.sets
  have l1:=Zc1 ws ([115]++Lib.itoa (m:Int)) g.set
  obtain ⟨ws1,hw1⟩:∃ws1,Zen ws ([115]++Lib.itoa (m:Int)) g.set=ws1:=⟨_,rfl⟩
  rw[hw1] at o1 l1
  have o2:=ZeV sg ws1 ([114]++Lib.itoa (m:Int)) g.reset (by omega) (by simp;omega) hr60 hgi.resets
  have l2:=Zc1 ws1 ([114]++Lib.itoa (m:Int)) g.reset
  obtain ⟨ws2,hw2⟩:∃ws2,Zen ws1 ([114]++Lib.itoa (m:Int)) g.reset=ws2:=⟨_,rfl⟩
  rw[hw2] at o2 l2
  have hm2:m<ws2.length:=by omega
  have hget:ws2[m]?=some ws2[m]:=List.getElem?_eq_getElem hm2
  have hgetm:(ws2.map Zr)[m]?=some (Zr ws2[m]):=by rw[List.getElem?_map,hget];rfl
  have hst:ZcU ws g=ws2.set m ⟨ws2[m].name,ws2[m].kind,[(((ws.length+g.set.length:Nat):Int),false),(((ws1.length+g.reset.length:Nat):Int),false)],ws2[m].cover⟩:=by
   unfold ZcU
   rw[hm,Int.toNat_natCast,hw1,hw2,ZkJ hget,l1]
  have hpl:Zgs (ws2.map Zr) (.int .i64 (m:Int))=some (.int .i64 (m:Int)):=ZkY (by rw[List.length_map];exact hm2)
  rw[htk,ZgB,hws,hst]
  simp only[Z0] at o1 o2
  simp only[Z0,Zbp k2,hx1,ZaU,Zdm,sp4,hm,n1,a1,a2,o1,o2,as2t,hp1,hpl,drD,hgetm,Zr,srD,hst2,hnx,List.map_set,EVS]
  rfl
 ·have em:Zn9 sg gs=(if Zft ⟨sg,Zbr (Zau 4 sg) gs⟩=true then ⟨sg,Zbr (Zau 4 sg) gs⟩ else ⟨[],[]⟩,Zft ⟨sg,Zbr (Zau 4 sg) gs⟩):=by
   unfold Zn9 Zlw
   cases Zft ⟨sg,Zbr (Zau 4 sg) gs⟩<;>rfl
  rw[em]
  simp only[Z0] at gg
  simp only[Zcc,List.take_length,Z0,Zdl,gg,pts,on1,Zcv,hp2,EVS]
def ZhZ (sg:List (List UInt8×Int)) (i:Nat):List UInt8:=match sg[i]? with|some s=>s.1|none=>[]
def ZeW (sg:List (List UInt8×Int)):List PWire→List PGate→List PWire
 |ws,[]=>ws
 |ws,g::r=>ZeW sg (ws.set g.sig.toNat ⟨ZhZ sg g.sig.toNat,5,[],g.set⟩) r
theorem ZjH (sg:List (List UInt8×Int)):∀(l:List PGate) (ws:List PWire) (g:PGate),ZeW sg ws (l++[g])=(ZeW sg ws l).set g.sig.toNat ⟨ZhZ sg g.sig.toNat,5,[],g.set⟩
 |[],ws,g=>rfl
 |x::r,ws,g=>by rw[List.cons_append,ZeW,ZeW,ZjH sg r]
theorem ZkL (sg:List (List UInt8×Int)):∀(l:List PGate) (ws:List PWire),(ZeW sg ws l).length=ws.length
 |[],ws=>rfl
 |x::r,ws=>by rw[ZeW,ZkL sg r,List.length_set]
def ZkM (ws:List PWire) (i:Nat) (c:List (List UInt8)):List PWire:=match ws[i]? with
 |some w=>ws.set i ⟨w.name,w.kind,w.ins,c⟩
 |none=>ws
def Zep :List PWire→List PGate→List PWire
 |ws,[]=>ws
 |ws,g::r=>Zep (if decide (g.kind=1)=true then ZkM ws g.sig.toNat g.set else ws) r
theorem ZjI :∀(l:List PGate) (ws:List PWire) (g:PGate),Zep ws (l++[g])=(if decide (g.kind=1)=true then ZkM (Zep ws l) g.sig.toNat g.set else Zep ws l)
 |[],ws,g=>rfl
 |x::r,ws,g=>by rw[List.cons_append,Zep,Zep,ZjI r]
theorem ZpG (ws:List PWire) (i:Nat) (c:List (List UInt8)):(ZkM ws i c).length=ws.length:=by
 unfold ZkM
 split<;>simp
theorem ZkN :∀(l:List PGate) (ws:List PWire),(Zep ws l).length=ws.length
 |[],ws=>rfl
 | x::r,ws=>by
  rw[Zep,ZkN r]
  split
  ·exact ZpG _ _ _
  ·rfl
theorem ZmZ {ws:List PWire} {i:Nat} {w:PWire} (h:ws[i]?=some w) (c:List (List UInt8)):ZkM ws i c=ws.set i ⟨w.name,w.kind,w.ins,c⟩:=by
 unfold ZkM
 rw[h]
def Zeq :List (List UInt8×Int)→List PGate→List PWire
 |[],_=>[]
 | s::r,gs=>if decide (s.2=1)=true then ⟨s.1,1,[],[]⟩::Zeq r gs else match gs with
  |g::gs'=>⟨s.1,5,[],g.set⟩::Zeq r gs'
  |[]=>⟨s.1,5,[],[]⟩::Zeq r []
theorem ZoZ {α:Type} (P:List α) (x y:α) (r:List α):(P++x::r).set P.length y=P++y::r:=by
 rw[List.set_append,if_neg (Nat.lt_irrefl _),Nat.sub_self]
 rfl
theorem ZjJ :∀(l:List (List UInt8×Int)) (sg:List (List UInt8×Int)) (P:List PWire) (pre:List (List UInt8×Int)) (gs:List PGate),sg=pre++l→pre.length=P.length→gs.map (·.sig)=Zaq P.length l→
 ZeW sg (P++l.map fun s=>⟨s.1,1,[],[]⟩) gs=P++Zeq l gs
 | [],sg,P,pre,gs,_,_,h=>by
  have:gs=[]:=by simpa[Zaq] using h
  subst this
  rfl
 | s ::r,sg,P,pre,gs,e,hp,h=>by
  unfold Zaq at h
  unfold Zeq
  cases c:decide (s.2=1)
  ·rw [c] at h
   simp only[Bool.false_eq_true,if_false] at h⊢
   cases gs with
   |nil=>simp at h
   | cons g gs'=>
    simp only[List.map_cons,List.cons.injEq] at h
    have hn:ZhZ sg g.sig.toNat=s.1:=by
     unfold ZhZ
     rw[h.1,Int.toNat_natCast,e,List.getElem?_append_right (by omega),hp,Nat.sub_self]
     rfl
    dsimp only
    rw[ZeW,hn,h.1,Int.toNat_natCast,List.map_cons,ZoZ]
    have ih:=ZjJ r sg (P++[⟨s.1,5,[],g.set⟩]) (pre++[s]) gs' (by rw[e];simp) (by simp[hp]) (by simpa using h.2)
    simpa using ih
  ·rw[c] at h
   simp only[if_true] at h⊢
   have ih:=ZjJ r sg (P++[⟨s.1,1,[],[]⟩]) (pre++[s]) gs (by rw[e];simp) (by simp[hp]) (by simpa using h)
   simpa using ih
theorem ZjK :∀(l:List (List UInt8×Int)) (P:List PWire) (gs:List PGate),(∀g∈gs,g.kind=1)→gs.map (·.sig)=Zaq P.length l→Zep (P++Zau 5 l) gs=P++Zeq l gs
 | [],P,gs,_,h=>by
  have:gs=[]:=by simpa[Zaq] using h
  subst this
  rfl
 | s ::r,P,gs,hk,h=>by
  unfold Zaq at h
  unfold Zeq Zau
  rw[List.map_cons]
  cases c:decide (s.2=1)
  ·rw [c] at h
   simp only[Bool.false_eq_true,if_false] at h⊢
   cases gs with
   |nil=>simp at h
   | cons g gs'=>
    simp only[List.map_cons,List.cons.injEq] at h
    dsimp only
    have hw:(P++(⟨s.1,5,[],[]⟩:PWire)::List.map (fun s=>⟨s.1,if decide (s.2=1)=true then 1 else 5,[],[]⟩) r)[P.length]?=some ⟨s.1,5,[],[]⟩:=by
     rw[List.getElem?_append_right (Nat.le_refl _),Nat.sub_self]
     rfl
    rw[Zep,decide_eq_true (hk g List.mem_cons_self),if_pos rfl,h.1,Int.toNat_natCast,ZmZ hw,ZoZ]
    have ih:=ZjK r (P++[⟨s.1,5,[],g.set⟩]) gs' (fun g hg=>hk g (List.mem_cons_of_mem _ hg)) (by simpa using h.2)
    unfold Zau at ih
    simpa using ih
  ·rw[c] at h
   simp only[if_true] at h⊢
   have ih:=ZjK r (P++[⟨s.1,1,[],[]⟩]) gs hk (by simpa using h)
   unfold Zau at ih
   simpa using ih
theorem ZfT :∀(l:List (List UInt8×Int)) (gs:List PGate) (i:Nat) (w:PWire),(Zeq l gs)[i]?=some w→∃s,l[i]?=some s∧w.name=s.1∧w.ins=[]∧((s.2=1∧w.kind=1∧w.cover=[])∨(s.2≠1∧w.kind=5∧(w.cover=[]∨∃g∈gs,w.cover=g.set)))
 |[],gs,i,w,h=>by simp[Zeq] at h
 | s ::r,gs,i,w,h=>by
  unfold Zeq at h
  cases c:decide (s.2=1)
  ·rw [c] at h
   simp only[Bool.false_eq_true,if_false] at h
   have hne:s.2≠1:=by simpa using c
   cases gs with
   | nil=>
    cases i with
    | zero=>
     simp at h
     subst h
     exact ⟨s,rfl,rfl,rfl,.inr ⟨hne,rfl,.inl rfl⟩⟩
    |succ i=>exact ZfT r [] i w (by simpa using h)
   | cons g gs'=>
    cases i with
    | zero=>
     simp at h
     subst h
     exact ⟨s,rfl,rfl,rfl,.inr ⟨hne,rfl,.inr ⟨g,List.mem_cons_self,rfl⟩⟩⟩
    | succ i=>
     obtain ⟨s',h1,h2,h3,h4⟩:=ZfT r gs' i w (by simpa using h)
     refine ⟨s',by simpa using h1,h2,h3, ?_⟩
     rcases h4 with h4|⟨h4,h5,h6|⟨g',hg,h6⟩⟩
     ·exact .inl h4
     ·exact .inr ⟨h4,h5,.inl h6⟩
     ·exact .inr ⟨h4,h5,.inr ⟨g',List.mem_cons_of_mem _ hg,h6⟩⟩
  ·rw[c] at h
   simp only[if_true] at h
   cases i with
   | zero=>
    simp at h
    subst h
    exact ⟨s,rfl,rfl,rfl,.inl ⟨by simpa using c,rfl,rfl⟩⟩
   |succ i=>exact ZfT r gs i w (by simpa using h)
theorem Zhk :∀(l:List (List UInt8×Int)) (gs:List PGate),(Zeq l gs).length=l.length
 |[],_=>rfl
 | s::r,gs=>by
  unfold Zeq
  split
  ·rw[List.length_cons,List.length_cons,Zhk r]
  ·split<;>rw[List.length_cons,List.length_cons,Zhk r]
theorem Zlx {α:Type} {q:Nat→α→Bool}:∀(l:List α) (j:Nat),(∀(i:Nat) (x:α),l[i]?=some x→q (j+i) x=true)→Z9 q j l=true
 |[],j,_=>rfl
 | x::r,j,h=>by
  unfold Z9
  have h0:=h 0 x rfl
  rw[Nat.add_zero] at h0
  rw[h0,Bool.true_and]
  refine Zlx r (j+1) fun i y hi=> ?_
  have:=h (i+1) y (by simpa using hi)
  rw[show j+1+i=j+(i+1) by omega]
  exact this
theorem mk_ok {sg:List (List UInt8×Int)} {gs:List PGate} (h1:ZdL sg=true) (h2:∀g∈gs,ZcB sg.length g.set=true):Zft ⟨sg,Zeq sg gs⟩=true:=by
 have hs:=h1
 unfold ZdL at hs
 simp only[Bool.and_eq_true] at hs
 obtain ⟨hs1,hs2⟩:=hs
 have h8:1≤sg.length∧sg.length≤8:=by
  unfold inR at hs2
  simp only[Bool.and_eq_true,decide_eq_true_eq] at hs2
  omega
 have hl:=Zhk sg gs
 unfold Zft
 simp only[hl,Bool.and_eq_true,Bool.not_eq_true',decide_eq_false_iff_not]
 refine ⟨⟨h1,by omega,by omega⟩,Zlx _ 0 fun k w hw=> ?_⟩
 rw[Nat.zero_add]
 obtain ⟨s,e1,e2,e3,e4⟩:=ZfT sg gs k w hw
 have hk:k<sg.length:=Zu e1
 have hsk:=ZfP _ sg 0 hs1 k s e1
 rw[Nat.zero_add] at hsk
 unfold Zhg at hsk
 simp only[Bool.and_eq_true] at hsk
 obtain ⟨⟨n1,n2⟩,n3⟩:=hsk
 have hg0:ZcB (sg.length:Int) []=true:=by
  unfold ZcB ZfO inR
  rw[decide_eq_true (show (1:Int)≤(sg.length:Int) by omega),decide_eq_true (show (sg.length:Int)≤8 by omega)]
  rfl
 have hseen:decide ((k:Int)<(sg.length:Int))=true:=decide_eq_true (by omega)
 unfold ZbJ
 rw[Bool.and_eq_true]
 constructor
 ·unfold ZjA
  dsimp only
  have hws:Zdx ⟨sg,Zeq sg gs⟩ k w=true:=by
   unfold Zdx
   dsimp only
   rw[e1]
   dsimp only
   rcases e4 with ⟨a1,a2,a3⟩|⟨a1,a2,a3⟩
   ·rw[e2,a1,a2];simp
   ·rw[e2,a2];simp[a1]
  have hpins:Zjz ⟨sg,Zeq sg gs⟩ k w=true:=by
   unfold Zjz Zde
   rw[e3]
   rcases e4 with ⟨a1,a2,a3⟩|⟨a1,a2,a3⟩<;>rw[a2]<;>rfl
  rw[hseen,hws,hpins,e2,n1]
  rcases e4 with ⟨a1,a2,a3⟩|⟨a1,a2,a3⟩
  ·rw[a2,a3];rfl
  ·have hc:ZcB (sg.length:Int) w.cover=true:=by
    rcases a3 with a3|⟨g,hg,a3⟩
    ·rw[a3];exact hg0
    ·rw[a3];exact h2 g hg
   rw[a2,hc];rfl
 ·refine Zlx _ 0 fun i v hv=> ?_
  have hik:i<k:=by
   have:=Zu hv
   rw[List.length_take] at this
   omega
  rw[List.getElem?_take_of_lt hik] at hv
  obtain ⟨t,f1,f2,_⟩:=ZfT sg gs i v hv
  have:=ZfP _ _ 0 n3 i t (by rw[List.getElem?_take_of_lt hik];exact f1)
  simp only[Bool.not_eq_true',decide_eq_false_iff_not] at this⊢
  rw[f2,e2]
  intro e
  exact this e.symm
def Zd5 (gs:List PGate):Bool:=gs.all fun g=>decide (g.kind=1)
def Zki (gs:List PGate):Bool:=gs.all fun g=>decide (g.kind=2)
def bnP (c:PCirc):PNet×Bool:=
 if Zhi c=true then (if Zd5 c.gates=true then (⟨c.signals,Zeq c.signals c.gates⟩,true) else if Zki c.gates=true then Zn9 c.signals c.gates else (⟨[],[]⟩,false)) else (⟨[],[]⟩,false)
structure CircOk (c:PCirc):Prop where
 ne:c.signals≠[]
 s8:c.signals.length≤8
 names:∀s∈c.signals,s.1.length≤6
 sigs:ZdL c.signals=true
 gs:c.gates.map (·.sig)=Zaq 0 c.signals
 g8:c.gates.length≤8
 gate:∀g∈c.gates,Zbq c.signals.length g=true
theorem ZjL :∀(l:List (List UInt8×Int)) (k:Nat),∀x∈Zaq k l,(k:Int)≤x∧x<k+l.length
 |[],k,x,h=>by simp[Zaq] at h
 | s ::r,k,x,h=>by
  unfold Zaq at h
  rw[List.length_cons]
  split at h
  ·have:=ZjL r (k+1) x h
   omega
  ·rcases List.mem_cons.1 h with rfl|h
   ·omega
   ·have:=ZjL r (k+1) x h
    omega
theorem Zoa {c:PCirc} (h:Zhi c=true):CircOk c:=by
 unfold Zhi at h
 simp only[Bool.and_eq_true,decide_eq_true_eq] at h
 obtain ⟨h1,h2,h3⟩:=h
 have hs:=h1
 unfold ZdL at hs
 simp only[Bool.and_eq_true] at hs
 obtain ⟨hs1,hs2⟩:=hs
 have h8:1≤c.signals.length∧c.signals.length≤8:=by
  unfold inR at hs2
  simp only[Bool.and_eq_true,decide_eq_true_eq] at hs2
  omega
 have hgl:c.gates.length≤8:=by
  have e:=congrArg List.length h2
  rw[List.length_map] at e
  have:=ZfQ c.signals 0
  omega
 refine ⟨fun e=>by rw[e] at h8;simp at h8,h8.2,fun s hs=> ?_,h1,h2,hgl,fun g hg=>List.all_eq_true.1 h3 g hg⟩
 obtain ⟨k,hk⟩:=List.getElem?_of_mem hs
 have hsk:=ZfP _ c.signals 0 hs1 k s hk
 unfold Zhg at hsk
 simp only[Bool.and_eq_true] at hsk
 have hn:=hsk.1.1
 unfold Z4 at hn
 simp only[Bool.and_eq_true,decide_eq_true_eq] at hn
 omega
theorem CircOk.cov {c:PCirc} (h:CircOk c) {l:List (List UInt8)} (hl:ZcB c.signals.length l=true):l.length≤60∧∀x∈l,x.length≤8:=by
 unfold ZcB ZfO at hl
 simp only[Bool.and_eq_true,decide_eq_true_eq] at hl
 obtain ⟨h1,h2,h3⟩:=hl
 refine ⟨by omega,fun x hx=> ?_⟩
 have:=ZjE (fun c'=>Zf5 c'&&decide ((c'.length:Int)=(c.signals.length:Int))) h1 hx
 simp only[Bool.and_eq_true,decide_eq_true_eq] at this
 have:=h.s8
 omega
theorem CircOk.gkind {c:PCirc} (h:CircOk c) {g:PGate} (hg:g∈c.gates):g.kind=1∨g.kind=2:=by
 have:=h.gate g hg
 unfold Zbq at this
 by_cases e1:g.kind=1
 ·exact .inl e1
 ·by_cases e2:g.kind=2
  ·exact .inr e2
  ·simp[e1,e2] at this
theorem CircOk.gset {c:PCirc} (h:CircOk c) {g:PGate} (hg:g∈c.gates):ZcB c.signals.length g.set=true:=by
 have:=h.gate g hg
 unfold Zbq at this
 split at this
 ·simp only[Bool.and_eq_true] at this;exact this.1
 ·split at this
  ·simp only[Bool.and_eq_true] at this;exact this.1
  ·cases this
theorem CircOk.greset {c:PCirc} (h:CircOk c) {g:PGate} (hg:g∈c.gates):g.reset.length≤60∧∀x∈g.reset,x.length≤8:=by
 have:=h.gate g hg
 unfold Zbq at this
 split at this
 ·simp only[Bool.and_eq_true,decide_eq_true_eq] at this
  have e:g.reset=[]:=List.eq_nil_of_length_eq_zero (by omega)
  rw[e]
  simp
 ·split at this
  ·simp only[Bool.and_eq_true] at this;exact h.cov this.2
  ·cases this
theorem CircOk.sig {c:PCirc} (h:CircOk c) {g:PGate} (hg:g∈c.gates):0≤g.sig∧g.sig<c.signals.length:=by
 have:=ZjL c.signals 0 g.sig (by rw[←h.gs];exact List.mem_map.2 ⟨g,hg,rfl⟩)
 omega
theorem CircOk.gin {c:PCirc} (h:CircOk c):∀g∈c.gates,GateIn c.signals.length g:=fun g hg=>
 ⟨(h.sig hg).1,(h.sig hg).2,(h.cov (h.gset hg)).1,(h.cov (h.gset hg)).2,(h.greset hg).1,(h.greset hg).2⟩
theorem Zm0 (l:List (List UInt8)) (hl:l.length≤4294967296):ZeM [.lst (l.map PV.str)]=some (.lst (l.map PV.str)):=by
 show (fun x0=>ZeM [x0]) _=_
 rw[Zm3]
 have hok:(l.map PV.str).all (Zao 1)=true:=by
  rw[List.all_map]
  exact List.all_eq_true.2 fun x _=>rfl
 have hla:0+l.length≤4294967296∧(l.map PV.str).all (Zao 1)=true:=⟨by omega,hok⟩
 simp only[List.length_nil,List.nil_append,if_pos hla,EVS]
theorem ZrC (ks:List CK) (k:Kd) (s:Nat) (l:List PV) (y:PV):frV ⟨.grp false ks,k,some s⟩ ⟨.agg l,y⟩=some (.agg l):=(Eq.refl _).trans (Eq.refl _)
theorem se4 (a b c d a' b' c' d':PV):ZaX 0 4 [a,b,c,d] (.agg [a,b,c,d]) (.agg [a',b',c',d'])=some (.agg [a',b',c',d']):=(Eq.refl _).trans (Eq.refl _)
theorem Zhl (c:PCirc) (hc:c.Fit):ZbM [Zc0 c]=some (.tup [Z0 (bnP c).1,pB (bnP c).2]):=by
 have g1:=ZmU c hc
 show (fun x0=>ZbM [x0]) _=_
 rw[Zhp]
 have hp2:∀a b a' b':PV,splice [a,b] 0 [a',b']=[a',b']:=fun _ _ _ _=>rfl
 have hp1:∀a b a':PV,splice [a,b] 0 [a']=[a',b]:=fun _ _ _=>rfl
 have hst2:∀a b b':PV,[a,b].set 1 b'=[a,b']:=fun _ _ _=>rfl
 have hs4:∀a b c d a' b':PV,splice (splice [a,b,c,d] 0 [a']) 1 [b']=[a',b',c,d]:=fun _ _ _ _ _ _=>rfl
 have hs5:∀a b c d a' b' d':PV,splice (splice (splice [a,b,c,d] 0 [a']) 1 [b']) 3 [d']=[a',b',c,d']:=fun _ _ _ _ _ _ _=>rfl
 unfold bnP
 simp only[Zc0] at g1⊢
 cases c1:Zhi c<;>rw[c1] at g1
 ·simp only[g1,hp2,Bool.false_eq_true,if_false,Z0,EVS]
  rfl
 have ok:=Zoa c1
 have hs8:=ok.s8
 have hg8:=ok.g8
 have hb0:0+c.signals.length≤4294967296∧(c.signals.map ZK).all (Zao 2)=true:=⟨by omega,Zlv _⟩
 simp only[g1,List.length_nil,List.nil_append,if_pos hb0,hp1,hp2,Zcv,if_true,EVS]
 refine Z7 (R:=PV) c.signals.length (fun k=>[.agg [.lst (c.signals.map ZK),.lst (((c.signals.take k).map fun s=>(⟨s.1,1,[],[]⟩:PWire)).map Zr)],pI (Int.ofNat k)]) _ _ (by omega) (fun again k k2=> ?_) (fun again=> ?_) _ (by rw[List.take_zero];rfl)
 ·have hsg:ZH (.lst (c.signals.map ZK)) (.int .i64 (k:Int))=some (ZK c.signals[k]):=ZA (List.getElem?_eq_getElem k2)
  have hnx:=ZN k2 (show c.signals.length≤9223372036854775807 by omega)
  have hcl:(c.signals.take k).length=k:=by simp;omega
  have hal:([PV.agg [.str c.signals[k].1,pI 1,.lst [],.lst []]].all fun x=>Zao 4 x)=true:=rfl
  have hlb:(c.signals.take k).length+1≤4294967296∧[PV.agg [.str c.signals[k].1,pI 1,.lst [],.lst []]].all (Zao 4)=true:=⟨by omega,rfl⟩
  simp only[Zbp k2,hsg,ZK,sp2,Zdl,hs4,if_pos hal,Zkh,if_pos hlb,hst2,hnx,List.length_map,EVS]
  rw[List.take_succ_eq_append_getElem k2,List.map_append,List.map_append]
  rfl
 ·simp only[Zcc,List.take_length,EVS]
  obtain ⟨base,hbase⟩:∃base,(c.signals.map fun s=>(⟨s.1,1,[],[]⟩:PWire))=base:=⟨_,rfl⟩
  have hbl:base.length=c.signals.length:=by rw[←hbase];simp
  rw[hbase]
  refine Z7 (R:=PV) c.gates.length (fun k=>[pB (Zd5 (c.gates.take k)),pB (Zki (c.gates.take k)),Z0 ⟨c.signals,ZeW c.signals base (c.gates.take k)⟩,.lst ((c.gates.take k).map fun g=>pI g.sig),.lst ((c.gates.take k).map fun g=>PV.lst (g.set.map PV.str)),.lst ((c.gates.take k).map fun g=>PV.lst (g.reset.map PV.str)),pI (Int.ofNat k)]) _ _ (by omega) (fun again k k2=> ?_) (fun again=> ?_) _ (by rw[List.take_zero];rfl)
  ·have hgk:c.gates[k]?=some c.gates[k]:=List.getElem?_eq_getElem k2
   have hmem:=List.getElem_mem k2
   have hnx:=ZN k2 (show c.gates.length≤9223372036854775807 by omega)
   obtain ⟨g,hgg⟩:∃g,c.gates[k]=g:=⟨_,rfl⟩
   have htk:c.gates.take (k+1)=c.gates.take k++[g]:=by rw[←hgg];exact List.take_succ_eq_append_getElem k2
   rw[hgg] at hgk hmem
   have hgi:=ok.gin g hmem
   obtain ⟨m,hm⟩:∃m:Nat,g.sig=m:=⟨g.sig.toNat,by have:=hgi.lo;omega⟩
   have hm8:m<c.signals.length:=by have:=hgi.hi;omega
   have hx1:ZH (.lst (c.gates.map ZaU)) (.int .i64 (k:Int))=some (ZaU g):=ZA hgk
   have hx2:ZH (.lst (c.signals.map ZK)) (.int .i64 (m:Int))=some (ZK c.signals[m]):=ZA (List.getElem?_eq_getElem hm8)
   have o1:=Zm0 g.set (by have:=hgi.set;omega)
   obtain ⟨ws,hws⟩:∃ws,ZeW c.signals base (c.gates.take k)=ws:=⟨_,rfl⟩
   have hwl:ws.length=c.signals.length:=by rw[←hws,ZkL,hbl]
   have hget:(ws.map Zr)[m]?=some (Zr (ws[m]'(by omega))):=by rw[List.getElem?_map,List.getElem?_eq_getElem (by omega)];rfl
   have hpl:Zgs (ws.map Zr) (.int .i64 (m:Int))=some (.int .i64 (m:Int)):=ZkY (by rw[List.length_map];omega)
   have hna:ZhZ c.signals g.sig.toNat=c.signals[m].1:=by
    unfold ZhZ
    rw[hm,Int.toNat_natCast,List.getElem?_eq_getElem hm8]
   have ew:Zd5 (c.gates.take k++[g])=(Zd5 (c.gates.take k)&&decide (g.kind=1)):=by simp[Zd5,List.all_append]
   have em:Zki (c.gates.take k++[g])=(Zki (c.gates.take k)&&decide (g.kind=2)):=by simp[Zki,List.all_append]
   have hcl:(c.gates.take k).length=k:=by simp;omega
   have hlb:∀x:PV,Zao 1 x=true→(c.gates.take k).length+1≤4294967296∧[x].all (Zao 1)=true:=fun x hx=>⟨by omega,by rw[List.all_cons,hx];rfl⟩
   have hl1:=hlb (pI (m:Int)) rfl
   have hl2:=hlb (PV.lst (g.set.map PV.str)) rfl
   have hl3:=hlb (PV.lst (g.reset.map PV.str)) rfl
   rw[htk,ZjH,hws,ew,em,hna]
   cases cw:Zd5 (c.gates.take k)<;>cases cm:Zki (c.gates.take k)<;>cases d1:decide (g.kind=1)<;>cases d2:decide (g.kind=2)<;>
    simp only[Zbp k2,hx1,ZaU,Zdm,sp4,d1,d2,hm,hx2,ZK,List.drop_zero,o1,hs5,hpl,drF,hget,Zr,Z0,ZrC,se4,hst2,Zkh,List.length_map,if_pos hl1,if_pos hl2,if_pos hl3,hnx,Int.toNat_natCast,List.map_append,List.map_cons,List.map_nil,List.map_set,EVS]
  ·have hr:ZeW c.signals base c.gates=Zeq c.signals c.gates:=by
    have:=ZjJ c.signals c.signals [] [] c.gates rfl rfl ok.gs
    rw[←hbase]
    simpa using this
   have g2:=Ziv c.signals c.gates hs8 (fun s hs=>by have:=ok.names s hs;omega) hg8 ok.gin
   have hlv:∀x:Option PV,Za [PV.bool true,PV.bool true,PV.bool true] x=x:=fun _=>rfl
   simp only[Z0] at g2
   simp only[Zcc,List.take_length,hr,EVS]
   cases cw:Zd5 c.gates
   ·cases cm:Zki c.gates
    ·simp only[cw,cm,Bool.false_eq_true,if_false,Z0,hp2,List.map_nil,EVS]
    ·unfold Zn9 Zlw
     cases cn:Zft ⟨c.signals,Zbr (Zau 4 c.signals) c.gates⟩<;>rw[cn] at g2<;>simp only[cw,cm,g2,Bool.false_eq_true,if_false,if_true,Z0,hp2,Zdl,List.map_nil,hlv,EVS]
   ·simp only[cw,if_true,Z0,hp2,Zdl,EVS]
theorem srD3 (a b c d:PV) (l:List PV):Zej 3 (.agg [a,b,c,d]) l=some (.agg [a,b,c,.lst l]):=(Eq.refl _).trans (Eq.refl _)
def ZjM (gs:List PGate):Nat:=gs.countP fun g=>decide (g.kind=1)
theorem ZpH (gs:List PGate) (g:PGate):ZjM (gs++[g])=ZjM gs+(if decide (g.kind=1)=true then 1 else 0):=by
 unfold ZjM
 rw[List.countP_append,List.countP_singleton]
theorem ZrD (gs:List PGate):ZjM gs≤gs.length:=List.countP_le_length
theorem ZpI (gs:List PGate):decide ((ZjM gs:Int)=(gs.length:Int))=Zd5 gs:=by
 unfold ZjM Zd5
 rw[Bool.eq_iff_iff,decide_eq_true_eq,List.all_eq_true]
 constructor
 ·intro h
  have h':gs.countP (fun g=>decide (g.kind=1))=gs.length:=by omega
  exact List.countP_eq_length.1 h'
 ·intro h
  have:=List.countP_eq_length.2 h
  omega
theorem ZrE {c:PCirc} (ok:CircOk c):decide ((ZjM c.gates:Int)=0)=Zki c.gates:=by
 unfold ZjM Zki
 rw[Bool.eq_iff_iff,decide_eq_true_eq,List.all_eq_true]
 constructor
 ·intro h g hg
  have h':c.gates.countP (fun g=>decide (g.kind=1))=0:=by omega
  have:=List.countP_eq_zero.1 h' g hg
  rcases ok.gkind hg with e|e
  ·simp[e] at this
  ·simp[e]
 ·intro h
  have:c.gates.countP (fun g=>decide (g.kind=1))=0:=List.countP_eq_zero.2 fun g hg=>by
   have:=h g hg
   simp only[decide_eq_true_eq] at this
   simp[this]
  omega
theorem ZjN (l:List (List UInt8)) (h:l.length≤60):Zak [.lst (l.map PV.str)]=some (.lst (l.map PV.str)):=by
 unfold Zak clnS
 dsimp only
 rw[ZjT]
 dsimp only
 rw[if_pos (by omega)]
theorem Zhm (c:PCirc) (hc:c.Fit) (hm:c.gates.length≤1048576):ZbQ [Zc0 c]=some (.tup [Z0 (bnP c).1,pB (bnP c).2]):=by
 have g1:=Zgy c hc hm
 show (fun x0=>ZbQ [x0]) _=_
 rw[Zhv]
 have hp2:∀a b a' b':PV,splice [a,b] 0 [a',b']=[a',b']:=fun _ _ _ _=>rfl
 have hp1:∀a b a':PV,splice [a,b] 0 [a']=[a',b]:=fun _ _ _=>rfl
 have hp3:∀a b a' b':PV,splice (splice [a,b] 0 [a']) 1 [b']=[a',b']:=fun _ _ _ _=>rfl
 have hst2:∀a b b':PV,[a,b].set 1 b'=[a,b']:=fun _ _ _=>rfl
 unfold bnP
 simp only[Zc0] at g1⊢
 cases c1:Zhi c<;>rw[c1] at g1
 ·simp only[g1,hp2,Bool.false_eq_true,if_false,Z0,EVS]
  rfl
 have ok:=Zoa c1
 have hs8:=ok.s8
 have hg8:=ok.g8
 have k1:=ZbY c.signals (by omega) ok.ne
 have k2:=ZeU c.signals 5 hs8
 simp only[g1,k1,k2,hp2,hp3,Zcv,if_true,EVS]
 refine Z7 (R:=PV) c.gates.length (fun k=>[Z0 ⟨c.signals,Zep (Zau 5 c.signals) (c.gates.take k)⟩,pI ((ZjM (c.gates.take k):Nat):Int),pI (Int.ofNat k)]) _ _ (by omega) (fun again k k2=> ?_) (fun again=> ?_) _ (by rw[List.take_zero];rfl)
 ·have hgk:c.gates[k]?=some c.gates[k]:=List.getElem?_eq_getElem k2
  have hmem:=List.getElem_mem k2
  have hnx:=ZN k2 (show c.gates.length≤9223372036854775807 by omega)
  obtain ⟨g,hgg⟩:∃g,c.gates[k]=g:=⟨_,rfl⟩
  have htk:c.gates.take (k+1)=c.gates.take k++[g]:=by rw[←hgg];exact List.take_succ_eq_append_getElem k2
  rw[hgg] at hgk hmem
  have hgi:=ok.gin g hmem
  obtain ⟨m,hm⟩:∃m:Nat,g.sig=m:=⟨g.sig.toNat,by have:=hgi.lo;omega⟩
  have hm8:m<c.signals.length:=by have:=hgi.hi;omega
  have hx1:ZH (.lst (c.gates.map ZaU)) (.int .i64 (k:Int))=some (ZaU g):=ZA hgk
  have o1:=ZjN g.set hgi.set
  obtain ⟨ws,hws⟩:∃ws,Zep (Zau 5 c.signals) (c.gates.take k)=ws:=⟨_,rfl⟩
  have hwl:ws.length=c.signals.length:=by rw[←hws,ZkN,Zfz]
  have hget0:ws[m]?=some (ws[m]'(by omega)):=List.getElem?_eq_getElem (by omega)
  have hget:(ws.map Zr)[m]?=some (Zr (ws[m]'(by omega))):=by rw[List.getElem?_map,hget0];rfl
  have hpl:Zgs (ws.map Zr) (.int .i64 (m:Int))=some (.int .i64 (m:Int)):=ZkY (by rw[List.length_map];omega)
  have hcn:=ZrD (c.gates.take k)
  have hcl:(c.gates.take k).length=k:=by simp;omega
  have hwr:IntKind.i64.wrap ((ZjM (c.gates.take k):Int)+1)=((ZjM (c.gates.take k)+1:Nat):Int):=by rw[Zdb (by omega) (by omega)];omega
  rw[htk,ZjI,hws,ZpH,hm,Int.toNat_natCast,ZmZ hget0]
  cases d1:decide (g.kind=1)
  ·simp only[Zbp k2,hx1,ZaU,Zdm,sp4,d1,hnx,Nat.add_zero,Bool.false_eq_true,if_false,Z0,EVS]
  ·simp only[Zbp k2,hx1,ZaU,Zdm,sp4,d1,hm,o1,hpl,drD,hget,Zr,Z0,srD3,hst2,hnx,hwr,if_true,List.map_set,EVS]
 ·have hl6:∀s∈c.signals,s.1.length≤1000:=fun s hs=>by have:=ok.names s hs;omega
  have d1:=ZpI c.gates
  have d2:=ZrE ok
  have gm:=Zhj c.signals c.gates ok.ne hs8 hl6 hg8 ok.gin
  simp only[Zcc,List.take_length,Z0,List.length_map,d1,d2,EVS]
  cases cw:Zd5 c.gates
  ·cases cm:Zki c.gates
   ·simp only[Bool.false_eq_true,if_false,hp2,List.map_nil,EVS]
   ·simp only[Z0] at gm
    simp only[gm,pts,on1,Zcv,hp2,Bool.false_eq_true,if_false,if_true,EVS]
  ·have hk:∀g∈c.gates,g.kind=1:=fun g hg=>by
    have:=List.all_eq_true.1 cw g hg
    simpa using this
   have hr:Zep (Zau 5 c.signals) c.gates=Zeq c.signals c.gates:=by
    have:=ZjK c.signals [] c.gates hk ok.gs
    simpa using this
   have hin:∀w∈Zeq c.signals c.gates,WIn w:=fun w hw=>by
    obtain ⟨i,hi⟩:=List.getElem?_of_mem hw
    obtain ⟨s,e1,e2,e3,e4⟩:=ZfT _ _ i w hi
    have hs:=ok.names s (List.mem_of_getElem? e1)
    refine ⟨by rw[e2];omega,by rw[e3];simp, ?_⟩
    rcases e4 with ⟨_,_,e⟩|⟨_,_,e|⟨g,hg,e⟩⟩
    ·rw[e];simp
    ·rw[e];simp
    ·rw[e]
     have:=(ok.gin g hg).set
     exact ⟨by omega,(ok.gin g hg).sets⟩
   have gn:=Zq2 c.signals (Zeq c.signals c.gates) (Zn8 hs8 hl6 (by rw[Zhk];omega) hin)
   rw[mk_ok ok.sigs (fun g hg=>ok.gset hg)] at gn
   simp only[Z0,if_true] at gn
   simp only[hr,Zdl,gn,pts,on1,Zcv,hp2,if_true,EVS]
structure NetIn (n:PNet):Prop where
 s8:n.signals.length≤8
 sig:∀s∈n.signals,s.1.length≤6∧1≤s.2∧s.2≤3
 w24:n.wires.length≤24
 wire:∀w∈n.wires,w.name.length≤6∧(1≤w.kind∧w.kind≤5)∧w.ins.length≤8∧(∀p∈w.ins,0≤p.1∧p.1<24)∧w.cover.length≤60∧∀c∈w.cover,c.length≤8
theorem NetIn.nil :NetIn ⟨[],[]⟩:=⟨by simp,by simp,by simp,by simp⟩
theorem nm6 {s:List UInt8} (h:Z4 s=true):s.length≤6:=by
 unfold Z4 at h
 simp only[Bool.and_eq_true,decide_eq_true_eq] at h
 omega
theorem netIn {n:PNet} (h:Zft n=true):NetIn n:=by
 unfold Zft at h
 simp only[Bool.and_eq_true,Bool.not_eq_true',decide_eq_false_iff_not] at h
 obtain ⟨⟨h1,h2,h3⟩,h4⟩:=h
 unfold ZdL at h1
 simp only[Bool.and_eq_true] at h1
 obtain ⟨hs1,hs2⟩:=h1
 unfold inR at hs2
 simp only[Bool.and_eq_true,decide_eq_true_eq] at hs2
 refine ⟨by omega,fun s hs=> ?_,by omega,fun w hw=> ?_⟩
 ·obtain ⟨k,hk⟩:=List.getElem?_of_mem hs
  have hsk:=ZfP _ n.signals 0 hs1 k s hk
  unfold Zhg inR at hsk
  simp only[Bool.and_eq_true,decide_eq_true_eq] at hsk
  exact ⟨nm6 hsk.1.1,hsk.1.2⟩
 ·obtain ⟨k,hk⟩:=List.getElem?_of_mem hw
  have hk:=ZfP _ _ _ h4 k _ hk
  rw[Nat.zero_add] at hk
  unfold ZbJ ZjA Zjz inR at hk
  simp only[Bool.and_eq_true,decide_eq_true_eq] at hk
  obtain ⟨⟨⟨⟨⟨hkd,_⟩,_⟩,hcov⟩,hnm,hpins,hform⟩,_⟩:=hk
  refine ⟨nm6 hnm,hkd, ?_,fun p hp=> ?_, ?_⟩
  ·unfold Zde inR at hform
   split at hform
   ·simp only[decide_eq_true_eq] at hform;omega
   ·split at hform
    ·simp only[decide_eq_true_eq] at hform;omega
    ·split at hform
     ·simp only[Bool.or_eq_true,decide_eq_true_eq] at hform
      rcases hform with h0|h1
      ·omega
      ·split at h1
       ·rename_i he;rw[he];simp
       ·cases h1
     ·simp only[Bool.and_eq_true,decide_eq_true_eq] at hform;omega
  ·have:=ZjE (fun p=>Zf7 n k p) hpins hp
   unfold Zf7 inR at this
   simp only[Bool.and_eq_true,decide_eq_true_eq] at this
   omega
  ·split at hcov
   ·unfold ZcB ZfO inR at hcov
    simp only[Bool.and_eq_true,decide_eq_true_eq] at hcov
    refine ⟨by omega,fun c hc=> ?_⟩
    have:=ZjE (fun c=>Zf5 c&&decide ((c.length:Int)=n.signals.length)) hcov.1 hc
    simp only[Bool.and_eq_true,decide_eq_true_eq] at this
    omega
   ·simp only[Bool.not_eq_true',decide_eq_false_iff_not] at hcov
    have:w.cover=[]:=List.eq_nil_of_length_eq_zero (by omega)
    rw[this]
    simp
theorem Zob (c:PCirc):NetIn (bnP c).1:=by
 unfold bnP
 split
 ·rename_i h
  have ok:=Zoa h
  split
  ·exact netIn (mk_ok ok.sigs fun g hg=>ok.gset hg)
  ·split
   ·unfold Zn9
    split
    ·rename_i hn
     exact netIn hn
    ·exact NetIn.nil
   ·exact NetIn.nil
 ·exact NetIn.nil
end Go.Proofs.YtkgnjijonikchaaDoor
