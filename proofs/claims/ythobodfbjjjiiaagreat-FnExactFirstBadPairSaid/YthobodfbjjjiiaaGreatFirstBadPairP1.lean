import Derived.Test.YthobodfbjjjiiaaGreatFirstBadPairF
import Derived.Test.YthobodfbjjjiiaaGreatData
import Derived.Test.YthobodfbjjjiiaaGreatDistPure
import Derived.Test.YthobodfbjjjiiaaGreatSysPure
namespace Go.Proofs.YthobodfbjjjiiaaGreat
open Go.RowKit
set_option linter.unusedVariables false
set_option linter.unusedSimpArgs false
theorem Zbh (n lo hi:Int):ZaS [pI n,pI lo,pI hi]=some (pB (decide (lo≤n)&&decide (n≤hi))):=by
 show (fun x0 x1 x2=>ZaS [x0,x1,x2]) _ _ _=_
 rw[Zx0]
 by_cases h:lo≤n<;>simp only[h,EVS]
def Zzo (first:Bool) (b:UInt8):Bool:=(decide ((97:Int)≤b.toNat)&&decide ((b.toNat:Int)≤122))||(!first&&(!decide ((b.toNat:Int)<48)&& !decide ((57:Int)<b.toNat)))
def ZkM :Bool→List UInt8→Bool
 |_,[]=>true
 |f,b::r=>Zzo f b&&ZkM false r
def ZaK (s:List UInt8):Bool:=ZkM true s&&(decide ((1:Int)≤s.length)&&decide ((s.length:Int)≤6))
theorem Zo2 (s:List UInt8) (hs:s.length≤9223372036854775807):ZfN [.str s]=some (pB (ZaK s)):=by
 show (fun x0=>ZfN [x0]) _=_
 rw[Zut]
 refine (congrArg (Zf true) (Zcj (R:=PV) (fun k:Nat=>[pI (Int.ofNat k)]) (fun k=>s.length+1 - k) (fun k=>some (pB (ZkM (k==0) (s.drop k)&&(decide ((1:Int)≤s.length)&&decide ((s.length:Int)≤6))))) _ (fun again k ih=> ?_) _ 0 (by omega))).trans ?_
 ·by_cases hk:k<s.length
  ·obtain ⟨b,hb⟩:∃b,s[k]?=some b:=⟨s[k],List.getElem?_eq_getElem hk⟩
   have hd:s.drop k=b::s.drop (k+1):=by
    obtain ⟨h1,rfl⟩:=List.getElem?_eq_some_iff.1 hb
    exact List.drop_eq_getElem_cons h1
   have hlt:decide ((k:Int)<s.length)=true:=by simpa using hk
   have hw:IntKind.i64.wrap ((k:Int)+1)=((k+1:Nat):Int):=by rw[Zaj (by omega) (by omega)];omega
   have hnext:=ih (k+1) (by omega)
   simp only[Int.ofNat_eq_natCast] at hnext
   have hk0:decide ((k:Int)=0)=(k==0):=by rw[Bool.eq_iff_iff];simp
   rw[hd]
   have hk1:(k+1==0)=false:=rfl
   rw[hk1] at hnext
   have ev1:=hlt
   have ev2:=Zs (k:=.i64) hb
   simp only[ZkM,Zzo,hlt,Zs hb,hk0,hw,hnext,EVS]
   by_cases c1:(97:Int)≤b.toNat
   all_goals simp only[c1,Zs hb,EVS]
   by_cases c2:(b.toNat:Int)≤122
   all_goals try simp only[c2,Zs hb,EVS]
   all_goals try simp only[hk0]
   all_goals try (cases c5:(k==0))
   all_goals try simp only[c5,Zs hb,EVS]
   all_goals try (by_cases c3:(b.toNat:Int)<48)
   all_goals try simp only[c3,Zs hb,EVS]
   all_goals try (by_cases c4:(57:Int)<b.toNat)
   all_goals try simp only[c4,Zs hb,EVS]
  ·have hd:s.drop k=[]:=List.drop_eq_nil_of_le (by omega)
   have hlt:decide ((k:Int)<s.length)=false:=by simpa using hk
   rw[hd]
   simp only[ZkM,hlt,Zbh,EVS]
 ·simp only[ZaK,List.drop_zero,beq_self_eq_true,EVS]
def Zno (b:UInt8):Bool:=decide ((b.toNat:Int)=48)||decide ((b.toNat:Int)=49)||decide ((b.toNat:Int)=45)
def ZlY (s:List UInt8):Bool:=ZS (fun _ b=>Zno b) 0 s&&(decide ((1:Int)≤s.length)&&decide ((s.length:Int)≤8))
theorem Ze {α:Type} {l:List α} {k:Nat} {x:α} (h:l[k]?=some x):k<l.length:=(List.getElem?_eq_some_iff.1 h).1
theorem Zm {k n:Nat} (h:k<n) (hn:n≤9223372036854775807):IntKind.i64.wrap ((k:Int)+1)=((k+1:Nat):Int):=by rw[Zaj (by omega) (by omega)];omega
theorem ZD {k n:Nat} (h:k<n):decide ((k:Int)<(n:Int))=true:=by simpa using h
theorem Zac {n:Nat}:decide ((n:Int)<(n:Int))=false:=by simp
theorem ZtE (s:List UInt8) (hs:s.length≤9223372036854775807):Zgd [.str s]=some (pB (ZlY s)):=by
 show (fun x0=>Zgd [x0]) _=_
 rw[Zsk]
 refine (congrArg (Zf true) (ZM (R:=PV) s (fun _ b=>Zno b) (some (pB false)) (some (pB (decide ((1:Int)≤s.length)&&decide ((s.length:Int)≤8)))) _ hs (fun again k b hb=> ?_) (fun again=> ?_))).trans ?_
 ·have hk:=Ze hb
  cases c1:decide ((b.toNat:Int)=48)<;>cases c2:decide ((b.toNat:Int)=49)<;>cases c3:decide ((b.toNat:Int)=45)<;>
   simp only[Zno,ZD hk,Zm hk hs,Zs hb,c1,c2,c3,EVS]
 ·simp only[Zac,Zbh,EVS]
 ·unfold ZlY
  cases ZS (fun _ b=>Zno b) 0 s<;>simp only[EVS]
abbrev ZE (s:List UInt8×Int):PV:=.agg [.str s.1,pI s.2]
def inR (n lo hi:Int):Bool:=decide (lo≤n)&&decide (n≤hi)
def Zq0 (l:List (List UInt8×Int)) (k:Nat) (s:List UInt8×Int):Bool:=(ZaK s.1&&inR s.2 1 3)&&ZS (fun _ y=> !decide (s.1=y.1)) 0 (l.take k)
def Zkg (l:List (List UInt8×Int)):Bool:=ZS (Zq0 l) 0 l&&inR l.length 1 8
theorem Zq1 (x:List UInt8×Int):ZbB 2 (ZE x)=true:=rfl
theorem Zkh (l:List (List UInt8×Int)) (hl:l.length≤9223372036854775807) (hs:∀s∈l,s.1.length≤9223372036854775807):ZdA [.lst (l.map ZE)]=some (pB (Zkg l)):=by
 show (fun x0=>ZdA [x0]) _=_
 rw[Zpy]
 simp only[EVS]
 refine (congrArg (Zf true) (ZM (R:=PV) l (Zq0 l) (some (pB false)) (some (pB (inR l.length 1 8))) _ hl (fun again k s hb=> ?_) (fun again=> ?_))).trans ?_
 ·have hk:=Ze hb
  have hi:Zl (.lst (l.map ZE)) (.int .i64 (k:Int))=some (ZE s):=Zj hb
  have hc:ZnA 2 (.lst (l.map ZE)) none (some (.int .i64 (k:Int)))=some (.lst ((l.take k).map ZE)):=ZnN Zq1 (by omega)
  have hn:=Zo2 s.1 (hs s (List.mem_of_getElem? hb))
  simp only[ZD hk,Zm hk hl,hi,ZE,hn,Zbh,Zq0,inR,EVS]
  obtain c1|c1:=(Bool.eq_false_or_eq_true (ZaK s.1)).symm<;>simp only[c1,Zbh,EVS]
  obtain c2|c2:=(Bool.eq_false_or_eq_true (decide (1≤s.2)&&decide (s.2≤3))).symm<;>simp only[c2,EVS]
  simp only[hc,EVS]
  refine (ZM (R:=PV) (l.take k) (fun _ y=> !decide (s.1=y.1)) (some (pB false)) (again [pI ((k+1:Nat):Int)]) _ (by simp;omega) (fun again' j y hy=> ?_) (fun again'=> ?_)).trans ?_
  ·have hj:=Ze hy
   have hi':Zl (.lst ((l.take k).map ZE)) (.int .i64 (j:Int))=some (ZE y):=Zj hy
   simp only[ZD hj,Zm hj (by simp;omega),hi',ZE,EVS]
   cases c3:decide (s.1=y.1)<;>simp only[c3,EVS]
  ·simp only[Zac,Zm hk hl,EVS]
  ·rfl
 ·simp only[Zac,Zbh,inR,EVS]
 ·unfold Zkg
  cases ZS (Zq0 l) 0 l<;>simp only[EVS]
def ZnW (n:Int) (l:List (List UInt8)):Bool:=ZS (fun _ c=>ZlY c&&decide ((c.length:Int)=n)) 0 l
def Zo3 (n:Int) (l:List (List UInt8)):Bool:=ZnW n l&&(inR n 1 8&&decide ((l.length:Int)≤60))
theorem ZtF (n:Int) (l:List (List UInt8)) (hl:l.length≤9223372036854775807) (hs:∀s∈l,s.length≤9223372036854775807):Zge [pI n,.lst (l.map PV.str)]=some (pB (Zo3 n l)):=by
 show (fun x0 x1=>Zge [x0,x1]) _ _=_
 rw[Zsm]
 simp only[EVS]
 refine (congrArg (Zf true) (ZM (R:=PV) l (fun _ c=>ZlY c&&decide ((c.length:Int)=n)) (some (pB false)) (some (pB (inR n 1 8&&decide ((l.length:Int)≤60)))) _ hl (fun again k s hb=> ?_) (fun again=> ?_))).trans ?_
 ·have hk:=Ze hb
  have hi:Zl (.lst (l.map PV.str)) (.int .i64 (k:Int))=some (.str s):=Zj hb
  have hn:=ZtE s (hs s (List.mem_of_getElem? hb))
  simp only[ZD hk,Zm hk hl,hi,hn,EVS]
  obtain c1|c1:=(Bool.eq_false_or_eq_true (ZlY s)).symm<;>simp only[c1,EVS]
  obtain c2|c2:=(Bool.eq_false_or_eq_true (decide ((s.length:Int)=n))).symm<;>simp only[c2,EVS]
 ·simp only[Zac,Zbh,inR,EVS]
  obtain c1|c1:=(Bool.eq_false_or_eq_true (decide (1≤n)&&decide (n≤8))).symm<;>simp only[c1,EVS]
 ·unfold Zo3 ZnW
  cases ZS (fun _ c=>ZlY c&&decide ((c.length:Int)=n)) 0 l<;>simp only[EVS]
structure PWire where
 name:List UInt8
 kind:Int
 ins:List (Int×Bool)
 cover:List (List UInt8)
structure PNet where
 signals:List (List UInt8×Int)
 wires:List PWire
abbrev Zad (p:Int×Bool):PV:=.agg [pI p.1,pB p.2]
abbrev Zu (w:PWire):PV:=.agg [.str w.name,pI w.kind,.lst (w.ins.map Zad),.lst (w.cover.map PV.str)]
abbrev ZP (n:PNet):PV:=.agg [.lst (n.signals.map ZE),.lst (n.wires.map Zu)]
abbrev ZB {α:Type} (l:List α):Prop:=l.length≤9223372036854775807
structure PWire.Fit (w:PWire):Prop where
 name:ZB w.name
 ins:ZB w.ins
 cover:ZB w.cover
 cubes:∀c∈w.cover,ZB c
structure PNet.Fit (n:PNet):Prop where
 signals:ZB n.signals
 names:∀s∈n.signals,ZB s.1
 wires:ZB n.wires
 wire:∀w∈n.wires,w.Fit
def Zki (n:PNet) (k:Nat) (p:Int×Bool):Bool:=inR p.1 0 ((n.wires.length:Int) - 1)&& !(decide ((n.signals.length:Int)≤k)&&decide ((k:Int)≤p.1))
def Zf3 (k:Nat) (kind:Int) (ins:List (Int×Bool)):Bool:=
 if decide (kind=1)=true then decide ((ins.length:Int)=0)
 else if decide (kind=4)=true then decide ((ins.length:Int)=2)
 else if decide (kind=5)=true then decide ((ins.length:Int)=0)||(match ins with|[p]=>decide (p.1=k)&& !p.2|_=>false)
 else inR ins.length 1 8
def ZtG (n:PNet) (k:Nat) (w:PWire):Bool:=ZS (fun _ p=>Zki n k p) 0 w.ins&&Zf3 k w.kind w.ins
theorem ZtH (n:PNet) (k:Nat) (w:PWire) (hn:n.Fit) (hw:w.Fit):Zgf [ZP n,pI k,Zu w]=some (pB (ZtG n k w)):=by
 show (fun x0 x1 x2=>Zgf [x0,x1,x2]) _ _ _=_
 rw[Zso]
 simp only[ZP,Zu,EVS]
 have hwl:IntKind.i64.wrap ((n.wires.length:Int) - 1)=(n.wires.length:Int) - 1:=Zaj (by omega) (by have:=hn.wires;unfold ZB at this;omega)
 have hi0:=hw.ins
 unfold ZB at hi0
 refine (congrArg (Zf true) (ZM (R:=PV) w.ins (fun _ p=>Zki n k p) (some (pB false)) (some (pB (Zf3 k w.kind w.ins))) _ hi0 (fun again j p hb=> ?_) (fun again=> ?_))).trans ?_
 ·have hk:=Ze hb
  have hi:Zl (.lst (w.ins.map Zad)) (.int .i64 (j:Int))=some (Zad p):=Zj hb
  simp only[ZD hk,Zm hk hi0,hi,Zad,hwl,Zbh,Zki,inR,EVS]
  obtain c1|c1:=(Bool.eq_false_or_eq_true (decide (0≤p.1)&&decide (p.1≤(n.wires.length:Int) - 1))).symm<;>simp only[c1,EVS]
  obtain c2|c2:=(Bool.eq_false_or_eq_true (decide ((n.signals.length:Int)≤(k:Int)))).symm<;>simp only[c2,EVS]
  obtain c3|c3:=(Bool.eq_false_or_eq_true (decide ((k:Int)≤p.1))).symm<;>simp only[c3,EVS]
 ·simp only[Zac,Zf3,EVS]
  obtain c1|c1:=(Bool.eq_false_or_eq_true (decide (w.kind=1))).symm<;>simp only[c1,EVS]
  obtain c2|c2:=(Bool.eq_false_or_eq_true (decide (w.kind=4))).symm<;>simp only[c2,EVS]
  obtain c3|c3:=(Bool.eq_false_or_eq_true (decide (w.kind=5))).symm<;>simp only[c3,Zbh,inR,EVS]
  have h01:decide ((0:Int)=1)=false:=rfl
  have h00:decide ((0:Int)=0)=true:=rfl
  have h11:decide ((1:Int)=1)=true:=rfl
  have h10:decide ((1:Int)=0)=false:=rfl
  rcases hq:w.ins with _|⟨p,_|⟨q,r⟩⟩
  ·simp only[List.length_nil,h00,EVS]
  ·have hi:Zl (.lst ([p].map Zad)) (.int .i64 0)=some (Zad p):=rfl
   simp only[List.length_cons,List.length_nil,Nat.zero_add,h11,h10,hi,Zad,List.drop_zero,List.drop_succ_cons,EVS]
   obtain c4|c4:=(Bool.eq_false_or_eq_true (decide (p.1=(k:Int)))).symm<;>simp only[c4,h11,h10,hi,Zad,List.drop_zero,List.drop_succ_cons,EVS]
  ·have h2:decide (((r.length+1+1:Nat):Int)=0)=false:=by simp;omega
   have h3:decide (((r.length+1+1:Nat):Int)=1)=false:=by simp;omega
   simp only[List.length_cons,h2,h3,EVS]
 ·unfold ZtG
  cases ZS (fun _ p=>Zki n k p) 0 w.ins<;>simp only[EVS]
def ZgM (n:PNet) (k:Nat) (w:PWire):Bool:=match n.signals[k]? with|some s=>decide (w.name=s.1)&&(decide (w.kind=1)==decide (s.2=1))|none=>false
def Zo4 (n:PNet) (k:Nat) (w:PWire):Bool:=
 let seen:=decide ((k:Int)<(n.signals.length:Int))
 (inR w.kind 1 5&&(seen||decide (w.kind=2)||decide (w.kind=3)))&&(!seen||ZgM n k w)&&(if decide (w.kind=5)=true then Zo3 n.signals.length w.cover else !decide ((0:Int)<w.cover.length))&&(ZaK w.name&&ZtG n k w)
theorem ZtI (n:PNet) (k:Nat) (w:PWire) (hn:n.Fit) (hw:w.Fit):Zgg [ZP n,pI k,Zu w]=some (pB (Zo4 n k w)):=by
 have g1:=ZtF n.signals.length w.cover hw.cover hw.cubes
 have g2:=Zo2 w.name hw.name
 have g3:=ZtH n k w hn hw
 have g4:=Zbh w.kind 1 5
 simp only[ZP,Zu] at g3
 show (fun x0 x1 x2=>Zgg [x0,x1,x2]) _ _ _=_
 rw[Zsq]
 simp only[ZP,Zu,g4,EVS]
 have fin:∀b:Bool,((some (pB (ZaK w.name&&b))))=(some (pB (ZaK w.name&&b))):=fun _=>rfl
 simp only[Zo4,inR]
 obtain c1|c1:=(Bool.eq_false_or_eq_true (decide (1≤w.kind)&&decide (w.kind≤5))).symm<;>simp only[c1,EVS]
 obtain c2|c2:=(Bool.eq_false_or_eq_true (decide ((k:Int)<(n.signals.length:Int)))).symm<;>simp only[c2,EVS]
 ·obtain c3|c3:=(Bool.eq_false_or_eq_true (decide (w.kind=2))).symm<;>simp only[c3,EVS]
  ·obtain c4|c4:=(Bool.eq_false_or_eq_true (decide (w.kind=3))).symm<;>simp only[c4,EVS]
   have c5:decide (w.kind=5)=false:=by have:=of_decide_eq_true c4;simp;omega
   simp only[c5,EVS]
   obtain c6|c6:=(Bool.eq_false_or_eq_true (decide ((0:Int)<w.cover.length))).symm<;>simp only[c6,g2,EVS]
   obtain c7|c7:=(Bool.eq_false_or_eq_true (ZaK w.name)).symm<;>simp only[c7,g3,EVS]
  ·have c4:decide (w.kind=3)=false:=by have:=of_decide_eq_true c3;simp;omega
   have c5:decide (w.kind=5)=false:=by have:=of_decide_eq_true c3;simp;omega
   simp only[c4,c5,EVS]
   obtain c6|c6:=(Bool.eq_false_or_eq_true (decide ((0:Int)<w.cover.length))).symm<;>simp only[c6,g2,EVS]
   obtain c7|c7:=(Bool.eq_false_or_eq_true (ZaK w.name)).symm<;>simp only[c7,g3,EVS]
 ·have hk:k<n.signals.length:=by have:=of_decide_eq_true c2;omega
  have hs:n.signals[k]?=some n.signals[k]:=List.getElem?_eq_getElem hk
  have hi:Zl (.lst (n.signals.map ZE)) (.int .i64 (k:Int))=some (ZE n.signals[k]):=Zj hs
  simp only[ZgM,hs,hi,ZE,List.drop_zero,List.drop_succ_cons,EVS]
  obtain c3|c3:=(Bool.eq_false_or_eq_true (decide (w.name=n.signals[k].1))).symm<;>simp only[c3,hi,ZE,List.drop_zero,List.drop_succ_cons,EVS]
  obtain c4|c4:=(Bool.eq_false_or_eq_true (decide (w.kind=1)==decide (n.signals[k].2=1))).symm<;>simp only[bne,c4,hi,ZE,List.drop_zero,List.drop_succ_cons,EVS]
  obtain c5|c5:=(Bool.eq_false_or_eq_true (decide (w.kind=5))).symm<;>simp only[c5,g1,g2,EVS]
  ·obtain c6|c6:=(Bool.eq_false_or_eq_true (decide ((0:Int)<w.cover.length))).symm<;>simp only[c6,g2,EVS]
   obtain c7|c7:=(Bool.eq_false_or_eq_true (ZaK w.name)).symm<;>simp only[c7,g3,EVS]
  ·obtain c6|c6:=(Bool.eq_false_or_eq_true (Zo3 n.signals.length w.cover)).symm<;>simp only[c5,c6,g2,EVS]
   obtain c7|c7:=(Bool.eq_false_or_eq_true (ZaK w.name)).symm<;>simp only[c5,c7,g3,EVS]
def Zc5 (n:PNet) (k:Nat) (w:PWire):Bool:=Zo4 n k w&&ZS (fun _ v=> !decide (v.name=w.name)) 0 (n.wires.take k)
def Zgp (n:PNet):Bool:=Zkg n.signals&&(!decide ((n.wires.length:Int)<n.signals.length)&& !decide ((24:Int)<n.wires.length))&&ZS (Zc5 n) 0 n.wires
theorem Zo5 (x:PWire):ZbB 4 (Zu x)=true:=rfl
theorem ZtJ (n:PNet) (hn:n.Fit):Zgh [ZP n]=some (pB (Zgp n)):=by
 have g1:=Zkh n.signals hn.signals hn.names
 have hwl:=hn.wires
 unfold ZB at hwl
 show (fun x0=>Zgh [x0]) _=_
 rw[Zss]
 simp only[ZP,g1,EVS]
 unfold Zgp
 obtain c1|c1:=(Bool.eq_false_or_eq_true (Zkg n.signals)).symm<;>simp only[c1,EVS]
 obtain c2|c2:=(Bool.eq_false_or_eq_true (decide ((n.wires.length:Int)<n.signals.length))).symm<;>simp only[c2,EVS]
 obtain c3|c3:=(Bool.eq_false_or_eq_true (decide ((24:Int)<n.wires.length))).symm<;>simp only[c3,EVS]
 refine (congrArg (Zf true) (ZM (R:=PV) n.wires (Zc5 n) (some (pB false)) (some (pB true)) _ hwl (fun again k w hb=> ?_) (fun again=> ?_))).trans ?_
 ·have hk:=Ze hb
  have hi:Zl (.lst (n.wires.map Zu)) (.int .i64 (k:Int))=some (Zu w):=Zj hb
  have hc:ZnA 4 (.lst (n.wires.map Zu)) none (some (.int .i64 (k:Int)))=some (.lst ((n.wires.take k).map Zu)):=ZnN Zo5 (by omega)
  have g3:=ZtI n k w hn (hn.wire w (List.mem_of_getElem? hb))
  simp only[ZP,Zu] at g3
  simp only[ZD hk,Zm hk hwl,hi,Zu,Zc5,g3,EVS]
  obtain c4|c4:=(Bool.eq_false_or_eq_true (Zo4 n k w)).symm<;>simp only[c4,hc,EVS]
  refine (ZM (R:=PV) (n.wires.take k) (fun _ v=> !decide (v.name=w.name)) (some (pB false)) (again [pI ((k+1:Nat):Int)]) _ (by simp;omega) (fun again' j y hy=> ?_) (fun again'=> ?_)).trans ?_
  ·have hj:=Ze hy
   have hi':Zl (.lst ((n.wires.take k).map Zu)) (.int .i64 (j:Int))=some (Zu y):=Zj hy
   simp only[ZD hj,Zm hj (by simp;omega),hi',Zu,EVS]
   obtain c5|c5:=(Bool.eq_false_or_eq_true (decide (y.name=w.name))).symm<;>simp only[c5,EVS]
  ·simp only[Zac,Zm hk hwl,EVS]
  ·rfl
 ·simp only[Zac,EVS]
 ·cases ZS (Zc5 n) 0 n.wires<;>simp only[EVS]
theorem Zaz (n lo hi:Int):Zar [pI n,pI lo,pI hi]=some (pB (inR n lo hi)):=by
 show (fun x0 x1 x2=>Zar [x0,x1,x2]) _ _ _=_
 rw[Zt0]
 unfold inR
 by_cases h:lo≤n<;>simp only[h,EVS]
def ZmQ (k:Nat) (b:UInt8):Bool:=(decide ((97:Int)≤b.toNat)&&decide ((b.toNat:Int)≤122))||(!decide ((k:Int)=0)&&(decide ((48:Int)≤b.toNat)&&decide ((b.toNat:Int)≤57)))
def ZrV (s:List UInt8):Bool:=ZS ZmQ 0 s&&inR s.length 1 6
theorem ZvB (s:List UInt8) (hs:s.length≤9223372036854775807):Zes [.str s]=some (pB (ZrV s)):=by
 show (fun x0=>Zes [x0]) _=_
 rw[Zt3]
 refine (congrArg (Zf true) (ZM (R:=PV) s ZmQ (some (pB false)) (some (pB (inR s.length 1 6))) _ hs (fun again k b hb=> ?_) (fun again=> ?_))).trans ?_
 ·have hk:=Ze hb
  simp only[ZmQ,ZD hk,Zm hk hs,Zs hb,EVS]
  obtain c1|c1:=(Bool.eq_false_or_eq_true (decide ((97:Int)≤b.toNat))).symm<;>simp only[c1,Zs hb,EVS]
  all_goals (obtain c2|c2:=(Bool.eq_false_or_eq_true (decide ((b.toNat:Int)≤122))).symm<;>try simp only[c2,Zs hb,EVS])
  all_goals (obtain c3|c3:=(Bool.eq_false_or_eq_true (decide ((48:Int)≤b.toNat))).symm<;>try simp only[c3,Zs hb,EVS])
  all_goals (obtain c4|c4:=(Bool.eq_false_or_eq_true (decide ((b.toNat:Int)≤57))).symm<;>try simp only[c4,Zs hb,EVS])
  all_goals (obtain c5|c5:=(Bool.eq_false_or_eq_true (decide ((k:Int)=0))).symm<;>try simp only[c5,EVS])
 ·simp only[Zac,Zaz,EVS]
 ·unfold ZrV
  cases ZS ZmQ 0 s<;>simp only[EVS]
theorem Zo6 :∀(l:List UInt8) (k:Nat),ZkM (k==0) l=ZS ZmQ k l
 |[],_=>rfl
 | b::r,k=>by
  have h:=Zo6 r (k+1)
  have h1:(k+1==0)=false:=rfl
  rw[h1] at h
  unfold ZkM ZS
  rw[h]
  congr 1
  unfold Zzo ZmQ
  have e1:decide ((48:Int)≤b.toNat)= !decide ((b.toNat:Int)<48):=by rw[Bool.eq_iff_iff];simp
  have e2:decide ((b.toNat:Int)≤57)= !decide ((57:Int)<b.toNat):=by rw[Bool.eq_iff_iff];simp
  have e3:decide ((k:Int)=0)=(k==0):=by rw[Bool.eq_iff_iff];simp
  rw[e1,e2,e3]
theorem ZAb (s:List UInt8):ZaK s=ZrV s:=by
 unfold ZaK ZrV inR
 rw[←Zo6 s 0]
 rfl
theorem Znp (s:List UInt8) (hs:s.length≤9223372036854775807):Zes [.str s]=some (pB (ZaK s)):=(ZvB s hs).trans (by rw[ZAb])
def Zgq (s:List UInt8) (n:Int):Bool:=ZS (fun _ b=>Zno b) 0 s&&(decide ((s.length:Int)=n)&&inR n 1 8)
theorem ZvC (s:List UInt8) (n:Int) (hs:s.length≤9223372036854775807):Zhy [.str s,pI n]=some (pB (Zgq s n)):=by
 show (fun x0 x1=>Zhy [x0,x1]) _ _=_
 rw[Zt5]
 refine (congrArg (Zf true) (ZM (R:=PV) s (fun _ b=>Zno b) (some (pB false)) (some (pB (decide ((s.length:Int)=n)&&inR n 1 8))) _ hs (fun again k b hb=> ?_) (fun again=> ?_))).trans ?_
 ·have hk:=Ze hb
  simp only[Zno,ZD hk,Zm hk hs,Zs hb,EVS]
  obtain c1|c1:=(Bool.eq_false_or_eq_true (decide ((b.toNat:Int)=48))).symm<;>simp only[c1,Zs hb,EVS]
  obtain c2|c2:=(Bool.eq_false_or_eq_true (decide ((b.toNat:Int)=49))).symm<;>simp only[c2,Zs hb,EVS]
  obtain c3|c3:=(Bool.eq_false_or_eq_true (decide ((b.toNat:Int)=45))).symm<;>simp only[c3,Zs hb,EVS]
 ·simp only[Zac,EVS]
  obtain c1|c1:=(Bool.eq_false_or_eq_true (decide ((s.length:Int)=n))).symm<;>simp only[c1,Zaz,EVS]
 ·unfold Zgq
  cases ZS (fun _ b=>Zno b) 0 s<;>simp only[EVS]
def ixf {α:Type} (q:α→Bool):Nat→List α→Int
 |_,[]=> -1
 |k,x::r=>if q x=true then (k:Int) else ixf q (k+1) r
theorem ZwZ {α:Type} (q:α→Bool):∀(l:List α) (k:Nat),rgo (fun k x=>if q x=true then some (some (pI (k:Int))) else none) (some (pI (-1))) k l=some (pI (ixf q k l))
 |[],k=>rfl
 | x::r,k=>by
  unfold rgo ixf
  cases q x
  ·simp[ZwZ q r (k+1)]
  ·simp
theorem Ze5 {α:Type} (q:α→Bool):∀(l:List α) (k:Nat),decide ((0:Int)≤ixf q k l)= !ZS (fun _ x=> !q x) k l
 |[],k=>rfl
 | x::r,k=>by
  unfold ixf ZS
  cases q x
  ·simp[Ze5 q r (k+1)]
  ·simp
theorem Zd2 {α:Type} (l:List α) (q:α→Bool) (f:(List PV→Option PV)→List PV→Option PV) (hl:l.length≤9223372036854775807)
 (h1:∀again k x,l[k]?=some x→f again [pI (Int.ofNat k)]=if q x=true then some (pI (k:Int)) else again [pI (Int.ofNat (k+1))])
 (h2:∀again,f again [pI (Int.ofNat l.length)]=some (pI (-1))):Zn f 18446744073709551616 [pI (Int.ofNat 0)]=some (pI (ixf q 0 l)):=by
 rw[Zoe l (fun k x=>if q x=true then some (some (pI (k:Int))) else none) (some (pI (-1))) f hl (fun again k x hx=> ?_) h2,ZwZ]
 rw[h1 again k x hx]
 cases q x<;>simp
theorem Zo7 (l:List PV):ZbL 1 (.tup [.agg l])=some [.agg l]:=by simp[ZbL,PV.parts,PV.isU]
theorem ZmR (a x:List UInt8×Int):Zda [ZE a,ZE x]=some (pB (decide (a.1=x.1))):=by
 show (fun x0 x1=>Zda [x0,x1]) _ _=_
 rw[Zme]
 simp only[ZE,List.drop_zero,EVS]
theorem ZbW (l:List (List UInt8×Int)) (x:List UInt8×Int) (hl:ZB l):ZH [.lst (l.map ZE),.tup [ZE x]]=some (pI (ixf (fun a=>decide (a.1=x.1)) 0 l)):=by
 show (fun x0 x1=>ZH [x0,x1]) _ _=_
 rw[ZbT]
 unfold ZB at hl
 simp only[EVS]
 refine (congrArg (Zf true) (Zd2 l (fun a=>decide (a.1=x.1)) _ hl (fun again k a hb=> ?_) (fun again=> ?_))).trans ?_
 ·have hk:=Ze hb
  have hi:Zl (.lst (l.map ZE)) (.int .i64 (k:Int))=some (ZE a):=Zj hb
  have g:=ZmR a x
  simp only[ZE] at g
  simp only[ZD hk,Zm hk hl,hi,ZE,Zo7,List.cons_append,List.nil_append,g,EVS]
 ·simp only[Zac,EVS]
  rfl
 ·simp only[EVS]
theorem Zbw (l:List (List UInt8×Int)) (x:List UInt8×Int) (hl:ZB l):Zy [.lst (l.map ZE),.tup [ZE x]]=some (pB (!ZS (fun _ a=> !decide (a.1=x.1)) 0 l)):=by
 show (fun x0 x1=>Zy [x0,x1]) _ _=_
 rw[Zbq]
 simp only[ZbW l x hl,Ze5 (fun a:List UInt8×Int=>decide (a.1=x.1)) l 0,EVS]
theorem Zp8 (p:Int×Bool) (n:Nat) (hn:n≤9223372036854775807):ZeE [Zad p,.agg [pI n]]=some (pB (!inR p.1 0 ((n:Int) - 1))):=by
 have hwl:IntKind.i64.wrap ((n:Int) - 1)=(n:Int) - 1:=Zaj (by omega) (by omega)
 show (fun x0 x1=>ZeE [x0,x1]) _ _=_
 rw[Zpj]
 simp only[Zad,hwl,Zaz,EVS]
theorem Zc6 (l:List (Int×Bool)) (n:Nat) (hn:n≤9223372036854775807) (hl:ZB l):Z2 [.lst (l.map Zad),.tup [.agg [pI n]]]=some (pI (ixf (fun p=> !inR p.1 0 ((n:Int) - 1)) 0 l)):=by
 show (fun x0 x1=>Z2 [x0,x1]) _ _=_
 rw[ZcU]
 unfold ZB at hl
 simp only[EVS]
 refine (congrArg (Zf true) (Zd2 l (fun p=> !inR p.1 0 ((n:Int) - 1)) _ hl (fun again k a hb=> ?_) (fun again=> ?_))).trans ?_
 ·have hk:=Ze hb
  have hi:Zl (.lst (l.map Zad)) (.int .i64 (k:Int))=some (Zad a):=Zj hb
  have g:=Zp8 a n hn
  simp only[Zad] at g
  simp only[ZD hk,Zm hk hl,hi,Zad,Zo7,List.cons_append,List.nil_append,g,EVS]
 ·simp only[Zac,EVS]
  rfl
 ·simp only[EVS]
def Zdg (l:List (Int×Bool)) (n:Nat):Bool:=ZS (fun _ p=>inR p.1 0 ((n:Int) - 1)) 0 l
theorem Znq (l:List (Int×Bool)) (n:Nat) (hn:n≤9223372036854775807) (hl:ZB l):Ze1 [.lst (l.map Zad),pI n]=some (pB (Zdg l n)):=by
 have g:ZQ [.lst (l.map Zad),.tup [.agg [pI n]]]=some (pB (!ZS (fun _ p=>inR p.1 0 ((n:Int) - 1)) 0 l)):=by
  show (fun x0 x1=>ZQ [x0,x1]) _ _=_
  rw[Zcp]
  simp only[Zc6 l n hn hl,Ze5 (fun p:Int×Bool=> !inR p.1 0 ((n:Int) - 1)) l 0,Bool.not_not,EVS]
 show (fun x0 x1=>Ze1 [x0,x1]) _ _=_
 rw[Zsa]
 have lt:∀{R:Type} (l:List PV) (x:Option R),Za [.tup l] x=x:=fun l x=>(Eq.refl _).trans (Eq.refl _)
 simp only[lt,g,List.drop_zero,Bool.not_not,Zdg,EVS]
theorem ZrW (w:PWire) (x:List UInt8):Zfm [Zu w,.agg [.str x]]=some (pB (decide (w.name=x))):=by
 show (fun x0 x1=>Zfm [x0,x1]) _ _=_
 rw[Zqj]
 simp only[Zu,List.drop_zero,EVS]
theorem ZvD (l:List PWire) (x:List UInt8) (hl:ZB l):Zhw [.lst (l.map Zu),.str x]=some (pI (ixf (fun w:PWire=>decide (w.name=x)) 0 l)):=by
 unfold ZB at hl
 have g:Z3 [.lst (l.map Zu),.tup [.agg [.str x]]]=some (pI (ixf (fun w:PWire=>decide (w.name=x)) 0 l)):=by
  show (fun x0 x1=>Z3 [x0,x1]) _ _=_
  rw[ZcW]
  simp only[EVS]
  refine (congrArg (Zf true) (Zd2 l (fun w:PWire=>decide (w.name=x)) _ hl (fun again k a hb=> ?_) (fun again=> ?_))).trans ?_
  ·have hk:=Ze hb
   have hi:Zl (.lst (l.map Zu)) (.int .i64 (k:Int))=some (Zu a):=Zj hb
   have g:=ZrW a x
   simp only[Zu] at g
   simp only[ZD hk,Zm hk hl,hi,Zu,Zo7,List.cons_append,List.nil_append,g,EVS]
  ·simp only[Zac,EVS]
   rfl
  ·simp only[EVS]
 show (fun x0 x1=>Zhw [x0,x1]) _ _=_
 rw[Zt2]
 have lt:∀{R:Type} (l:List PV) (x:Option R),Za [.tup l] x=x:=fun l x=>(Eq.refl _).trans (Eq.refl _)
 simp only[lt,g,List.drop_zero,Bool.not_not,EVS]
theorem ZkN (c:List UInt8) (n:Int) (hc:ZB c):Zcc [.str c,.agg [pI n]]=some (pB (!Zgq c n)):=by
 show (fun x0 x1=>Zcc [x0,x1]) _ _=_
 rw[Zj5]
 simp only[ZvC c n hc,EVS]
theorem ZbC (l:List (List UInt8)) (n:Int) (hl:ZB l) (hc:∀c∈l,ZB c):ZA [.lst (l.map PV.str),.tup [.agg [pI n]]]=some (pI (ixf (fun c:List UInt8=> !Zgq c n) 0 l)):=by
 unfold ZB at hl
 show (fun x0 x1=>ZA [x0,x1]) _ _=_
 rw[Zbz]
 simp only[EVS]
 refine (congrArg (Zf true) (Zd2 l (fun c:List UInt8=> !Zgq c n) _ hl (fun again k a hb=> ?_) (fun again=> ?_))).trans ?_
 ·have hk:=Ze hb
  have hi:Zl (.lst (l.map PV.str)) (.int .i64 (k:Int))=some (.str a):=Zj hb
  have g:=ZkN a n (hc a (List.mem_of_getElem? hb))
  simp only[ZD hk,Zm hk hl,hi,Zo7,List.cons_append,List.nil_append,g,EVS]
 ·simp only[Zac,EVS]
  rfl
 ·simp only[EVS]
theorem eqPin (a c:Int) (b d:Bool):eqV (some [(0,TD.int .i64),(1,TD.bool)]) .struct (.agg [pI a,pB b]) (.agg [pI c,pB d])=some (decide (a=c)&&(b==d)):=by
 simp[eqV,Zoo,scEq,Zgl]
theorem ZAc :ZC.bool.pv=pB false:=(Eq.refl _).trans (Eq.refl _)
theorem sp12 (a b c:PV):splice [a,b] 0 [c]=[c,b]:=(Eq.refl _).trans (Eq.refl _)
def Zgr (n:Int) (l:List (List UInt8)):Bool:=(inR n 1 8&&decide ((l.length:Int)≤60))&&ZS (fun _ c=>Zgq c n) 0 l
def ZfJ (n:PNet) (k:Nat) (w:PWire):Bool:=
 if decide (w.kind=1)=true then decide ((w.ins.length:Int)=0)
 else if (decide (w.kind=2)||decide (w.kind=3))=true then inR w.ins.length 1 8
 else if decide (w.kind=4)=true then decide ((w.ins.length:Int)=2)
 else if decide (w.kind=5)=true then Zgr n.signals.length w.cover&&(decide ((w.ins.length:Int)=0)||(match w.ins with|[p]=>decide (p.1=(k:Int))&&(p.2==false)|_=>false))
 else false
def ZtK (n:PNet) (k:Nat) (w:PWire):Bool:= !((!decide (w.kind=5)&&decide ((0:Int)<w.cover.length))|| !Zdg w.ins n.wires.length)&&ZfJ n k w
theorem ZvE (h160:∀(n:Int) (l:List (List UInt8)),ZB l→(∀c∈l,ZB c)→ZbR [pI n,.lst (l.map PV.str)]=some (pB (Zgr n l))) (n:PNet) (k:Nat) (w:PWire) (hn:n.Fit) (hk:n.wires[k]?=some w):Zhz [ZP n,pI k]=some (pB (ZtK n k w)):=by
 have hw:=hn.wire w (List.mem_of_getElem? hk)
 have g1:=h160 n.signals.length w.cover hw.cover hw.cubes
 have hwl:=hn.wires
 unfold ZB at hwl
 have g2:=Znq w.ins n.wires.length hwl hw.ins
 have hi:Zl (.lst (n.wires.map Zu)) (.int .i64 (k:Int))=some (Zu w):=Zj hk
 show (fun x0 x1=>Zhz [x0,x1]) _ _=_
 rw[Zt7]
 simp only[ZP,hi,Zu,EVS]
 unfold ZtK
 obtain c1|c1:=(Bool.eq_false_or_eq_true (!decide (w.kind=5))).symm<;>simp only[c1,g2,EVS]
 ·obtain c2|c2:=(Bool.eq_false_or_eq_true (Zdg w.ins n.wires.length)).symm<;>simp only[c1,c2,g2,EVS]
  have c5:decide (w.kind=5)=true:=by simpa using c1
  have e1:decide (w.kind=1)=false:=by have:=of_decide_eq_true c5;simp;omega
  have e2:decide (w.kind=2)=false:=by have:=of_decide_eq_true c5;simp;omega
  have e3:decide (w.kind=3)=false:=by have:=of_decide_eq_true c5;simp;omega
  have e4:decide (w.kind=4)=false:=by have:=of_decide_eq_true c5;simp;omega
  simp only[ZeR,ZfJ,e1,e2,e3,e4,c5,g1,EVS]
  obtain c3|c3:=(Bool.eq_false_or_eq_true (Zgr n.signals.length w.cover)).symm<;>simp only[c3,EVS]
  have h01:decide ((0:Int)=1)=false:=rfl
  have h00:decide ((0:Int)=0)=true:=rfl
  have h11:decide ((1:Int)=1)=true:=rfl
  have h10:decide ((1:Int)=0)=false:=rfl
  rcases hq:w.ins with _|⟨p,_|⟨q,r⟩⟩
  ·simp only[List.length_nil,h00,EVS]
  ·have hi:Zl (.lst ([p].map Zad)) (.int .i64 0)=some (Zad p):=rfl
   simp only[List.length_cons,List.length_nil,Nat.zero_add,h11,h10,hi,Zad,ZAc,sp12,eqPin,List.drop_zero,List.drop_succ_cons,EVS]
  ·have h2:decide (((r.length+1+1:Nat):Int)=0)=false:=by simp;omega
   have h3:decide (((r.length+1+1:Nat):Int)=1)=false:=by simp;omega
   simp only[List.length_cons,h2,h3,EVS]
 ·have c5:decide (w.kind=5)=false:=by simpa using c1
  obtain c2|c2:=(Bool.eq_false_or_eq_true (decide ((0:Int)<w.cover.length))).symm<;>simp only[c1,c2,g2,EVS]
  obtain c3|c3:=(Bool.eq_false_or_eq_true (Zdg w.ins n.wires.length)).symm<;>simp only[c3,EVS]
  simp only[ZeR,ZfJ,c5,EVS]
  obtain e1|e1:=(Bool.eq_false_or_eq_true (decide (w.kind=1))).symm<;>simp only[e1,EVS]
  obtain e2|e2:=(Bool.eq_false_or_eq_true (decide (w.kind=2))).symm<;>simp only[e2,Zaz,EVS]
  obtain e3|e3:=(Bool.eq_false_or_eq_true (decide (w.kind=3))).symm<;>simp only[e3,Zaz,EVS]
  obtain e4|e4:=(Bool.eq_false_or_eq_true (decide (w.kind=4))).symm<;>simp only[e4,EVS]
theorem ZmS (n:Int) (l:List (List UInt8)) (hl:ZB l) (hc:∀c∈l,ZB c):ZbR [pI n,.lst (l.map PV.str)]=some (pB (Zgr n l)):=by
 have g:Zt [.lst (l.map PV.str),.tup [.agg [pI n]]]=some (pB (!ZS (fun _ c=>Zgq c n) 0 l)):=by
  show (fun x0 x1=>Zt [x0,x1]) _ _=_
  rw[Zba]
  simp only[ZbC l n hl hc,Ze5 (fun c:List UInt8=> !Zgq c n) l 0,Bool.not_not,EVS]
 show (fun x0 x1=>ZbR [x0,x1]) _ _=_
 rw[Zmc]
 simp only[Zaz,Ziz,List.drop_zero,Zgr,EVS]
 obtain c1|c1:=(Bool.eq_false_or_eq_true (inR n 1 8)).symm<;>simp only[c1,EVS]
 obtain c2|c2:=(Bool.eq_false_or_eq_true (decide ((l.length:Int)≤60))).symm<;>simp only[c2,Ziz,g,Bool.not_not,EVS]
def ZmT (l:List (List UInt8×Int)) (k:Nat) (s:List UInt8×Int):Bool:=(ZaK s.1&&inR s.2 1 3)&&ZS (fun _ a=> !decide (a.1=s.1)) 0 (l.take k)
def Zq2 (l:List (List UInt8×Int)):Bool:=ZS (ZmT l) 0 l&&inR l.length 1 8
theorem ZiV (l:List (List UInt8×Int)) (hl:ZB l) (hs:∀s∈l,ZB s.1):ZcX [.lst (l.map ZE)]=some (pB (Zq2 l)):=by
 unfold ZB at hl
 show (fun x0=>ZcX [x0]) _=_
 rw[ZnE]
 simp only[EVS]
 refine (congrArg (Zf true) (ZM (R:=PV) l (ZmT l) (some (pB false)) (some (pB (inR l.length 1 8))) _ hl (fun again k s hb=> ?_) (fun again=> ?_))).trans ?_
 ·have hk:=Ze hb
  have hi:Zl (.lst (l.map ZE)) (.int .i64 (k:Int))=some (ZE s):=Zj hb
  have hc:ZnA 2 (.lst (l.map ZE)) none (some (.int .i64 (k:Int)))=some (.lst ((l.take k).map ZE)):=ZnN Zq1 (by omega)
  have hn:=Znp s.1 (hs s (List.mem_of_getElem? hb))
  have g:=Zbw (l.take k) s (by show (l.take k).length≤_;simp;omega)
  simp only[ZE] at g
  simp only[ZD hk,Zm hk hl,hi,ZE,hn,ZmT,EVS]
  obtain c1|c1:=(Bool.eq_false_or_eq_true (ZaK s.1)).symm<;>simp only[c1,Zaz,EVS]
  obtain c2|c2:=(Bool.eq_false_or_eq_true (inR s.2 1 3)).symm<;>simp only[c2,EVS]
  simp only[hc,List.drop_zero,Ziz,g,EVS]
  obtain c3|c3:=(Bool.eq_false_or_eq_true (ZS (fun _ (a:List UInt8×Int)=> !decide (a.1=s.1)) 0 (l.take k))).symm<;>simp only[c3,EVS]
 ·simp only[Zac,Zaz,EVS]
 ·unfold Zq2
  cases ZS (ZmT l) 0 l<;>simp only[EVS]
def ZfK (n:PNet) (k:Nat) (w:PWire):Bool:=
 (ZtK n k w&&ZaK w.name&&ZS (fun _ v=> !decide (v.name=w.name)) 0 (n.wires.take k))&&
 (if decide ((k:Int)<(n.signals.length:Int))=true then ZgM n k w else (decide (w.kind=2)||decide (w.kind=3))&&Zdg w.ins k)
def netI (n:PNet):Bool:=(Zq2 n.signals&&inR n.wires.length n.signals.length 24)&&ZS (ZfK n) 0 n.wires
theorem ZkO (n:PNet) (hn:n.Fit):Zcd [ZP n]=some (pB (netI n)):=by
 have g1:=ZiV n.signals hn.signals hn.names
 have hwl:=hn.wires
 unfold ZB at hwl
 show (fun x0=>Zcd [x0]) _=_
 rw[Zj7]
 simp only[ZP,g1,EVS]
 unfold netI
 obtain c1|c1:=(Bool.eq_false_or_eq_true (Zq2 n.signals)).symm<;>simp only[c1,Zaz,EVS]
 obtain c2|c2:=(Bool.eq_false_or_eq_true (inR n.wires.length n.signals.length 24)).symm<;>simp only[c2,EVS]
 refine (congrArg (Zf true) (ZM (R:=PV) n.wires (ZfK n) (some (pB false)) (some (pB true)) _ hwl (fun again k w hb=> ?_) (fun again=> ?_))).trans ?_
 ·have hk:=Ze hb
  have hw:=hn.wire w (List.mem_of_getElem? hb)
  have hi:Zl (.lst (n.wires.map Zu)) (.int .i64 (k:Int))=some (Zu w):=Zj hb
  have hc:ZnA 4 (.lst (n.wires.map Zu)) none (some (.int .i64 (k:Int)))=some (.lst ((n.wires.take k).map Zu)):=ZnN Zo5 (by omega)
  have g2:=ZvE ZmS n k w hn hb
  have g3:=Znp w.name hw.name
  have g4:=ZvD (n.wires.take k) w.name (by show (n.wires.take k).length≤_;simp;omega)
  have g5:=Znq w.ins k (by omega) hw.ins
  simp only[ZP] at g2
  simp only[ZD hk,Zm hk hwl,hi,Zu,ZfK,g2,EVS]
  obtain c1|c1:=(Bool.eq_false_or_eq_true (ZtK n k w)).symm<;>simp only[c1,g3,EVS]
  obtain c2|c2:=(Bool.eq_false_or_eq_true (ZaK w.name)).symm<;>simp only[c2,hc,g4,EVS]
  simp only[Ze5 (fun v:PWire=>decide (v.name=w.name)) (n.wires.take k) 0]
  obtain c3|c3:=(Bool.eq_false_or_eq_true (ZS (fun _ (v:PWire)=> !decide (v.name=w.name)) 0 (n.wires.take k))).symm<;>simp only[c3,ZeR,EVS]
  obtain c4|c4:=(Bool.eq_false_or_eq_true (decide ((k:Int)<(n.signals.length:Int)))).symm<;>simp only[c4,EVS]
  ·obtain c5|c5:=(Bool.eq_false_or_eq_true (decide (w.kind=2))).symm<;>simp only[c5,g5,EVS]
   ·obtain c6|c6:=(Bool.eq_false_or_eq_true (decide (w.kind=3))).symm<;>simp only[c6,g5,EVS]
    obtain c7|c7:=(Bool.eq_false_or_eq_true (Zdg w.ins k)).symm<;>simp only[c7,Zm hk hwl,EVS]
   ·obtain c7|c7:=(Bool.eq_false_or_eq_true (Zdg w.ins k)).symm<;>simp only[c7,Zm hk hwl,EVS]
  ·have hks:k<n.signals.length:=by have:=of_decide_eq_true c4;omega
   have hs:n.signals[k]?=some n.signals[k]:=List.getElem?_eq_getElem hks
   have hi2:Zl (.lst (n.signals.map ZE)) (.int .i64 (k:Int))=some (ZE n.signals[k]):=Zj hs
   simp only[ZgM,hs,hi2,ZE,List.drop_zero,List.drop_succ_cons,EVS]
   obtain c5|c5:=(Bool.eq_false_or_eq_true (decide (w.name=n.signals[k].1))).symm<;>simp only[c5,hi2,ZE,List.drop_zero,List.drop_succ_cons,EVS]
   obtain c6|c6:=(Bool.eq_false_or_eq_true (decide (w.kind=1)==decide (n.signals[k].2=1))).symm<;>simp only[bne,c6,Zm hk hwl,EVS]
 ·simp only[Zac,EVS]
 ·cases ZS (ZfK n) 0 n.wires<;>simp only[EVS]
theorem Zak {α:Type} (q:α→Bool):∀(l:List α) (k:Nat),ZS (fun _ x=>q x) k l=l.all q
 |[],_=>rfl
 |x::r,k=>by unfold ZS;rw[Zak q r (k+1),List.all_cons]
theorem Zeo {α:Type} (f g:Nat→α→Bool) (h:∀k x,f k x=g k x):∀(l:List α) (k:Nat),ZS f k l=ZS g k l
 |[],_=>rfl
 |x::r,k=>by unfold ZS;rw[h k x,Zeo f g h r (k+1)]
theorem Zw0 (l:List (List UInt8×Int)):Zkg l=Zq2 l:=by
 unfold Zkg Zq2
 rw[Zeo (Zq0 l) (ZmT l) (fun k x=> ?_) l 0]
 unfold Zq0 ZmT
 rw[Zeo (fun _ (y:List UInt8×Int)=> !decide (x.1=y.1)) (fun _ (y:List UInt8×Int)=> !decide (y.1=x.1)) (fun _ y=>by simp[eq_comm]) _ 0]
theorem Zzp (n:Int) (l:List (List UInt8)):Zo3 n l=Zgr n l:=by
 unfold Zo3 Zgr ZnW
 rw[Bool.and_comm,Bool.eq_iff_iff]
 simp only[Bool.and_eq_true]
 refine and_congr_right fun h=> ?_
 rw[Zeo (fun _ c=>ZlY c&&decide ((c.length:Int)=n)) (fun _ c=>Zgq c n) (fun _ c=> ?_) l 0]
 unfold ZlY Zgq inR
 rw[Bool.eq_iff_iff]
 simp only[Bool.and_eq_true,decide_eq_true_eq]
 constructor
 ·rintro ⟨⟨h1,h2,h3⟩,h4⟩
  exact ⟨h1,h4,by omega,by omega⟩
 ·rintro ⟨h1,h2,h3,h4⟩
  exact ⟨⟨h1,by omega,by omega⟩,h2⟩
theorem ZxT (n:PNet) (k:Nat) (l:List (Int×Bool)) (h:k<n.signals.length):ZS (fun _ p=>Zki n k p) 0 l=Zdg l n.wires.length:=by
 unfold Zdg
 refine Zeo _ _ (fun _ p=> ?_) l 0
 unfold Zki
 have:decide ((n.signals.length:Int)≤k)=false:=by simp;omega
 rw[this]
 simp
theorem ZxU (n:PNet) (k:Nat) (l:List (Int×Bool)) (h:¬k<n.signals.length):ZS (fun _ p=>Zki n k p) 0 l=(Zdg l n.wires.length&&Zdg l k):=by
 unfold Zdg
 rw[Zak,Zak,Zak,Bool.eq_iff_iff]
 have:decide ((n.signals.length:Int)≤k)=true:=by simp;omega
 simp only[Bool.and_eq_true,List.all_eq_true,Zki,inR,this,Bool.true_and,Bool.not_eq_true',decide_eq_true_eq,decide_eq_false_iff_not]
 constructor
 ·intro h
  exact ⟨fun p hp=>(h p hp).1,fun p hp=>⟨(h p hp).1.1,by have:=(h p hp).2;omega⟩⟩
 ·rintro ⟨h1,h2⟩ p hp
  exact ⟨h1 p hp,by have:=(h2 p hp).2;omega⟩
theorem ZAe (n:PNet) (k:Nat) (w:PWire):(inR w.kind 1 5&&((if decide (w.kind=5)=true then Zgr n.signals.length w.cover else !decide ((0:Int)<w.cover.length))&&Zf3 k w.kind w.ins))=(!(!decide (w.kind=5)&&decide ((0:Int)<w.cover.length))&&ZfJ n k w):=by
 unfold Zf3 ZfJ
 by_cases h1:w.kind=1
 ·simp[h1,inR]
 by_cases h2:w.kind=2
 ·simp[h2,inR]
 by_cases h3:w.kind=3
 ·simp[h3,inR]
 by_cases h4:w.kind=4
 ·simp[h4,inR]
 by_cases h5:w.kind=5
 ·obtain ⟨nm,kd,ins,cov⟩:=w
  simp only at h5
  rcases ins with _|⟨p,_|⟨q,r⟩⟩<;>simp[h5,inR]
 ·have:inR w.kind 1 5=false:=by
   unfold inR
   simp only[Bool.and_eq_false_iff,decide_eq_false_iff_not]
   omega
  simp[this,h1,h2,h3,h4,h5]
theorem ZAf (n:PNet) (k:Nat) (w:PWire):Zc5 n k w=ZfK n k w:=by
 unfold Zc5 ZfK Zo4 ZtK ZtG
 have hf:=ZAe n k w
 rw[Zzp]
 by_cases hk:k<n.signals.length
 ·have hd:decide ((k:Int)<(n.signals.length:Int))=true:=by simpa using hk
  rw[ZxT n k w.ins hk]
  simp only[hd,if_true,Bool.true_or,Bool.not_true,Bool.false_or,Bool.not_false,Bool.false_eq_true,if_false,Bool.true_and]
  revert hf
  generalize inR w.kind 1 5=a1
  generalize (if decide (w.kind=5)=true then Zgr (↑n.signals.length) w.cover else !decide ((0:Int)<↑w.cover.length))=a2
  generalize Zf3 k w.kind w.ins=a3
  generalize (!decide (w.kind=5)&&decide ((0:Int)<w.cover.length))=a4
  generalize ZfJ n k w=a5
  generalize Zdg w.ins n.wires.length=a6
  generalize ZgM n k w=a7
  generalize ZaK w.name=a8
  generalize ZS (fun _ (v:PWire)=> !decide (v.name=w.name)) 0 (n.wires.take k)=a9
  cases a1<;>cases a2<;>cases a3<;>cases a4<;>cases a5<;>cases a6<;>cases a7<;>cases a8<;>cases a9<;>decide
 ·have hd:decide ((k:Int)<(n.signals.length:Int))=false:=by simpa using hk
  rw[ZxU n k w.ins hk]
  simp only[hd,if_true,Bool.true_or,Bool.not_true,Bool.false_or,Bool.not_false,Bool.false_eq_true,if_false,Bool.true_and]
  revert hf
  generalize inR w.kind 1 5=a1
  generalize (if decide (w.kind=5)=true then Zgr (↑n.signals.length) w.cover else !decide ((0:Int)<↑w.cover.length))=a2
  generalize Zf3 k w.kind w.ins=a3
  generalize (!decide (w.kind=5)&&decide ((0:Int)<w.cover.length))=a4
  generalize ZfJ n k w=a5
  generalize Zdg w.ins n.wires.length=a6
  generalize ZaK w.name=a8
  generalize Zdg w.ins k=a7
  generalize decide (w.kind=2)=b2
  generalize decide (w.kind=3)=b3
  generalize ZS (fun _ (v:PWire)=> !decide (v.name=w.name)) 0 (n.wires.take k)=a9
  cases a1<;>cases a2<;>cases a3<;>cases a4<;>cases a5<;>cases a6<;>cases a7<;>cases a8<;>cases a9<;>cases b2<;>cases b3<;>decide
theorem net_eq (n:PNet):Zgp n=netI n:=by
 unfold Zgp netI
 rw[Zw0,Zeo (Zc5 n) (ZfK n) (fun k x=>ZAf n k x) n.wires 0]
 congr 2
 unfold inR
 rw[Bool.eq_iff_iff]
 simp
def Zif (b:UInt8):Bool:=decide ((b.toNat:Int)=48)||decide ((b.toNat:Int)=49)
def Zab (s:List UInt8) (n:Int):Bool:=ZS (fun _ b=>Zif b) 0 s&&decide ((s.length:Int)=n)
theorem Zo8 (s:List UInt8) (n:Int) (hs:ZB s):ZfO [.str s,pI n]=some (pB (Zab s n)):=by
 unfold ZB at hs
 show (fun x0 x1=>ZfO [x0,x1]) _ _=_
 rw[Zuu]
 refine (congrArg (Zf true) (ZM (R:=PV) s (fun _ b=>Zif b) (some (pB false)) (some (pB (decide ((s.length:Int)=n)))) _ hs (fun again k b hb=> ?_) (fun again=> ?_))).trans ?_
 ·have hk:=Ze hb
  simp only[Zif,ZD hk,Zm hk hs,Zs hb,EVS]
  obtain c1|c1:=(Bool.eq_false_or_eq_true (decide ((b.toNat:Int)=48))).symm<;>simp only[c1,Zs hb,EVS]
  obtain c2|c2:=(Bool.eq_false_or_eq_true (decide ((b.toNat:Int)=49))).symm<;>simp only[c2,Zs hb,EVS]
 ·simp only[Zac,EVS]
 ·unfold Zab
  cases ZS (fun _ b=>Zif b) 0 s<;>simp only[EVS]
theorem Zo9 (s:List UInt8) (n:Int) (hs:ZB s):ZfM [.str s,pI n]=some (pB (Zab s n)):=by
 unfold ZB at hs
 show (fun x0 x1=>ZfM [x0,x1]) _ _=_
 rw[Zua]
 refine (congrArg (Zf true) (ZM (R:=PV) s (fun _ b=>Zif b) (some (pB false)) (some (pB (decide ((s.length:Int)=n)))) _ hs (fun again k b hb=> ?_) (fun again=> ?_))).trans ?_
 ·have hk:=Ze hb
  simp only[Zif,ZD hk,Zm hk hs,Zs hb,EVS]
  obtain c1|c1:=(Bool.eq_false_or_eq_true (decide ((b.toNat:Int)=48))).symm<;>simp only[c1,Zs hb,EVS]
  obtain c2|c2:=(Bool.eq_false_or_eq_true (decide ((b.toNat:Int)=49))).symm<;>simp only[c2,Zs hb,EVS]
 ·simp only[Zac,EVS]
 ·unfold Zab
  cases ZS (fun _ b=>Zif b) 0 s<;>simp only[EVS]
def Zfe (n:PNet) (s:List UInt8):Bool:=Zgp n&&Zab s n.wires.length
def ZdY (p:Int×Bool) (s:List UInt8):Bool:=match s[p.1.toNat]? with|some b=>decide ((b.toNat:Int)=49) !=p.2|none=>false
theorem Zzq {p:Int×Bool} {s:List UInt8} (h0:0≤p.1) (h1:p.1<s.length):∃b:UInt8,s[p.1.toNat]?=some b∧Zas (.str s) (pI p.1)=some (pU b):=by
 have h2:p.1.toNat<s.length:=by omega
 refine ⟨s[p.1.toNat],List.getElem?_eq_getElem h2, ?_⟩
 have:=Zs (k:=.i64) (List.getElem?_eq_getElem h2)
 rw[Int.toNat_of_nonneg h0] at this
 exact this
theorem ZkP (p:Int×Bool) (s:List UInt8) (h0:0≤p.1) (h1:p.1<s.length):ZeA [Zad p,.str s]=some (pB (ZdY p s)):=by
 obtain ⟨b,hb,hv⟩:=Zzq h0 h1
 show (fun x0 x1=>ZeA [x0,x1]) _ _=_
 rw[ZuA]
 simp only[Zad,hv,ZdY,hb,bne,EVS]
theorem Zff (p:Int×Bool) (s:List UInt8) (h0:0≤p.1) (h1:p.1<s.length):Zce [Zad p,.str s]=some (pB (ZdY p s)):=by
 obtain ⟨b,hb,hv⟩:=Zzq h0 h1
 show (fun x0 x1=>Zce [x0,x1]) _ _=_
 rw[Zqz]
 simp only[Zad,hv,ZdY,hb,bne,EVS]
def ZvF (code:List UInt8) (k:Nat) (b:UInt8):Bool:=decide ((b.toNat:Int)=45)||(match code[k]? with|some c=>decide ((b.toNat:Int)=c.toNat)|none=>false)
def ZnC (cube code:List UInt8):Bool:=ZS (ZvF code) 0 cube
theorem ZvG (cube code:List UInt8) (hs:ZB cube) (hl:cube.length≤code.length):Zh0 [.str cube,.str code]=some (pB (ZnC cube code)):=by
 unfold ZB at hs
 show (fun x0 x1=>Zh0 [x0,x1]) _ _=_
 rw[ZuC]
 refine (congrArg (Zf true) (ZM (R:=PV) cube (ZvF code) (some (pB false)) (some (pB true)) _ hs (fun again k b hb=> ?_) (fun again=> ?_))).trans ?_
 ·have hk:=Ze hb
  have hc:code[k]?=some code[k]:=List.getElem?_eq_getElem (by omega)
  simp only[ZvF,hc,ZD hk,Zm hk hs,Zs hb,Zs hc,EVS]
  obtain c1|c1:=(Bool.eq_false_or_eq_true (decide ((b.toNat:Int)=45))).symm<;>simp only[c1,Zs hb,Zs hc,EVS]
  obtain c2|c2:=(Bool.eq_false_or_eq_true (decide ((b.toNat:Int)=(code[k].toNat:Int)))).symm<;>simp only[c2,EVS]
 ·simp only[Zac,EVS]
 ·unfold ZnC
  cases ZS (ZvF code) 0 cube<;>simp only[EVS]
theorem ZrX (cube code:List UInt8) (hs:ZB cube) (hl:cube.length≤code.length):Zfv [.str cube,.str code]=some (pB (ZnC cube code)):=by
 unfold ZB at hs
 show (fun x0 x1=>Zfv [x0,x1]) _ _=_
 rw[ZqB]
 simp only[EVS]
 refine (congrArg (Zf true) (ZM (R:=PV) cube (ZvF code) (some (pB false)) (some (pB true)) _ hs (fun again k b hb=> ?_) (fun again=> ?_))).trans ?_
 ·have hk:=Ze hb
  have hc:code[k]?=some code[k]:=List.getElem?_eq_getElem (by omega)
  simp only[ZvF,hc,ZD hk,Zm hk hs,Zs hb,Zs hc,EVS]
  obtain c1|c1:=(Bool.eq_false_or_eq_true (decide ((b.toNat:Int)=45))).symm<;>simp only[c1,Zs hb,Zs hc,EVS]
  obtain c2|c2:=(Bool.eq_false_or_eq_true (decide ((b.toNat:Int)=(code[k].toNat:Int)))).symm<;>simp only[c2,EVS]
 ·simp only[Zac,EVS]
 ·unfold ZnC
  cases ZS (ZvF code) 0 cube<;>simp only[EVS]
def inP (l:List (List UInt8)) (code:List UInt8):Bool:= !ZS (fun _ c=> !ZnC c code) 0 l
theorem ZxV (l:List (List UInt8)) (code:List UInt8) (hl:ZB l) (hc:∀c∈l,ZB c∧c.length≤code.length):ZjP [.lst (l.map PV.str),.str code]=some (pB (inP l code)):=by
 unfold ZB at hl
 show (fun x0 x1=>ZjP [x0,x1]) _ _=_
 rw[Zv8]
 simp only[EVS]
 refine (congrArg (Zf true) (ZM (R:=PV) l (fun _ c=> !ZnC c code) (some (pB true)) (some (pB false)) _ hl (fun again k s hb=> ?_) (fun again=> ?_))).trans ?_
 ·have hk:=Ze hb
  have hi:Zl (.lst (l.map PV.str)) (.int .i64 (k:Int))=some (.str s):=Zj hb
  have hh:=hc s (List.mem_of_getElem? hb)
  have g:=ZvG s code hh.1 hh.2
  simp only[ZD hk,Zm hk hl,hi,g,EVS]
  obtain c1|c1:=(Bool.eq_false_or_eq_true (ZnC s code)).symm<;>simp only[c1,EVS]
 ·simp only[Zac,EVS]
 ·unfold inP
  cases ZS (fun _ c=> !ZnC c code) 0 l<;>simp only[EVS]
theorem ZvH (l:List (List UInt8)) (code:List UInt8) (hl:ZB l) (hc:∀c∈l,ZB c∧c.length≤code.length):Zhp [.lst (l.map PV.str),.str code]=some (pB (inP l code)):=by
 have g0:ZU [.lst (l.map PV.str),.tup [.agg [.str code]]]=some (pI (ixf (fun c:List UInt8=>ZnC c code) 0 l)):=by
  unfold ZB at hl
  show (fun x0 x1=>ZU [x0,x1]) _ _=_
  rw[ZcF]
  simp only[EVS]
  refine (congrArg (Zf true) (Zd2 l (fun c:List UInt8=>ZnC c code) _ hl (fun again k a hb=> ?_) (fun again=> ?_))).trans ?_
  ·have hk:=Ze hb
   have hi:Zl (.lst (l.map PV.str)) (.int .i64 (k:Int))=some (.str a):=Zj hb
   have hh:=hc a (List.mem_of_getElem? hb)
   have g:Zfw [.str a,.agg [.str code]]=some (pB (ZnC a code)):=by
    show (fun x0 x1=>Zfw [x0,x1]) _ _=_
    rw[ZqD]
    simp only[ZrX a code hh.1 hh.2,EVS]
   simp only[ZD hk,Zm hk hl,hi,Zo7,List.cons_append,List.nil_append,g,EVS]
  ·simp only[Zac,EVS]
   rfl
  ·simp only[EVS]
 have g1:ZL [.lst (l.map PV.str),.tup [.agg [.str code]]]=some (pB (inP l code)):=by
  show (fun x0 x1=>ZL [x0,x1]) _ _=_
  rw[ZbZ]
  simp only[g0,inP,Ze5 (fun c:List UInt8=>ZnC c code) l 0,EVS]
 show (fun x0 x1=>Zhp [x0,x1]) _ _=_
 rw[ZtW]
 simp only[Ziz,List.drop_zero,g1,EVS]
def ZvI (l:List (Int×Bool)) (s:List UInt8):Prop:=∀p∈l,0≤p.1∧p.1<s.length
theorem Zcm (l:List (Int×Bool)) (s:List UInt8) (hl:ZB l) (hp:ZvI l s):ZN [.lst (l.map Zad),.tup [.agg [.str s]]]=some (pB (!ZS (fun _ p=>ZdY p s) 0 l)):=by
 have g0:ZX [.lst (l.map Zad),.tup [.agg [.str s]]]=some (pI (ixf (fun p:Int×Bool=> !ZdY p s) 0 l)):=by
  unfold ZB at hl
  show (fun x0 x1=>ZX [x0,x1]) _ _=_
  rw[ZcK]
  simp only[EVS]
  refine (congrArg (Zf true) (Zd2 l (fun p:Int×Bool=> !ZdY p s) _ hl (fun again k a hb=> ?_) (fun again=> ?_))).trans ?_
  ·have hk:=Ze hb
   have hi:Zl (.lst (l.map Zad)) (.int .i64 (k:Int))=some (Zad a):=Zj hb
   have hh:=hp a (List.mem_of_getElem? hb)
   have g:=Zff a s hh.1 hh.2
   simp only[Zad] at g
   have g':Zea [Zad a,.agg [.str s]]=some (pB (!ZdY a s)):=by
    show (fun x0 x1=>Zea [x0,x1]) _ _=_
    rw[ZnH]
    simp only[Zad,g,EVS]
   simp only[Zad] at g'
   simp only[ZD hk,Zm hk hl,hi,Zad,Zo7,List.cons_append,List.nil_append,g',EVS]
  ·simp only[Zac,EVS]
   rfl
  ·simp only[EVS]
 show (fun x0 x1=>ZN [x0,x1]) _ _=_
 rw[Zcg]
 simp only[g0,Ze5 (fun p:Int×Bool=> !ZdY p s) l 0,Bool.not_not,EVS]
theorem Zcn (l:List (Int×Bool)) (s:List UInt8) (hl:ZB l) (hp:ZvI l s):ZO [.lst (l.map Zad),.tup [.agg [.str s]]]=some (pB (!ZS (fun _ p=> !ZdY p s) 0 l)):=by
 have g0:ZY [.lst (l.map Zad),.tup [.agg [.str s]]]=some (pI (ixf (fun p:Int×Bool=>ZdY p s) 0 l)):=by
  unfold ZB at hl
  show (fun x0 x1=>ZY [x0,x1]) _ _=_
  rw[ZcM]
  simp only[EVS]
  refine (congrArg (Zf true) (Zd2 l (fun p:Int×Bool=>ZdY p s) _ hl (fun again k a hb=> ?_) (fun again=> ?_))).trans ?_
  ·have hk:=Ze hb
   have hi:Zl (.lst (l.map Zad)) (.int .i64 (k:Int))=some (Zad a):=Zj hb
   have hh:=hp a (List.mem_of_getElem? hb)
   have g:=Zff a s hh.1 hh.2
   simp only[Zad] at g
   have g':Zeb [Zad a,.agg [.str s]]=some (pB (ZdY a s)):=by
    show (fun x0 x1=>Zeb [x0,x1]) _ _=_
    rw[ZnJ]
    simp only[Zad,g,EVS]
   simp only[Zad] at g'
   simp only[ZD hk,Zm hk hl,hi,Zad,Zo7,List.cons_append,List.nil_append,g',EVS]
  ·simp only[Zac,EVS]
   rfl
  ·simp only[EVS]
 show (fun x0 x1=>ZO [x0,x1]) _ _=_
 rw[Zci]
 simp only[g0,Ze5 (fun p:Int×Bool=>ZdY p s) l 0,EVS]
def ZnD (s:List UInt8) (k:Nat):Bool:=match s[k]? with|some b=>decide ((b.toNat:Int)=49)|none=>false
def Zw1 (n:PNet) (s:List UInt8) (k:Nat) (w:PWire):Bool:=
 if decide (w.kind=5)=true then inP w.cover (s.take n.signals.length)
 else if decide (w.kind=4)=true then (match w.ins with|[p,q]=>if (ZdY p s !=ZdY q s)=true then ZdY p s else ZnD s k|_=>ZnD s k)
 else ZnD s k
def ZiW (n:PNet) (s:List UInt8) (k:Nat) (w:PWire):Bool:=
 if decide (w.kind=2)=true then ZS (fun _ p=>ZdY p s) 0 w.ins
 else if decide (w.kind=3)=true then !ZS (fun _ p=> !ZdY p s) 0 w.ins
 else Zw1 n s k w
theorem Zpa (s:List UInt8) (k:Nat) (h:k≤s.length):ZfT (.str s) none (some (pI (k:Int)))=some (.str (s.take k)):=by
 have:(0:Int)≤(k:Int)∧(k:Int)≤(s.length:Int):=by omega
 simp[ZfT,ZmC,Zro,this]
structure At (n:PNet) (s:List UInt8) (k:Nat) (w:PWire):Prop where
 fit:n.Fit
 here:n.wires[k]?=some w
 wire:w.Fit
 fits:ZB s
 lt:k<s.length
 sig:n.signals.length≤s.length
 pins:ZvI w.ins s
 cubes:w.kind=5→∀c∈w.cover,c.length≤n.signals.length
 two:w.kind=4→w.ins.length=2
theorem loop3 {l:List (Int×Bool)} (s:List UInt8) (E:Bool→Bool→Bool) (f:(List PV→Option PV)→List PV→Option PV) (hl:l.length≤9223372036854775807)
 (h1:∀again (a b:Bool) (k:Nat) x,l[k]?=some x→f again [pB a,pB b,pI (k:Int)]=again [pB (a&&ZdY x s),pB (b||ZdY x s),pI ((k+1:Nat):Int)])
 (h2:∀again (a b:Bool) (k:Nat),¬k<l.length→f again [pB a,pB b,pI (k:Int)]=some (pB (E a b))):
 Zn f 18446744073709551616 [pB true,pB false,pI (0:Int)]=some (pB (E (ZS (fun _ p=>ZdY p s) 0 l) (!ZS (fun _ p=> !ZdY p s) 0 l))):=by
 have key:=Zcj (R:=PV) (fun t:Bool×Bool×Nat=>[pB t.1,pB t.2.1,pI (t.2.2:Int)]) (fun t=>l.length+1 - t.2.2) (fun t=>some (pB (E (t.1&&(l.drop t.2.2).all fun p=>ZdY p s) (t.2.1|| !(l.drop t.2.2).all fun p=> !ZdY p s)))) f (fun again t ih=> ?_) 18446744073709551616 (true,false,0) (by simp only;omega)
 ·simp only[Bool.true_and,Bool.false_or,List.drop_zero] at key
  rw[Zak,Zak]
  exact key
 ·obtain ⟨a,b,k⟩:=t
  dsimp only at ih⊢
  by_cases hk:k<l.length
  ·have hx:l[k]?=some l[k]:=List.getElem?_eq_getElem hk
   rw[h1 again a b k _ hx,ih (_,_,k+1) (by simp only;omega),List.drop_eq_getElem_cons hk]
   simp only[List.all_cons,Bool.and_assoc]
   cases ZdY l[k] s<;>simp
  ·rw[h2 again a b k hk,List.drop_eq_nil_of_le (by omega)]
   simp
theorem Znr (n:PNet) (s:List UInt8) (k:Nat) (w:PWire) (h:At n s k w):Ze2 [ZP n,.str s,pI k]=some (pB (ZiW n s k w)):=by
 have hi:Zl (.lst (n.wires.map Zu)) (.int .i64 (k:Int))=some (Zu w):=Zj h.here
 have hil:=h.wire.ins
 unfold ZB at hil
 show (fun x0 x1 x2=>Ze2 [x0,x1,x2]) _ _ _=_
 rw[Zst]
 simp only[ZP,hi,Zu,EVS]
 refine (congrArg (Zf true) (loop3 (l:=w.ins) s (fun a b=>if decide (w.kind=2)=true then a else if decide (w.kind=3)=true then b else Zw1 n s k w) _ hil (fun again a b j p hb=> ?_) (fun again a b j hj=> ?_))).trans ?_
 ·have hk:=Ze hb
  have hi2:Zl (.lst (w.ins.map Zad)) (.int .i64 (j:Int))=some (Zad p):=Zj hb
  have hp:=h.pins p (List.mem_of_getElem? hb)
  have g:=ZkP p s hp.1 hp.2
  simp only[Zad] at g
  simp only[ZD hk,Zm hk hil,hi2,Zad,g,EVS]
  cases a<;>cases b<;>simp only[EVS]
 ·have hlt:decide ((j:Int)<(w.ins.length:Int))=false:=by simp;omega
  simp only[hlt,EVS]
  obtain c1|c1:=(Bool.eq_false_or_eq_true (decide (w.kind=2))).symm<;>simp only[c1,EVS]
  obtain c2|c2:=(Bool.eq_false_or_eq_true (decide (w.kind=3))).symm<;>simp only[c2,EVS]
  have hone:ZnD s k=decide ((s[k]'h.lt).toNat=(49:Int)):=by unfold ZnD;rw[List.getElem?_eq_getElem h.lt]
  have hbv:Zas (.str s) (.int .i64 (k:Int))=some (pU (s[k]'h.lt)):=Zs (List.getElem?_eq_getElem h.lt)
  unfold Zw1
  obtain c5|c5:=(Bool.eq_false_or_eq_true (decide (w.kind=5))).symm<;>simp only[c5,EVS]
  ·obtain c4|c4:=(Bool.eq_false_or_eq_true (decide (w.kind=4))).symm<;>simp only[c4,ZeR,hbv,hone,EVS]
   have h2:=h.two (of_decide_eq_true c4)
   have hpins:=h.pins
   revert h2 hpins
   rcases w.ins with _|⟨p,_|⟨q,_|⟨r,t⟩⟩⟩
   ·intro h2;simp at h2
   ·intro h2;simp at h2
   ·intro _ hpins
    have i0:Zl (.lst ([p,q].map Zad)) (.int .i64 0)=some (Zad p):=rfl
    have i1:Zl (.lst ([p,q].map Zad)) (.int .i64 1)=some (Zad q):=rfl
    have hp:=hpins p (by simp)
    have hq:=hpins q (by simp)
    have g1:=ZkP p s hp.1 hp.2
    have g2:=ZkP q s hq.1 hq.2
    simp only[Zad] at g1 g2
    simp only[i0,i1,Zad,g1,g2,EVS]
    cases ZdY p s<;>cases ZdY q s<;>simp[bne,hbv,Zwq]
   ·intro h2;simp at h2
  ·have hc:=ZxV w.cover (s.take n.signals.length) h.wire.cover (fun c hc=>⟨h.wire.cubes c hc,by have:=h.cubes (of_decide_eq_true c5) c hc;have:=h.sig;simp;omega⟩)
   simp only[Zpa s _ h.sig,hc,EVS]
 ·simp only[ZiW,EVS]
theorem ZlZ (n:PNet) (s:List UInt8) (k:Nat) (w:PWire) (h:At n s k w):Zd4 [ZP n,.str s,pI k]=some (pB (ZiW n s k w)):=by
 have hi:Zl (.lst (n.wires.map Zu)) (.int .i64 (k:Int))=some (Zu w):=Zj h.here
 have g2:=Zcm w.ins s h.wire.ins h.pins
 have g3:=Zcn w.ins s h.wire.ins h.pins
 have hone:ZnD s k=decide ((s[k]'h.lt).toNat=(49:Int)):=by unfold ZnD;rw[List.getElem?_eq_getElem h.lt]
 have hbv:Zas (.str s) (.int .i64 (k:Int))=some (pU (s[k]'h.lt)):=Zs (List.getElem?_eq_getElem h.lt)
 show (fun x0 x1 x2=>Zd4 [x0,x1,x2]) _ _ _=_
 rw[Zqh]
 simp only[ZP,hi,Zu,EVS]
 unfold ZiW
 obtain c2|c2:=(Bool.eq_false_or_eq_true (decide (w.kind=2))).symm<;>simp only[c2,Ziz,List.drop_zero,g2,Bool.not_not,EVS]
 obtain c3|c3:=(Bool.eq_false_or_eq_true (decide (w.kind=3))).symm<;>simp only[c3,Ziz,List.drop_zero,g3,Bool.not_not,EVS]
 unfold Zw1
 obtain c4|c4:=(Bool.eq_false_or_eq_true (decide (w.kind=4))).symm<;>simp only[c4,ZeR,EVS]
 ·obtain c5|c5:=(Bool.eq_false_or_eq_true (decide (w.kind=5))).symm<;>simp only[c5,hbv,hone,EVS]
  have hc:=ZvH w.cover (s.take n.signals.length) h.wire.cover (fun c hc=>⟨h.wire.cubes c hc,by have:=h.cubes (of_decide_eq_true c5) c hc;have:=h.sig;simp;omega⟩)
  simp only[Zpa s _ h.sig,hc,EVS]
 ·have c5:decide (w.kind=5)=false:=by have:=of_decide_eq_true c4;simp;omega
  have h2:=h.two (of_decide_eq_true c4)
  have hpins:=h.pins
  simp only[c5,hone,EVS]
  revert h2 hpins
  rcases w.ins with _|⟨p,_|⟨q,_|⟨r,t⟩⟩⟩
  ·intro h2;simp at h2
  ·intro h2;simp at h2
  ·intro _ hpins
   have i0:Zl (.lst ([p,q].map Zad)) (.int .i64 0)=some (Zad p):=rfl
   have i1:Zl (.lst ([p,q].map Zad)) (.int .i64 1)=some (Zad q):=rfl
   have hp:=hpins p (by simp)
   have hq:=hpins q (by simp)
   have g1:=Zff p s hp.1 hp.2
   have g2:=Zff q s hq.1 hq.2
   simp only[Zad] at g1 g2
   simp only[i0,i1,Zad,g1,g2,EVS]
   cases ZdY p s<;>cases ZdY q s<;>simp[bne,hbv,Zwq,Zrl]
  ·intro h2;simp at h2
theorem ZjE {α:Type} (q:Nat→α→Bool):∀(l:List α) (j:Nat),ZS q j l=true→∀(i:Nat) (x:α),l[i]?=some x→q (j+i) x=true
 |[],j,_,i,x,hx=>by simp at hx
 | y::r,j,h,i,x,hx=>by
  unfold ZS at h
  rw[Bool.and_eq_true] at h
  cases i with
  |zero=>simp at hx;subst hx;simpa using h.1
  | succ i=>
   have:=ZjE q r (j+1) h.2 i x (by simpa using hx)
   rw[show j+(i+1)=j+1+i by omega]
   exact this
theorem Zpb {α:Type} (q:α→Bool) {l:List α} (h:ZS (fun _ x=>q x) 0 l=true) {x:α} (hx:x∈l):q x=true:=by
 rw[Zak] at h
 exact List.all_eq_true.1 h x hx
def ZfU (u:Bool):UInt8:=if u=true then 49 else 48
theorem ZxW (u:Bool):Zif (ZfU u)=true:=by cases u<;>decide
theorem ZjF (u:Bool):Zey [pB u]=some (.str [ZfU u]):=by
 show (fun x0=>Zey [x0]) _=_
 rw[ZvZ]
 cases u<;>simp only[EVS]<;>rfl
theorem Zw2 (u:Bool):Zl9 [pB u]=some (pU (ZfU u)):=by
 show (fun x0=>Zl9 [x0]) _=_
 rw[Zzu]
 cases u<;>simp only[EVS]<;>rfl
theorem Zw3 {α:Type} (c:List α) (i:Nat) (b:α) (h:i<c.length):c.take i++[b]++c.drop (i+1)=c.set i b:=by
 rw[List.set_eq_take_append_cons_drop,if_pos h,List.append_assoc]
 rfl
theorem ZjG (c:List UInt8) (i:Nat) (b:UInt8) (h:i<c.length) (hc:ZB c):Zez [.str c,pI i,.str [b]]=some (.str (c.set i b)):=by
 unfold ZB at hc
 have h1:ZfT (.str c) none (some (.int .i64 (i:Int)))=some (.str (c.take i)):=Zjy (by omega)
 have h2:ZfT (.str c) (some (.int .i64 ((i+1:Nat):Int))) none=some (.str (c.drop (i+1))):=ZqJ (by omega)
 show (fun x0 x1 x2=>Zez [x0,x1,x2]) _ _ _=_
 rw[Zv0]
 have h3:Zd .add TD.str (.str (c.take i)) (.str [b])=some (.str (c.take i++[b])):=Zmv (by simp;omega)
 have h4:Zd .add TD.str (.str (c.take i++[b])) (.str (c.drop (i+1)))=some (.str (c.take i++[b]++c.drop (i+1))):=Zmv (by simp;omega)
 simp only[h1,Zm h hc,h2,h3,h4,Zw3 c i b h,EVS]
theorem Zcr {s:List UInt8} {n:Nat}:Zab s n=true↔(∀b∈s,Zif b=true)∧s.length=n:=by
 unfold Zab
 rw[Zak,Bool.and_eq_true,List.all_eq_true,decide_eq_true_eq]
 constructor
 ·rintro ⟨h1,h2⟩;exact ⟨h1,by omega⟩
 ·rintro ⟨h1,h2⟩;exact ⟨h1,by omega⟩
theorem ZtL {v:List UInt8} {N k:Nat} (h:Zab v N=true) (u:Bool):Zab (v.set k (ZfU u)) N=true:=by
 rw[Zcr] at h⊢
 refine ⟨fun b hb=> ?_,by simpa using h.2⟩
 rcases List.mem_or_eq_of_mem_set hb with hb|rfl
 ·exact h.1 b hb
 ·exact ZxW u
theorem ZtM {c:List UInt8} {m N:Nat} (h:Zab c m=true) (hm:m≤N):Zab (c++List.replicate (N - m) 48) N=true:=by
 rw[Zcr] at h⊢
 refine ⟨fun b hb=> ?_,by simp[h.2];omega⟩
 rcases List.mem_append.1 hb with hb|hb
 ·exact h.1 b hb
 ·obtain ⟨_,rfl⟩:=List.mem_replicate.1 hb;decide
theorem Zzr (b:UInt8):Zif b=true↔b=48∨b=49:=by
 unfold Zif
 rw[Bool.or_eq_true,decide_eq_true_eq,decide_eq_true_eq]
 have h48:(48:UInt8).toNat=48:=rfl
 have h49:(49:UInt8).toNat=49:=rfl
 constructor
 ·rintro (h|h)
  ·exact .inl (UInt8.toNat_inj.1 (by omega))
  ·exact .inr (UInt8.toNat_inj.1 (by omega))
 ·rintro (rfl|rfl)
  ·exact .inl rfl
  ·exact .inr rfl
theorem Zzs (n:PNet) (s:List UInt8) (k:Nat) (hn:n.Fit) (hs:ZB s) (hv:Zfe n s=true) (hk:k<n.wires.length):At n s k n.wires[k]:=by
 unfold Zfe Zgp Zab at hv
 simp only[Bool.and_eq_true,decide_eq_true_eq,Bool.not_eq_true',decide_eq_false_iff_not] at hv
 obtain ⟨⟨⟨h1,h2,h3⟩,h4⟩,h5,h6⟩:=hv
 have hx:n.wires[k]?=some n.wires[k]:=List.getElem?_eq_getElem hk
 have hw:=ZjE _ _ _ h4 k _ hx
 rw[Nat.zero_add] at hw
 unfold Zc5 Zo4 ZtG at hw
 simp only[Bool.and_eq_true] at hw
 obtain ⟨⟨⟨⟨hkd,_⟩,hcov⟩,_,hpins,hform⟩,_⟩:=hw
 refine ⟨hn,hx,hn.wire _ (List.getElem_mem hk),hs,by omega,by omega,fun p hp=> ?_,fun hk5 c hc=> ?_,fun hk4=> ?_⟩
 ·have:=Zpb (fun p=>Zki n k p) hpins hp
  unfold Zki inR at this
  simp only[Bool.and_eq_true,decide_eq_true_eq] at this
  omega
 ·rw[if_pos (by simp[hk5])] at hcov
  unfold Zo3 ZnW at hcov
  simp only[Bool.and_eq_true] at hcov
  have:=Zpb (fun c=>ZlY c&&decide ((c.length:Int)=n.signals.length)) hcov.1 hc
  simp only[Bool.and_eq_true,decide_eq_true_eq] at this
  omega
 ·unfold Zf3 at hform
  rw[if_neg (by simp[hk4]),if_pos (by simp[hk4])] at hform
  simp only[decide_eq_true_eq] at hform
  omega
theorem ZAg (s:List UInt8) (h:s.length≤9223372036854775807):ZqO (.str s)=some (.lst (s.map pU)):=by
 unfold ZqO
 simp only
 rw[if_pos h]
theorem ZrY {α:Type} (f:α→PV) (l:List α) (i:Nat) (x:α):(l.map f).set i (f x)=(l.set i x).map f:=by rw[List.map_set]
structure PArc where
 from_:Int
 sig:Int
 up:Bool
 to_:Int
structure PSG where
 signals:List (List UInt8×Int)
 codes:List (List UInt8)
 arcs:List PArc
def Z4 (a:PArc):PV:=.agg [pI a.from_,pI a.sig,pB a.up,pI a.to_]
def eSG (c:PSG):PV:=.agg [.lst (c.signals.map ZE),.lst (c.codes.map PV.str),.lst (c.arcs.map Z4)]
structure SGFit (c:PSG):Prop where
 sigs:ZB c.signals
 names:∀s∈c.signals,ZB s.1
 codes:ZB c.codes
 each:∀x∈c.codes,ZB x
 arcs:ZB c.arcs
def Zf4 (n:Int) (sig:Int) (up:Bool):Bool:=inR sig 0 (n - 1)||(decide (sig= -1)&& !up)
theorem ZtN (sig:Int) (up:Bool) (n:Nat) (hn:n≤9223372036854775807):Zgc [.agg [pI sig,pB up],pI n]=some (pB (Zf4 n sig up)):=by
 have g:=Zbh sig 0 ((n:Int) - 1)
 have gi:inR sig 0 ((n:Int) - 1)=(decide ((0:Int)≤sig)&&decide (sig≤(n:Int) - 1)):=rfl
 rw[←gi] at g
 have hw:IntKind.i64.wrap ((n:Int) - 1)=(n:Int) - 1:=Zaj (by omega) (by omega)
 show (fun x0 x1=>Zgc [x0,x1]) _ _=_
 rw[Zsi]
 unfold Zf4
 simp only[hw,g,EVS]
 cases inR sig 0 ((n:Int) - 1)<;>simp only[EVS]
 rw[show Int.negSucc 0=(-1:Int) from rfl]
 cases decide (sig= -1)<;>simp only[EVS]
theorem ZvJ (sig:Int) (up:Bool) (n:Nat) (hn:n≤9223372036854775807):ZhB [.agg [pI sig,pB up],pI n]=some (pB (Zf4 n sig up)):=by
 have g:=Zaz sig 0 ((n:Int) - 1)
 have hw:IntKind.i64.wrap ((n:Int) - 1)=(n:Int) - 1:=Zaj (by omega) (by omega)
 have he:eqV (some [(0,TD.int IntKind.i64),(1,TD.bool)]) TD.struct (.agg [pI sig,pB up]) (.agg [pI (-1),pB false])=some (decide (sig= -1)&& !up):=by
  rw[eqPin];cases up<;>rfl
 show (fun x0 x1=>ZhB [x0,x1]) _ _=_
 rw[Zt9]
 unfold Zf4
 simp only[hw,g,EVS]
 cases inR sig 0 ((n:Int) - 1)<;>simp only[EVS]
 rw[show Int.negSucc 0=(-1:Int) from rfl]
 have hsp:splice [ZC.pv (.int .i64),ZC.pv .bool] 0 [pI (-1)]=[pI (-1),pB false]:=rfl
 simp only[hsp,he,EVS]
def Zl0 (sig:Int) (up:Bool) (x y:List UInt8):Bool:=
 if decide (sig<0)=true then decide (x=y) else decide (x=y.set sig.toNat (ZfU (!up)))&&decide (y=x.set sig.toNat (ZfU up))
def Zkj (sig:Int) (up:Bool) (y:List UInt8) (k:Nat) (b:UInt8):Bool:=
 if decide ((k:Int)=sig)=true then !(decide ((b.toNat:Int)=49)==up)&&decide (((y.getD k 0).toNat:Int)=49)==up else decide ((b.toNat:Int)=(y.getD k 0).toNat)
theorem ZvK :(false==false)=true:=rfl
theorem ZvL :(false==true)=false:=rfl
theorem ZvM :(true==false)=false:=rfl
theorem ZvN :(true==true)=true:=rfl
theorem bbn (a b:Bool):Zd .neq TD.bool (.bool a) (.bool b)=some (.bool (!(a==b))):=rfl
theorem Zp9 (a:PArc) (x y:List UInt8) (hx:ZB x) (hl:y.length=x.length):ZeF [Z4 a,.str x,.str y]=some (pB (ZS (Zkj a.sig a.up y) 0 x)):=by
 unfold ZB at hx
 show (fun x0 x1 x2=>ZeF [x0,x1,x2]) _ _ _=_
 rw[Zpl]
 simp only[Z4,EVS]
 refine (congrArg (fun m:Option PV=>m.bind fun r=>if r.sc=true then some r else none) (ZM (R:=PV) x (Zkj a.sig a.up y) (some (pB false)) (some (pB true)) _ hx (fun again k b hb=> ?_) (fun again=> ?_))).trans ?_
 ·have hk:=Ze hb
  have hy:y[k]?=some (y.getD k 0):=by rw[List.getD_eq_getElem?_getD,List.getElem?_eq_getElem (by omega)];rfl
  have b1:=Zs (k:=.i64) hb
  have b2:=Zs (k:=.i64) hy
  unfold Zkj
  simp only[ZD hk,Zm hk hx,b1,b2,EVS]
  cases c1:decide ((k:Int)=a.sig)
  ·simp only[c1,ZD hk,Zm hk hx,b1,b2,EVS]
   cases decide ((b.toNat:Int)=(y.getD k 0).toNat)<;>simp only[EVS]
  ·simp only[c1,ZD hk,Zm hk hx,b1,b2,EVS]
   cases decide ((b.toNat:Int)=49)<;>cases c3:decide (((y.getD k 0).toNat:Int)=49)<;>cases a.up<;>first|rfl|(simp only[ZvK,ZvL,ZvM,ZvN,b1,b2,EVS];done)|(simp only[ZvK,ZvL,ZvM,ZvN,b1,b2,EVS];rfl)|(simp only[ZvK,ZvL,ZvM,ZvN,bbn,b1,b2,c3,EVS];done)
 ·simp only[Zac,EVS]
 ·cases ZS (Zkj a.sig a.up y) 0 x<;>simp only[EVS]<;>rfl
theorem Zpc {α:Type} (q:Nat→α→Bool):∀(l:List α) (j:Nat),ZS q j l=true↔∀(i:Nat) (x:α),l[i]?=some x→q (j+i) x=true
 |[],j=>by simp[ZS]
 | y::r,j=>by
  refine ⟨fun h=>ZjE q (y::r) j h,fun h=> ?_⟩
  unfold ZS
  rw[Bool.and_eq_true]
  refine ⟨by simpa using h 0 y rfl,(Zpc q r (j+1)).2 fun i x hx=> ?_⟩
  have:=h (i+1) x (by simpa using hx)
  rw[show j+(i+1)=j+1+i by omega] at this
  exact this
theorem Zw4 {b:UInt8} (h:Zif b=true):b=ZfU (decide ((b.toNat:Int)=49)):=by
 unfold Zif at h
 simp only[Bool.or_eq_true,decide_eq_true_eq,Bool.and_eq_true,Bool.not_eq_true',decide_eq_false_iff_not] at h
 by_cases c:(b.toNat:Int)=49
 ·simp only[c,decide_true]
  apply UInt8.toNat_inj.1
  show b.toNat=49
  omega
 ·simp only[c,decide_false]
  apply UInt8.toNat_inj.1
  show b.toNat=48
  omega
theorem Zw5 {x:List UInt8} {n:Int} (h:Zab x n=true) {i:Nat} {b:UInt8} (hi:x[i]?=some b):Zif b=true:=by
 unfold Zab at h
 rw[Bool.and_eq_true] at h
 exact Zpb Zif h.1 (List.mem_of_getElem? hi)
theorem ZgN {x:List UInt8} {n:Nat} (h:Zab x n=true):x.length=n:=by
 unfold Zab at h
 rw[Bool.and_eq_true,decide_eq_true_eq] at h
 omega
theorem ZrZ {a b:UInt8}:(a.toNat:Int)=b.toNat↔a=b:=by
 rw[Int.ofNat_inj,UInt8.toNat_inj]
theorem ZAh (sig:Int) (up:Bool) (x y:List UInt8) (n:Nat) (hx:Zab x n=true) (hy:Zab y n=true) (he:Zf4 n sig up=true):ZS (Zkj sig up y) 0 x=Zl0 sig up x y:=by
 have lx:=ZgN hx
 have ly:=ZgN hy
 rw[Bool.eq_iff_iff,Zpc]
 unfold Zf4 inR at he
 simp only[Bool.or_eq_true,Bool.and_eq_true,decide_eq_true_eq,Bool.not_eq_true'] at he
 have gy:∀i b,x[i]?=some b→y[i]?=some (y.getD i 0):=fun i b hb=>by
  have:=(List.getElem?_eq_some_iff.1 hb).1
  rw[List.getD_eq_getElem?_getD,List.getElem?_eq_getElem (by omega)];rfl
 unfold Zl0
 by_cases c:sig<0
 ·simp only[c,decide_true,if_true,decide_eq_true_eq]
  constructor
  ·intro h
   apply List.ext_getElem (by omega)
   intro i h1 h2
   have:=h i x[i] (List.getElem?_eq_getElem h1)
   unfold Zkj at this
   have d:decide (((0+i:Nat):Int)=sig)=false:=by simp only[decide_eq_false_iff_not];omega
   rw[d] at this
   simp only[Nat.zero_add,Bool.false_eq_true,if_false,decide_eq_true_eq,ZrZ] at this
   rw[this,List.getD_eq_getElem?_getD,List.getElem?_eq_getElem h2];rfl
  ·rintro rfl i b hb
   unfold Zkj
   have d:decide (((0+i:Nat):Int)=sig)=false:=by simp only[decide_eq_false_iff_not];omega
   rw[d]
   simp only[Nat.zero_add,Bool.false_eq_true,if_false,decide_eq_true_eq,ZrZ]
   rw[List.getD_eq_getElem?_getD,hb];rfl
 ·obtain ⟨s,rfl⟩:=Int.eq_ofNat_of_zero_le (show 0≤sig by omega)
  have hs:s<n:=by omega
  simp only[c,decide_false,Bool.false_eq_true,if_false,Bool.and_eq_true,decide_eq_true_eq,Int.toNat_natCast]
  have hxs:x[s]?=some (x[s]'(by omega)):=List.getElem?_eq_getElem _
  have hys:y[s]?=some (y[s]'(by omega)):=List.getElem?_eq_getElem _
  have gs:y.getD s 0=y[s]'(by omega):=by rw[List.getD_eq_getElem?_getD,hys];rfl
  constructor
  ·intro h
   have h0:=h s _ hxs
   unfold Zkj at h0
   simp only[Nat.zero_add,decide_true,if_true,gs] at h0
   have bx:=Zw4 (Zw5 hx hxs)
   have by_:=Zw4 (Zw5 hy hys)
   have ho:∀i (h1:i<x.length) (h2:i<y.length),i≠s→x[i]=y[i]:=fun i h1 h2 hn=>by
    have:=h i x[i] (List.getElem?_eq_getElem h1)
    unfold Zkj at this
    have d:decide (((0+i:Nat):Int)=(s:Int))=false:=by simp only[decide_eq_false_iff_not];omega
    rw[d] at this
    simp only[Nat.zero_add,Bool.false_eq_true,if_false,decide_eq_true_eq,ZrZ] at this
    rw[this,List.getD_eq_getElem?_getD,List.getElem?_eq_getElem h2];rfl
   generalize decide (((x[s]'(by omega)).toNat:Int)=49)=p at h0 bx
   generalize decide (((y[s]'(by omega)).toNat:Int)=49)=q at h0 by_
   have hp:p= !up:=by revert h0;cases p<;>cases q<;>cases up<;>decide
   have hq:q=up:=by revert h0;cases p<;>cases q<;>cases up<;>decide
   refine ⟨List.ext_getElem (by simp;omega) fun i h1 h2=> ?_,List.ext_getElem (by simp;omega) fun i h1 h2=> ?_⟩
   ·rw[List.getElem_set]
    split
    ·rename_i e;subst e;rw[bx,hp]
    ·rename_i e;exact ho i h1 (by simpa using h2) (Ne.symm e)
   ·rw[List.getElem_set]
    split
    ·rename_i e;subst e;rw[by_,hq]
    ·rename_i e;exact (ho i (by simpa using h2) h1 (Ne.symm e)).symm
  ·rintro ⟨e1,e2⟩ i b hb
   unfold Zkj
   have hi:=(List.getElem?_eq_some_iff.1 hb).1
   by_cases cs:i=s
   ·subst cs
    simp only[Nat.zero_add,decide_true,if_true,gs]
    have hbx:x[i]?=some (ZfU (!up)):=by rw[e1,List.getElem?_set];simp;omega
    have hby:y[i]?=some (ZfU up):=by rw[e2,List.getElem?_set];simp;omega
    rw[hb] at hbx
    rw[hys] at hby
    rw[Option.some.inj hbx,Option.some.inj hby]
    cases up<;>decide
   ·have d:decide (((0+i:Nat):Int)=(s:Int))=false:=by simp only[decide_eq_false_iff_not];omega
    rw[d]
    simp only[Nat.zero_add,Bool.false_eq_true,if_false,decide_eq_true_eq,ZrZ]
    have:y[i]?=x[i]?:=by
     conv=>lhs;rw[e2]
     rw[List.getElem?_set,if_neg (Ne.symm cs)]
    rw[List.getD_eq_getElem?_getD,this,hb];rfl
theorem Zpd (s u:PV):splice (splice [ZC.pv (.int .i64),ZC.pv .bool] 0 [s]) 1 [u]=[s,u]:=rfl
def Zc7 (n:Nat) (last:Int) (a:PArc):Bool:=(inR a.from_ 0 last&&inR a.to_ 0 last)&&Zf4 n a.sig a.up
def ZkQ (c:PSG) (a:PArc):Bool:=Zc7 c.signals.length ((c.codes.length:Int) - 1) a&&Zl0 a.sig a.up (c.codes.getD a.from_.toNat []) (c.codes.getD a.to_.toNat [])
structure CodesP (c:PSG):Prop where
 one:1≤c.codes.length
 many:c.codes.length≤300
 bits:∀x∈c.codes,Zab x c.signals.length=true
 arcs:c.arcs.length≤4000
theorem Zpe {c:PSG} {a:PArc} (h:Zc7 c.signals.length ((c.codes.length:Int) - 1) a=true):∃f t x y,a.from_=((f:Nat):Int)∧a.to_=((t:Nat):Int)∧f<c.codes.length∧t<c.codes.length∧c.codes[f]?=some x∧c.codes[t]?=some y∧Zf4 c.signals.length a.sig a.up=true:=by
 unfold Zc7 inR at h
 simp only[Bool.and_eq_true,decide_eq_true_eq] at h
 obtain ⟨⟨⟨h1,h2⟩,h3,h4⟩,h5⟩:=h
 obtain ⟨f,hf⟩:=Int.eq_ofNat_of_zero_le h1
 obtain ⟨t,ht⟩:=Int.eq_ofNat_of_zero_le h3
 have l1:f<c.codes.length:=by omega
 have l2:t<c.codes.length:=by omega
 exact ⟨f,t,_,_,hf,ht,l1,l2,List.getElem?_eq_getElem l1,List.getElem?_eq_getElem l2,h5⟩
theorem ZxX (c:PSG) (a:PArc) (hc:SGFit c) (hp:CodesP c):ZjM [eSG c,Z4 a]=some (pB (ZkQ c a)):=by
 have hsl:=hc.sigs
 unfold ZB at hsl
 have hm:=hp.many
 have g1:=Zbh a.from_ 0 ((c.codes.length:Int) - 1)
 have g2:=Zbh a.to_ 0 ((c.codes.length:Int) - 1)
 have gi:∀z:Int,inR z 0 ((c.codes.length:Int) - 1)=(decide ((0:Int)≤z)&&decide (z≤(c.codes.length:Int) - 1)):=fun _=>rfl
 rw[←gi] at g1 g2
 have g3:=ZtN a.sig a.up c.signals.length hsl
 have hw:IntKind.i64.wrap ((c.codes.length:Int) - 1)=(c.codes.length:Int) - 1:=Zaj (by omega) (by omega)
 show (fun x0 x1=>ZjM [x0,x1]) _ _=_
 rw[Zv2]
 unfold ZkQ
 cases hg:Zc7 c.signals.length ((c.codes.length:Int) - 1) a
 ·unfold Zc7 at hg
  cases c1:inR a.from_ 0 ((c.codes.length:Int) - 1)
  ·simp only[eSG,Z4,List.length_map,hw,g1,c1,EVS]
  cases c2:inR a.to_ 0 ((c.codes.length:Int) - 1)
  ·simp only[eSG,Z4,List.length_map,hw,g1,g2,c1,c2,EVS]
  cases c3:Zf4 c.signals.length a.sig a.up
  ·simp only[eSG,Z4,List.length_map,hw,g1,g2,g3,c1,c2,c3,Zpd,EVS]
  ·rw[c1,c2,c3] at hg;cases hg
 ·obtain ⟨f,t,x,y,hf,ht,l1,l2,hx,hy,he⟩:=Zpe hg
  unfold Zc7 at hg
  simp only[Bool.and_eq_true] at hg
  have bx:=hp.bits x (List.mem_of_getElem? hx)
  have by_:=hp.bits y (List.mem_of_getElem? hy)
  have i1:Zl (.lst (c.codes.map PV.str)) (.int .i64 (f:Int))=some (.str x):=Zj hx
  have i2:Zl (.lst (c.codes.map PV.str)) (.int .i64 (t:Int))=some (.str y):=Zj hy
  have e1:c.codes.getD f []=x:=by rw[List.getD_eq_getElem?_getD,hx];rfl
  have e2:c.codes.getD t []=y:=by rw[List.getD_eq_getElem?_getD,hy];rfl
  have c1:=hg.1.1
  have c2:=hg.1.2
  simp only[hf] at g1 c1
  simp only[ht] at g2 c2
  rw[hf,ht,Int.toNat_natCast,Int.toNat_natCast,e1,e2]
  unfold Zl0
  have lx:=ZgN bx
  have ly:=ZgN by_
  by_cases cs:a.sig<0
  ·have d:decide (a.sig<0)=true:=by simpa using cs
   simp only[eSG,Z4,hf,ht,List.length_map,hw,g1,g2,g3,c1,c2,he,Zpd,i1,i2,d,EVS]
  ·have d:decide (a.sig<0)=false:=by simpa using cs
   obtain ⟨s,hs⟩:=Int.eq_ofNat_of_zero_le (show 0≤a.sig by omega)
   have hsn:s<c.signals.length:=by
    unfold Zf4 inR at he
    simp only[Bool.or_eq_true,Bool.and_eq_true,decide_eq_true_eq] at he
    omega
   have s1:=ZjG y s (ZfU (!a.up)) (by omega) (hc.each y (List.mem_of_getElem? hy))
   have s2:=ZjG x s (ZfU a.up) (by omega) (hc.each x (List.mem_of_getElem? hx))
   have b1:=ZjF (!a.up)
   have b2:=ZjF a.up
   rw[hs] at d g3 he
   simp only[eSG,Z4,hf,ht,hs,List.length_map,hw,g1,g2,g3,c1,c2,he,Zpd,i1,i2,d,s1,b1,Int.toNat_natCast,Bool.false_eq_true,if_false,EVS]
   cases c4:decide (x=y.set s (ZfU (!a.up)))
   ·simp only[EVS]
   ·simp only[s2,b2,EVS]
def Zpf (c:PSG):List (Nat×Nat):=c.arcs.map fun a=>(a.from_.toNat,a.to_.toNat)
def Zpg (n:Nat) (l:List PArc):Prop:=∀a∈l,inR a.from_ 0 ((n:Int) - 1)=true∧inR a.to_ 0 ((n:Int) - 1)=true
theorem ZmU {n:Nat} {l:List PArc} (h:Zpg n l) {a:PArc} (ha:a∈l):∃f t:Nat,a.from_=f∧a.to_=t∧f<n∧t<n:=by
 obtain ⟨h1,h2⟩:=h a ha
 unfold inR at h1 h2
 simp only[Bool.and_eq_true,decide_eq_true_eq] at h1 h2
 obtain ⟨f,hf⟩:=Int.eq_ofNat_of_zero_le h1.1
 obtain ⟨t,ht⟩:=Int.eq_ofNat_of_zero_le h2.1
 exact ⟨f,t,hf,ht,by omega,by omega⟩
theorem Zns :∀(r:List (Nat×Nat)) (m:List Bool),(Zfx r m).length=m.length
 |[],_=>rfl
 | e::r,m=>by
  unfold Zfx
  rw[Zns r]
  split<;>simp
theorem se_b (a b:Bool):ZaF 0 1 [.bool a] (.bool a) (.bool b)=some (.bool b):=rfl
theorem Zw6 {R:Type} (e:List Bool→Option R):∀(l:List PArc) (k:Nat) (m:List Bool),ZbK (fun (m:List Bool) (_:Nat) (a:PArc)=>.inl (if m.getD a.from_.toNat false=true then m.set a.to_.toNat true else m)) e k m l=e (Zfx (l.map fun a=>(a.from_.toNat,a.to_.toNat)) m)
 |[],k,m=>rfl
 |a::l,k,m=>Zw6 e l (k+1) _
theorem Zq3 {R:Type} (es:List (Nat×Nat)) (e:List Bool→Option R):∀(l:List (List UInt8)) (k:Nat) (m:List Bool),ZbK (fun (m:List Bool) (_:Nat) (_:List UInt8)=>.inl (Zfx es m)) e k m l=e (metG es l.length m)
 |[],k,m=>rfl
 |a::l,k,m=>Zq3 es e l (k+1) _
theorem ZxY (c:PSG) (hc:SGFit c) (hp:CodesP c) (ha:Zpg c.codes.length c.arcs):ZjN [eSG c]=some (pB ((Zwd c.codes.length (Zpf c) 0).all id)):=by
 have h1:=hp.one
 have h2:=hp.many
 have h3:=hp.arcs
 have hmk:=Zu0 (TI.mk 1 1 TD.bool [ZC.bool] [] false) c.codes.length (by omega)
 have hz:ZaV (TI.mk 1 1 TD.bool [ZC.bool] [] false)=.bool false:=rfl
 rw[hz] at hmk
 have hp0:ZeY (List.replicate c.codes.length (PV.bool false)) (.int .i64 ((0:Nat):Int))=some (.int .i64 ((0:Nat):Int)):=Ze3 (by simp;omega)
 have hg0:(List.replicate c.codes.length (PV.bool false))[0]?=some (.bool false):=by rw[List.getElem?_replicate,if_pos (by omega)]
 have hs0:(List.replicate c.codes.length (PV.bool false)).set 0 (.bool true)=((List.replicate c.codes.length false).set 0 true).map PV.bool:=by rw[←ZrY,List.map_replicate]
 simp only[Int.natCast_zero] at hp0
 have ht0:Int.toNat 0=0:=rfl
 show (fun x0=>ZjN [x0]) _=_
 rw[Zv4]
 simp only[eSG,List.length_map,hmk,hp0,ht0,hg0,se_b,hs0,EVS]
 obtain ⟨m0,hm0⟩:∃m0,(List.replicate c.codes.length false).set 0 true=m0:=⟨_,rfl⟩
 have hl0:m0.length=c.codes.length:=by rw[←hm0];simp
 unfold Zwd
 rw[hm0]
 refine (congrArg (fun m:Option PV=>m.bind fun r=>if r.sc=true then some r else none) ((ZfA (R:=PV) c.codes (fun (m:List Bool) k=>[.lst (m.map PV.bool),pI (Int.ofNat k)]) (fun _ m=>m.length=c.codes.length) (fun (m:List Bool) _ _=>.inl (Zfx (Zpf c) m)) (fun m=>some (pB (m.all id))) _ (by omega) (fun m k x m' hm hx he=> ?_) (fun again m k x hm hx=> ?_) (fun again m hm=> ?_) hl0).trans (Zq3 _ _ _ _ _))).trans ?_
 ·cases he;rw[Zns];exact hm
 ·have hk:=Ze hx
  simp only[ZD hk,EVS]
  refine (ZfA (R:=PV) c.arcs (fun (m:List Bool) k=>[.lst (m.map PV.bool),pI (Int.ofNat k)]) (fun _ m=>m.length=c.codes.length) (fun (m:List Bool) _ a=>.inl (if m.getD a.from_.toNat false=true then m.set a.to_.toNat true else m)) (fun m=>again [.lst (m.map PV.bool),pI (Int.ofNat (k+1))]) _ (by omega) (fun m j a m' hm ha' he=> ?_) (fun again' m j a hm ha'=> ?_) (fun again' m hm=> ?_) hm).trans (Zw6 _ _ _ _)
  ·cases he;split<;>simp[hm]
  ·have hj:=Ze ha'
   obtain ⟨f,t,hf,ht,l1,l2⟩:=ZmU ha (List.mem_of_getElem? ha')
   have hi:Zl (.lst (c.arcs.map Z4)) (.int .i64 (j:Int))=some (Z4 a):=Zj ha'
   have p1:ZeY (m.map PV.bool) (.int .i64 (f:Int))=some (.int .i64 (f:Int)):=Ze3 (by rw[List.length_map];omega)
   have p2:ZeY (m.map PV.bool) (.int .i64 (t:Int))=some (.int .i64 (t:Int)):=Ze3 (by rw[List.length_map];omega)
   have q1:(m.map PV.bool)[f]?=some (.bool (m.getD f false)):=by rw[List.getElem?_map,List.getD_eq_getElem?_getD,List.getElem?_eq_getElem (by omega)];rfl
   have q2:(m.map PV.bool)[t]?=some (.bool (m.getD t false)):=by rw[List.getElem?_map,List.getD_eq_getElem?_getD,List.getElem?_eq_getElem (by omega)];rfl
   have st:(m.map PV.bool).set t (.bool true)=(m.set t true).map PV.bool:=ZrY PV.bool m t true
   rw[hf,ht,Int.toNat_natCast,Int.toNat_natCast]
   cases hb:m.getD f false<;>simp only[ZD hj,Zm hj (show c.arcs.length≤9223372036854775807 by omega),hi,Z4,hf,ht,p1,p2,q1,q2,hb,se_b,st,Bool.false_eq_true,if_false,if_true,EVS]
  ·simp only[Zac,Zm hk (show c.codes.length≤9223372036854775807 by omega),EVS]
 ·simp only[Zac,EVS]
  refine (ZM (R:=PV) m (fun _ b=>b) (some (pB false)) (some (pB true)) _ (by omega) (fun again k b hb=> ?_) (fun again=> ?_)).trans ?_
  ·have hk:=Ze hb
   have p1:ZeY (m.map PV.bool) (.int .i64 (k:Int))=some (.int .i64 (k:Int)):=Ze3 (by rw[List.length_map];omega)
   have q1:(m.map PV.bool)[k]?=some (.bool b):=by rw[List.getElem?_map,hb];rfl
   cases b<;>simp only[List.length_map,ZD hk,Zm hk (show m.length≤9223372036854775807 by omega),p1,q1,Bool.false_eq_true,if_false,if_true,EVS]
  ·simp only[List.length_map,Zac,EVS]
  ·rw[Zak]
   show _=some (pB (m.all fun b=>b))
   cases m.all (fun b=>b)<;>rfl
 ·simp only[EVS]
theorem Zqa (n s:Nat) (es:List (Nat×Nat)) (hn:n≤1000) (hs:s<n) (hl:es.length≤100000) (hes:∀e∈es,e.1<n∧e.2<n):ZeQ [pI (n:Int),.lst (es.map pSt),pI (s:Int)]=some (.lst ((Zec n es s).map pI)):=by
 have hc:(0:Int)≤(n:Int)∧(n:Int)≤1000∧(0:Int)≤(s:Int)∧(s:Int)<(n:Int)∧es.length≤100000∧(es.all fun e=>decide (e.1<(n:Int).toNat∧e.2<(n:Int).toNat))=true:=by
  refine ⟨by omega,by omega,by omega,by omega,hl,List.all_eq_true.2 fun e he=> ?_⟩
  rw[Int.toNat_natCast]
  exact decide_eq_true (hes e he)
 show (match ZpI (es.map pSt) with
  |some es=>if (0:Int)≤(n:Int)∧(n:Int)≤1000∧(0:Int)≤(s:Int)∧(s:Int)<(n:Int)∧es.length≤100000∧(es.all fun e=>decide (e.1<(n:Int).toNat∧e.2<(n:Int).toNat))=true then some (PV.lst ((Zec (n:Int).toNat es (s:Int).toNat).map pI)) else none
  |none=>none)=_
 rw[Zra]
 show (if _ then _ else _)=_
 rw[if_pos hc,Int.toNat_natCast,Int.toNat_natCast]
def ZgO (c:PSG):Bool:=(Zkg c.signals&&inR c.codes.length 1 300)&& !decide ((4000:Int)<c.arcs.length)
def Zr0 (c:PSG):Bool:=c.codes.all fun x=>Zab x c.signals.length
def Zhb (c:PSG):Bool:=c.arcs.all (ZkQ c)
def ZiX (c:PSG):Bool:=(Zwd c.codes.length (Zpf c) 0).all id
def sgV (c:PSG):Bool:=(ZgO c&&Zr0 c)&&(Zhb c&&ZiX c)
theorem ZiY {c:PSG} (h1:ZgO c=true) (h2:Zr0 c=true):CodesP c:=by
 unfold ZgO inR at h1
 simp only[Bool.and_eq_true,Bool.not_eq_true',decide_eq_true_eq,decide_eq_false_iff_not] at h1
 unfold Zr0 at h2
 exact ⟨by omega,by omega,fun x hx=>List.all_eq_true.1 h2 x hx,by omega⟩
theorem Zq4 {c:PSG} (h:Zhb c=true):Zpg c.codes.length c.arcs:=fun a ha=>by
 have:=List.all_eq_true.1 h a ha
 unfold ZkQ Zc7 at this
 simp only[Bool.and_eq_true] at this
 exact this.1.1
theorem ZvO (c:PSG) (hc:SGFit c):ZhX [eSG c]=some (pB (sgV c)):=by
 have hcl:=hc.codes
 have hal:=hc.arcs
 unfold ZB at hcl hal
 have g1:=Zkh c.signals hc.sigs hc.names
 have g2:=Zbh (c.codes.length:Int) 1 300
 have gi:inR (c.codes.length:Int) 1 300=(decide ((1:Int)≤c.codes.length)&&decide ((c.codes.length:Int)≤300)):=rfl
 rw[←gi] at g2
 show (fun x0=>ZhX [x0]) _=_
 rw[Zuw]
 unfold sgV
 cases hpre:ZgO c
 ·unfold ZgO at hpre
  cases c1:Zkg c.signals
  ·simp only[eSG,List.length_map,g1,c1,EVS]
  cases c2:inR (c.codes.length:Int) 1 300
  ·simp only[eSG,List.length_map,g1,g2,c1,c2,EVS]
  cases c3:decide ((4000:Int)<c.arcs.length)
  ·rw[c1,c2,c3] at hpre;cases hpre
  ·simp only[eSG,List.length_map,g1,g2,c1,c2,c3,EVS]
 have hpre':=hpre
 unfold ZgO at hpre'
 simp only[Bool.and_eq_true,Bool.not_eq_true'] at hpre'
 obtain ⟨⟨c1,c2⟩,c3⟩:=hpre'
 simp only[eSG,List.length_map,g1,g2,c1,c2,c3,EVS]
 refine (congrArg (fun m:Option PV=>m.bind fun r=>if r.sc=true then some r else none) (Zjz (R:=PV) c.codes (fun _ x=>Zab x c.signals.length) (some (pB false)) (some (pB (Zhb c&&ZiX c))) _ hcl (fun again k x hx=> ?_) (fun hall again=> ?_))).trans ?_
 ·have hk:=Ze hx
  have hi:Zl (.lst (c.codes.map PV.str)) (.int .i64 (k:Int))=some (.str x):=Zj hx
  have g:=Zo8 x c.signals.length (hc.each x (List.mem_of_getElem? hx))
  cases cb:Zab x c.signals.length<;>simp only[ZD hk,Zm hk hcl,hi,g,cb,Bool.false_eq_true,if_false,if_true,EVS]
 ·rw[Zak] at hall
  have hp:=ZiY hpre hall
  simp only[Zac,EVS]
  refine (Zjz (R:=PV) c.arcs (fun _ a=>ZkQ c a) (some (pB false)) (some (pB (ZiX c))) _ hal (fun again k a hx=> ?_) (fun hall' again=> ?_)).trans ?_
  ·have hk:=Ze hx
   have hi:Zl (.lst (c.arcs.map Z4)) (.int .i64 (k:Int))=some (Z4 a):=Zj hx
   have g:=ZxX c a hc hp
   simp only[eSG,Z4] at g
   cases cb:ZkQ c a<;>simp only[Z4,ZD hk,Zm hk hal,hi,g,cb,Zag,Zwy,Bool.false_eq_true,if_false,if_true,EVS]
  ·rw[Zak] at hall'
   have g:=ZxY c hc hp (Zq4 hall')
   simp only[eSG] at g
   simp only[Zac,Zag,g,EVS]
   rfl
  ·rw[Zak]
   show _=some (pB (c.arcs.all (ZkQ c)&&ZiX c))
   cases c.arcs.all (ZkQ c)<;>rfl
 ·rw[Zak]
  show _=some (pB ((true&&c.codes.all (fun x=>Zab x c.signals.length))&&(Zhb c&&ZiX c)))
  cases c.codes.all (fun x=>Zab x c.signals.length)<;>simp only[Bool.false_eq_true,if_false,if_true,EVS]<;>rfl
theorem ZiZ (l:List Int) (x:Int) (hl:ZB l):Zbr [.lst (l.map pI),pI x]=some (pI (ixf (fun a=>decide (x=a)) 0 l)):=by
 show (fun x0 x1=>Zbr [x0,x1]) _ _=_
 rw[Zim]
 unfold ZB at hl
 simp only[EVS]
 refine (congrArg (fun m:Option PV=>m.bind fun r=>if r.sc=true then some r else none) (Zd2 l (fun a=>decide (x=a)) _ hl (fun again k a hb=> ?_) (fun again=> ?_))).trans ?_
 ·have hk:=Ze hb
  have hi:Zl (.lst (l.map pI)) (.int .i64 (k:Int))=some (pI a):=Zj hb
  simp only[ZD hk,Zm hk hl,hi,EVS]
 ·simp only[Zac,EVS]
  rfl
 ·simp only[EVS]
theorem ZgP (l:List Int) (x:Int) (hl:ZB l):ZaM [.lst (l.map pI),pI x]=some (pB (!ZS (fun _ a=> !decide (x=a)) 0 l)):=by
 have g:=ZiZ l x hl
 show (fun x0 x1=>ZaM [x0,x1]) _ _=_
 rw[Zgw]
 simp only[g,Ze5 (fun a=>decide (x=a)) l 0,EVS]
theorem Zph {R:Type} (e:List (Nat×Nat)→Option R):∀(l:List PArc) (k:Nat) (acc:List (Nat×Nat)),ZbK (fun (acc:List (Nat×Nat)) (_:Nat) (a:PArc)=>.inl (acc++[(a.from_.toNat,a.to_.toNat)])) e k acc l=e (acc++l.map fun a=>(a.from_.toNat,a.to_.toNat))
 |[],k,acc=>by simp[ZbK]
 | a::l,k,acc=>by
  show ZbK _ e (k+1) (acc++[(a.from_.toNat,a.to_.toNat)]) l=_
  rw[Zph e l]
  simp
theorem ZAi (a b:PV):splice (splice [ZC.pv (.int .i64),ZC.pv (.int .i64)] 0 [a]) 1 [b]=[a,b]:=rfl
theorem Zr1 (n:Nat) (l:List PArc) (ha:Zpg n l) (hl:l.length≤4000):Zfn [.lst (l.map Z4)]=some (.lst ((l.map fun a=>(a.from_.toNat,a.to_.toNat)).map pSt)):=by
 show (fun x0=>Zfn [x0]) _=_
 rw[Zql]
 simp only[List.length_map,EVS]
 refine (ZfA (R:=PV) l (fun (acc:List (Nat×Nat)) k=>[.lst (acc.map pSt),pI (Int.ofNat k)]) (fun k acc=>acc.length=k) (fun (acc:List (Nat×Nat)) _ a=>.inl (acc++[(a.from_.toNat,a.to_.toNat)])) (fun acc=>some (.lst (acc.map pSt))) _ (by omega) (fun acc k x acc' hi hx he=> ?_) (fun again acc k a hi hx=> ?_) (fun again acc hi=> ?_) (b:=[]) rfl).trans ((Zph _ _ _ _).trans ?_)
 ·cases he;simp;omega
 ·have hk:=Ze hx
  obtain ⟨f,t,hf,ht,l1,l2⟩:=ZmU ha (List.mem_of_getElem? hx)
  have hi':Zl (.lst (l.map Z4)) (.int .i64 (k:Int))=some (Z4 a):=Zj hx
  have hla:acc.length+[PV.agg [pI (f:Int),pI (t:Int)]].length≤4294967296∧[PV.agg [pI (f:Int),pI (t:Int)]].all (ZbB 2)=true:=⟨by simp;omega,rfl⟩
  have hps:acc.map pSt++[PV.agg [pI (f:Int),pI (t:Int)]]=(acc++[(f,t)]).map pSt:=by simp[pSt]
  simp only[ZD hk,Zm hk (show l.length≤9223372036854775807 by omega),hi',Z4,hf,ht,Int.toNat_natCast,ZAi,List.length_map,if_pos hla,hps,EVS]
 ·simp only[Zac,EVS]
 ·rfl
theorem Zi0 (x:Int):∀(l:List Int) (k:Nat),ZS (fun _ a=> !decide (x=a)) k l= !decide (x∈l)
 |[],k=>by simp[ZS]
 | a::l,k=>by
  unfold ZS
  rw[Zi0 x l (k+1),Bool.eq_iff_iff]
  simp only[Bool.and_eq_true,Bool.not_eq_true',decide_eq_false_iff_not,List.mem_cons,not_or]
theorem Zr2 {c:PSG} (h:Zpg c.codes.length c.arcs):∀e∈Zpf c,e.1<c.codes.length∧e.2<c.codes.length:=fun e he=>by
 unfold Zpf at he
 obtain ⟨a,ha,rfl⟩:=List.mem_map.1 he
 obtain ⟨f,t,hf,ht,l1,l2⟩:=ZmU h ha
 simp only[hf,ht,Int.toNat_natCast]
 exact ⟨l1,l2⟩
theorem Zig (c:PSG) (hc:SGFit c):Za7 [eSG c]=some (pB (sgV c)):=by
 have hcl:=hc.codes
 have hal:=hc.arcs
 have hsl:=hc.sigs
 unfold ZB at hcl hal hsl
 have g1:=ZiV c.signals hc.sigs hc.names
 rw[←Zw0] at g1
 have g2:=Zaz (c.codes.length:Int) 1 300
 show (fun x0=>Za7 [x0]) _=_
 rw[ZhE]
 unfold sgV
 cases hpre:ZgO c
 ·unfold ZgO at hpre
  cases c1:Zkg c.signals
  ·simp only[eSG,List.length_map,g1,c1,EVS]
  cases c2:inR (c.codes.length:Int) 1 300
  ·simp only[eSG,List.length_map,g1,g2,c1,c2,EVS]
  cases c3:decide ((4000:Int)<c.arcs.length)
  ·rw[c1,c2,c3] at hpre;cases hpre
  ·simp only[eSG,List.length_map,g1,g2,c1,c2,c3,EVS]
 have hpre':=hpre
 unfold ZgO at hpre'
 simp only[Bool.and_eq_true,Bool.not_eq_true'] at hpre'
 obtain ⟨⟨c1,c2⟩,c3⟩:=hpre'
 have hw:IntKind.i64.wrap ((c.codes.length:Int) - 1)=(c.codes.length:Int) - 1:=Zaj (by omega) (by omega)
 simp only[eSG,List.length_map,g1,g2,c1,c2,c3,hw,EVS]
 refine (congrArg (fun m:Option PV=>m.bind fun r=>if r.sc=true then some r else none) (Zjz (R:=PV) c.codes (fun _ x=>Zab x c.signals.length) (some (pB false)) (some (pB (Zhb c&&ZiX c))) _ hcl (fun again k x hx=> ?_) (fun hall again=> ?_))).trans ?_
 ·have hk:=Ze hx
  have hi:Zl (.lst (c.codes.map PV.str)) (.int .i64 (k:Int))=some (.str x):=Zj hx
  have g:=Zo9 x c.signals.length (hc.each x (List.mem_of_getElem? hx))
  cases cb:Zab x c.signals.length<;>simp only[ZD hk,Zm hk hcl,hi,g,cb,Bool.false_eq_true,if_false,if_true,EVS]
 ·rw [Zak] at hall
  have hp:=ZiY hpre hall
  simp only[Zac,EVS]
  refine (Zjz (R:=PV) c.arcs (fun _ a=>ZkQ c a) (some (pB false)) (some (pB (ZiX c))) _ hal (fun again k a hx=> ?_) (fun hall' again=> ?_)).trans ?_
  ·have hk:=Ze hx
   have hi:Zl (.lst (c.arcs.map Z4)) (.int .i64 (k:Int))=some (Z4 a):=Zj hx
   have g3:=Zaz a.from_ 0 ((c.codes.length:Int) - 1)
   have g4:=Zaz a.to_ 0 ((c.codes.length:Int) - 1)
   have g5:=ZvJ a.sig a.up c.signals.length hsl
   unfold ZkQ
   cases hg:Zc7 c.signals.length ((c.codes.length:Int) - 1) a
   ·unfold Zc7 at hg
    cases d1:inR a.from_ 0 ((c.codes.length:Int) - 1)
    ·simp only[Z4,ZD hk,Zm hk hal,hi,List.length_map,g3,d1,Bool.false_eq_true,if_false,if_true,EVS]
    cases d2:inR a.to_ 0 ((c.codes.length:Int) - 1)
    ·simp only[Z4,ZD hk,Zm hk hal,hi,List.length_map,g3,g4,d1,d2,Bool.false_eq_true,if_false,if_true,EVS]
    cases d3:Zf4 c.signals.length a.sig a.up
    ·simp only[Z4,ZD hk,Zm hk hal,hi,List.length_map,g3,g4,g5,d1,d2,d3,Zpd,Bool.false_eq_true,if_false,if_true,EVS]
    ·rw[d1,d2,d3] at hg;cases hg
   ·obtain ⟨f,t,x,y,hf,ht,l1,l2,hx',hy',he⟩:=Zpe hg
    unfold Zc7 at hg
    simp only[Bool.and_eq_true] at hg
    have bx:=hp.bits x (List.mem_of_getElem? hx')
    have by_:=hp.bits y (List.mem_of_getElem? hy')
    have i1:Zl (.lst (c.codes.map PV.str)) (.int .i64 (f:Int))=some (.str x):=Zj hx'
    have i2:Zl (.lst (c.codes.map PV.str)) (.int .i64 (t:Int))=some (.str y):=Zj hy'
    have e1:c.codes.getD f []=x:=by rw[List.getD_eq_getElem?_getD,hx'];rfl
    have e2:c.codes.getD t []=y:=by rw[List.getD_eq_getElem?_getD,hy'];rfl
    have d1:=hg.1.1
    have d2:=hg.1.2
    have lx:=ZgN bx
    have ly:=ZgN by_
    have g6:=Zp9 a x y (hc.each x (List.mem_of_getElem? hx')) (by omega)
    rw[ZAh a.sig a.up x y _ bx by_ he] at g6
    simp only[Z4,hf,ht] at g3 g4 g6 d1 d2
    rw[hf,ht,Int.toNat_natCast,Int.toNat_natCast,e1,e2]
    cases d4:Zl0 a.sig a.up x y<;>simp only[Z4,hf,ht,ZD hk,Zm hk hal,hi,List.length_map,g3,g4,g5,g6,d1,d2,he,d4,i1,i2,Zpd,Zwy,Bool.false_eq_true,if_false,if_true,EVS]
  ·rw[Zak] at hall'
   have hin:=Zq4 hall'
   have g7:=Zr1 c.codes.length c.arcs hin hp.arcs
   have g8:=Zqa c.codes.length 0 (Zpf c) (by have:=hp.many;omega) hp.one (by have:=hp.arcs;unfold Zpf;rw[List.length_map];omega) (Zr2 hin)
   have hd:=ZpH hp.one (Zr2 hin)
   have g9:=ZgP (Zec c.codes.length (Zpf c) 0) (-1) (by unfold ZB;rw[hd.len];omega)
   have hme:ZiX c= !decide ((-1:Int)∈Zec c.codes.length (Zpf c) 0):=Zzx hp.one (Zr2 hin)
   rw[Zi0] at g9
   unfold Zpf at g8
   simp only[Zac,List.length_map,g7,EVS]
   rw[show (Int.negSucc 0)=(-1:Int) from rfl]
   simp only[Int.natCast_zero] at g8
   simp only[g8,EVS]
   unfold Zpf at g9 hme
   simp only[g9,hme,Bool.not_not,EVS]
  ·rw[Zak]
   show _=some (pB (c.arcs.all (ZkQ c)&&ZiX c))
   cases c.arcs.all (ZkQ c)<;>rfl
 ·rw[Zak]
  show _=some (pB ((true&&c.codes.all (fun x=>Zab x c.signals.length))&&(Zhb c&&ZiX c)))
  cases c.codes.all (fun x=>Zab x c.signals.length)<;>simp only[Bool.false_eq_true,if_false,if_true,EVS]<;>rfl
theorem ZtO {R α β:Type} (l:List α) (J:β→Nat→List PV) (Inv:Nat→β→Prop) (step:β→Nat→α→Sum β (Option R)) (e:β→Option R) (f:(List PV→Option R)→List PV→Option R) (hl:l.length≤9223372036854775807)
 (hs:∀b k x b',Inv k b→l[k]?=some x→step b k x=.inl b'→Inv (k+1) b')
 (h1:∀again b k x,Inv k b→l[k]?=some x→f again (J b k)=match step b k x with|.inl b'=>again (J b' (k+1))|.inr z=>z)
 (h2:∀again b,Inv l.length b→f again (J b l.length)=e b) {b:β} {k:Nat} (hk:k≤l.length) (hb:Inv k b):Zn f 18446744073709551616 (J b k)=ZbK step e k b (l.drop k):=by
 have key:=Zcj (R:=R) (fun q:{q:β×Nat // Inv q.2 q.1∧q.2≤l.length}=>J q.1.1 q.1.2) (fun q=>l.length+1 - q.1.2) (fun q=>ZbK step e q.1.2 q.1.1 (l.drop q.1.2)) f (fun again q ih=> ?_) 18446744073709551616 ⟨(b,k),hb,hk⟩ (by simp only;omega)
 ·exact key
 ·obtain ⟨⟨b,k⟩,hi,hk⟩:=q
  dsimp only at ih hi hk⊢
  by_cases hlt:k<l.length
  ·have hx:l[k]?=some l[k]:=List.getElem?_eq_getElem hlt
   rw[h1 again b k _ hi hx,List.drop_eq_getElem_cons hlt]
   unfold ZbK
   cases hst:step b k l[k] with
   |inl b'=>exact ih ⟨(b',k+1),hs _ _ _ _ hi hx hst,hlt⟩ (by simp only;omega)
   |inr z=>rfl
  ·obtain rfl:k=l.length:=by omega
   rw[h2 again b hi,List.drop_length]
   rfl
theorem capsA0 :ZbL 0 (.tup [])=some []:=by simp[ZbL,PV.parts]
theorem ZjV (a:PArc):ZbH [Z4 a]=some (pB (decide (a.sig= -1))):=by
 show (fun x0=>ZbH [x0]) _=_
 rw[Zjd]
 simp only[Z4,EVS]
 rfl
theorem ZbX (l:List PArc) (hl:ZB l):ZG [.lst (l.map Z4),.tup []]=some (pI (ixf (fun a=>decide (a.sig= -1)) 0 l)):=by
 show (fun x0 x1=>ZG [x0,x1]) _ _=_
 rw[ZbQ]
 unfold ZB at hl
 simp only[EVS]
 refine (congrArg (fun m:Option PV=>m.bind fun r=>if r.sc=true then some r else none) (Zd2 l (fun a=>decide (a.sig= -1)) _ hl (fun again k a hb=> ?_) (fun again=> ?_))).trans ?_
 ·have hk:=Ze hb
  have hi:Zl (.lst (l.map Z4)) (.int .i64 (k:Int))=some (Z4 a):=Zj hb
  have g:=ZjV a
  simp only[Z4] at g
  cases hc:decide (a.sig= -1)<;>simp only[ZD hk,Zm hk hl,hi,Z4,g,hc,capsA0,List.append_nil,List.cons_append,List.nil_append,Bool.false_eq_true,if_false,if_true,EVS]
 ·simp only[Zac,EVS]
  rfl
 ·simp only[EVS]
def Zhc (l:List PArc):Bool:=l.any fun a=>decide (a.sig= -1)
theorem Zbx (l:List PArc) (hl:ZB l):Zx [.lst (l.map Z4),.tup []]=some (pB (Zhc l)):=by
 have g:=ZbX l hl
 show (fun x0 x1=>Zx [x0,x1]) _ _=_
 rw[Zbo]
 simp only[g,Ze5 (fun a:PArc=>decide (a.sig= -1)) l 0,EVS]
 rw[Zak,List.all_eq_not_any_not]
 simp only[Bool.not_not]
 rfl
theorem Zr3 (c:PSG) (hl:ZB c.arcs):Zfs [eSG c]=some (pB (c.arcs.any fun a=>decide (a.sig<0))):=by
 unfold ZB at hl
 show (fun x0=>Zfs [x0]) _=_
 rw[Zqu]
 simp only[eSG,EVS]
 refine (congrArg (fun m:Option PV=>m.bind fun r=>if r.sc=true then some r else none) (ZM (R:=PV) c.arcs (fun _ a=> !decide (a.sig<0)) (some (pB true)) (some (pB false)) _ hl (fun again k a hx=> ?_) (fun again=> ?_))).trans ?_
 ·have hk:=Ze hx
  have hi:Zl (.lst (c.arcs.map Z4)) (.int .i64 (k:Int))=some (Z4 a):=Zj hx
  cases hc:decide (a.sig<0)<;>simp only[List.length_map,ZD hk,Zm hk hl,hi,Z4,hc,Bool.not_true,Bool.not_false,Bool.false_eq_true,if_false,if_true,EVS]
 ·simp only[List.length_map,Zac,EVS]
 ·rw[Zak,List.any_eq_not_all_not]
  cases c.arcs.all (fun a=> !decide (a.sig<0))<;>simp only[Bool.not_true,Bool.not_false,Bool.false_eq_true,if_false,if_true,EVS]
theorem ZvP {c:PSG} (h:Zhb c=true):(c.arcs.any fun a=>decide (a.sig<0))=Zhc c.arcs:=by
 unfold Zhc
 rw[Bool.eq_iff_iff,List.any_eq_true,List.any_eq_true]
 constructor
 ·rintro ⟨a,ha,h1⟩
  refine ⟨a,ha, ?_⟩
  have:=List.all_eq_true.1 h a ha
  unfold ZkQ Zc7 Zf4 inR at this
  simp only[Bool.and_eq_true,Bool.or_eq_true,decide_eq_true_eq] at this h1⊢
  omega
 ·rintro ⟨a,ha,h1⟩
  refine ⟨a,ha, ?_⟩
  simp only[decide_eq_true_eq] at h1⊢
  omega
theorem Zzt (x y:List UInt8×Int):eqV (some [(0,TD.str),(1,TD.int IntKind.i64)]) TD.struct (.agg [.str x.1,pI x.2]) (.agg [.str y.1,pI y.2])=some (decide (x=y)):=by
 have e:decide (x=y)=((x.1==y.1)&&((x.2==y.2)&&true)):=by
  rw[Bool.eq_iff_iff]
  simp only[decide_eq_true_eq,Bool.and_eq_true,Prod.ext_iff,beq_iff_eq,and_true]
 rw[e]
 show (some (x.1==y.1)).bind (fun b=>(some ((x.2==y.2)&&true)).map fun c=>b&&c)=_
 rfl
def Zhd (l:List (List UInt8×Int)) (k:Nat) (x:List UInt8×Int):Bool:=match l[k]? with|some y=>decide (x=y)|none=>false
theorem Zw7 (l m:List (List UInt8×Int)) (h:l.length=m.length):ZS (Zhd m) 0 l=decide (l=m):=by
 rw[Bool.eq_iff_iff,Zpc,decide_eq_true_eq]
 constructor
 ·intro hx
  apply List.ext_getElem h
  intro i h1 h2
  have:=hx i l[i] (List.getElem?_eq_getElem h1)
  unfold Zhd at this
  rw[Nat.zero_add,List.getElem?_eq_getElem h2] at this
  simpa using this
 ·rintro rfl i x hi
  unfold Zhd
  rw[Nat.zero_add,hi]
  simp
theorem ZgQ (l m:List (List UInt8×Int)) (hl:ZB l):ZaL [.lst (l.map ZE),.lst (m.map ZE)]=some (pB (decide (l=m))):=by
 unfold ZB at hl
 show (fun x0 x1=>ZaL [x0,x1]) _ _=_
 rw[Zgt]
 by_cases hlen:l.length=m.length
 ·have d:decide ((l.length:Int)=(m.length:Int))=true:=by rw[decide_eq_true_eq];omega
  simp only[List.length_map,d,EVS]
  refine (congrArg (fun m:Option PV=>m.bind fun r=>if r.sc=true then some r else none) (ZM (R:=PV) l (Zhd m) (some (pB false)) (some (pB true)) _ hl (fun again k x hx=> ?_) (fun again=> ?_))).trans ?_
  ·have hk:=Ze hx
   have hy:m[k]?=some (m[k]'(by omega)):=List.getElem?_eq_getElem _
   have hi:Zl (.lst (l.map ZE)) (.int .i64 (k:Int))=some (ZE x):=Zj hx
   have hj:Zl (.lst (m.map ZE)) (.int .i64 (k:Int))=some (ZE (m[k]'(by omega))):=Zj hy
   have hs:Zhd m k x=decide (x=m[k]'(by omega)):=by unfold Zhd;rw[hy]
   have he:=Zzt x (m[k]'(by omega))
   rw[hs]
   cases hc:decide (x=m[k]'(by omega))<;>simp only[List.length_map,ZD hk,Zm hk hl,hi,hj,ZE,ZW,he,hc,Bool.not_true,Bool.not_false,Bool.false_eq_true,if_false,if_true,EVS]
  ·simp only[List.length_map,Zac,EVS]
  ·rw[Zw7 l m hlen]
   cases decide (l=m)<;>simp only[Bool.false_eq_true,if_false,if_true,EVS]
 ·have d:decide ((l.length:Int)=(m.length:Int))=false:=by simp only[decide_eq_false_iff_not];omega
  have hne:decide (l=m)=false:=by simp only[decide_eq_false_iff_not];rintro rfl;exact hlen rfl
  simp only[List.length_map,d,hne,EVS]
theorem Zl1 (l m:List (List UInt8×Int)) (hl:ZB l):ZcI [.lst (l.map ZE),.lst (m.map ZE)]=some (pB (decide (l=m))):=by
 unfold ZB at hl
 show (fun x0 x1=>ZcI [x0,x1]) _ _=_
 rw[Zll]
 by_cases hlen:l.length=m.length
 ·have d:decide ((l.length:Int)=(m.length:Int))=true:=by rw[decide_eq_true_eq];omega
  simp only[List.length_map,d,EVS]
  refine (congrArg (fun m:Option PV=>m.bind fun r=>if r.sc=true then some r else none) (ZM (R:=PV) l (Zhd m) (some (pB false)) (some (pB true)) _ hl (fun again k x hx=> ?_) (fun again=> ?_))).trans ?_
  ·have hk:=Ze hx
   have hy:m[k]?=some (m[k]'(by omega)):=List.getElem?_eq_getElem _
   have hi:Zl (.lst (l.map ZE)) (.int .i64 (k:Int))=some (ZE x):=Zj hx
   have hj:Zl (.lst (m.map ZE)) (.int .i64 (k:Int))=some (ZE (m[k]'(by omega))):=Zj hy
   have hs:Zhd m k x=decide (x=m[k]'(by omega)):=by unfold Zhd;rw[hy]
   have he:=Zzt x (m[k]'(by omega))
   rw[hs]
   cases hc:decide (x=m[k]'(by omega))<;>simp only[List.length_map,ZD hk,Zm hk hl,hi,hj,ZE,ZW,he,hc,Bool.not_true,Bool.not_false,Bool.false_eq_true,if_false,if_true,EVS]
  ·simp only[List.length_map,Zac,EVS]
  ·rw[Zw7 l m hlen]
   cases decide (l=m)<;>simp only[Bool.false_eq_true,if_false,if_true,EVS]
 ·have d:decide ((l.length:Int)=(m.length:Int))=false:=by simp only[decide_eq_false_iff_not];omega
  have hne:decide (l=m)=false:=by simp only[decide_eq_false_iff_not];rintro rfl;exact hlen rfl
  simp only[List.length_map,d,hne,EVS]
def ZkR (a b:PArc):Bool:=(((!decide (a.sig= -1))&&decide (b.from_=a.from_))&&decide (b.sig=a.sig))&& !decide (b.to_=a.to_)
def Zr4 (a b:PArc):Bool:=((decide (a.from_=b.from_)&&decide (a.sig=b.sig))&&decide (0≤a.sig))&& !decide (a.to_=b.to_)
def wE (p:Nat×Nat):PV:=.lst [pI p.1,pI p.2]
def ZdL (w:PArc→PArc→Bool) (i:Nat) (a:PArc):Nat→List (Nat×Nat)→List PArc→List (Nat×Nat)
 |_,acc,[]=>acc
 |k,acc,b::l=>ZdL w i a (k+1) (if w a b=true then acc++[(i,k)] else acc) l
def Zhe (w:PArc→PArc→Bool) (arcs:List PArc):Nat→List (Nat×Nat)→List PArc→List (Nat×Nat)
 |_,acc,[]=>acc
 |i,acc,a::l=>Zhe w arcs (i+1) (ZdL w i a (i+1) acc (arcs.drop (i+1))) l
theorem Zi1 {R:Type} (w:PArc→PArc→Bool) (i:Nat) (a:PArc) (e:List (Nat×Nat)→Option R):∀(l:List PArc) (k:Nat) (acc:List (Nat×Nat)),ZbK (fun (acc:List (Nat×Nat)) k b=>.inl (if w a b=true then acc++[(i,k)] else acc)) e k acc l=e (ZdL w i a k acc l)
 |[],k,acc=>rfl
 |b::l,k,acc=>by unfold ZbK ZdL;exact Zi1 w i a e l (k+1) _
theorem Zi2 {R:Type} (w:PArc→PArc→Bool) (arcs:List PArc) (e:List (Nat×Nat)→Option R):∀(l:List PArc) (k:Nat) (acc:List (Nat×Nat)),ZbK (fun (acc:List (Nat×Nat)) i a=>.inl (ZdL w i a (i+1) acc (arcs.drop (i+1)))) e k acc l=e (Zhe w arcs k acc l)
 |[],k,acc=>rfl
 |b::l,k,acc=>by unfold ZbK Zhe;exact Zi2 w arcs e l (k+1) _
theorem ZkS (w:PArc→PArc→Bool) (i:Nat) (a:PArc):∀(l:List PArc) (k:Nat) (acc:List (Nat×Nat)),(ZdL w i a k acc l).length≤acc.length+l.length
 |[],k,acc=>by simp[ZdL]
 | b::l,k,acc=>by
  have:=ZkS w i a l (k+1) (if w a b=true then acc++[(i,k)] else acc)
  unfold ZdL
  split at this<;>rename_i h
  ·rw[if_pos h];simp at this⊢;omega
  ·rw[if_neg h];simp at this⊢;omega
theorem Zl2 {w w':PArc→PArc→Bool} (i:Nat) (a:PArc):∀(l:List PArc) (k:Nat) (acc:List (Nat×Nat)),(∀b∈l,w a b=w' a b)→ZdL w i a k acc l=ZdL w' i a k acc l
 |[],k,acc,h=>rfl
 |b::l,k,acc,h=>by unfold ZdL;rw[h b List.mem_cons_self];exact Zl2 i a l _ _ fun b hb=>h b (List.mem_cons_of_mem _ hb)
theorem Zl3 {w w':PArc→PArc→Bool} (arcs:List PArc):∀(l:List PArc) (k:Nat) (acc:List (Nat×Nat)),(∀a∈l,∀b∈arcs,w a b=w' a b)→Zhe w arcs k acc l=Zhe w' arcs k acc l
 |[],k,acc,h=>rfl
 | a::l,k,acc,h=>by
  unfold Zhe
  rw[Zl2 k a _ _ _ fun b hb=>h a List.mem_cons_self b (List.mem_of_mem_drop hb)]
  exact Zl3 arcs l _ _ fun a ha=>h a (List.mem_cons_of_mem _ ha)
def Zi3 (w:PArc→PArc→Bool) (c:PSG):List (Nat×Nat):=Zhe w c.arcs 0 [] c.arcs
theorem ZAj {c:PSG} (h:Zhb c=true):Zi3 Zr4 c=Zi3 ZkR c:=Zl3 _ _ _ _ fun a ha b hb=>by
 have:=List.all_eq_true.1 h a ha
 unfold ZkQ Zc7 Zf4 inR at this
 simp only[Bool.and_eq_true,Bool.or_eq_true,decide_eq_true_eq] at this
 have h1:a.sig= -1∨0≤a.sig:=by omega
 unfold Zr4 ZkR
 rw[Bool.eq_iff_iff]
 simp only[Bool.and_eq_true,Bool.not_eq_true',decide_eq_true_eq,decide_eq_false_iff_not]
 omega
theorem ZtP (c:PSG) (hl:c.arcs.length≤4000):Zf7 [eSG c]=some (.lst ((Zi3 ZkR c).map wE)):=by
 show (fun x0=>Zf7 [x0]) _=_
 rw[Zr9]
 simp only[eSG,EVS]
 refine (ZfA (R:=PV) c.arcs (fun (acc:List (Nat×Nat)) i=>[.lst (acc.map wE),pI (Int.ofNat i)]) (fun i acc=>acc.length≤i * 4000) (fun acc i a=>.inl (ZdL ZkR i a (i+1) acc (c.arcs.drop (i+1)))) (fun acc=>some (.lst (acc.map wE))) _ (by omega) (fun acc i a acc' hi hx he=> ?_) (fun again acc i a hi hx=> ?_) (fun again acc hi=> ?_) (b:=[]) (by simp)).trans (Zi2 _ _ _ _ _ _)
 ·cases he
  have:=ZkS ZkR i a (c.arcs.drop (i+1)) (i+1) acc
  simp at this
  omega
 ·have hk:=Ze hx
  have hi':Zl (.lst (c.arcs.map Z4)) (.int .i64 (i:Int))=some (Z4 a):=Zj hx
  have hnx:=Zm hk (show c.arcs.length≤9223372036854775807 by omega)
  simp only[List.length_map,ZD hk,hnx,hi',Z4,EVS]
  refine (ZtO (R:=PV) c.arcs (fun (acc:List (Nat×Nat)) k=>[.lst (acc.map wE),pI (Int.ofNat k)]) (fun k acc=>acc.length≤i * 4000+k) (fun acc k b=>.inl (if ZkR a b=true then acc++[(i,k)] else acc)) (fun acc=>again [.lst (acc.map wE),pI (Int.ofNat (i+1))]) _ (by omega) (fun acc k b acc' hi hx he=> ?_) (fun again' acc k b hi2 hx2=> ?_) (fun again' acc hi=> ?_) (b:=acc) (k:=i+1) (show i+1≤c.arcs.length from hk) (show acc.length≤i * 4000+(i+1) from Nat.le_trans hi (Nat.le_add_right _ _))).trans (Zi1 _ _ _ _ _ _ _)
  ·cases he
   show (if ZkR a b=true then acc++[(i,k)] else acc).length≤i * 4000+(k+1)
   have hi:acc.length≤i * 4000+k:=hi
   cases ZkR a b
   ·rw[if_neg (by decide)];omega
   ·rw[if_pos rfl,List.length_append,List.length_singleton];omega
  ·have hk2:=Ze hx2
   have hj:Zl (.lst (c.arcs.map Z4)) (.int .i64 (k:Int))=some (Z4 b):=Zj hx2
   have hla:acc.length+[PV.lst [pI (i:Int),pI (k:Int)]].length≤4294967296∧[PV.lst [pI (i:Int),pI (k:Int)]].all (ZbB 1)=true:=⟨by simp;omega,rfl⟩
   have hps:acc.map wE++[PV.lst [pI (i:Int),pI (k:Int)]]=(acc++[(i,k)]).map wE:=by simp[wE]
   unfold ZkR
   simp only[List.length_map,ZD hk2,Zm hk2 (show c.arcs.length≤9223372036854775807 by omega),hj,Z4,EVS]
   rw[show Int.negSucc 0=(-1:Int) from rfl]
   have hok:([PV.lst [pI (i:Int),pI (k:Int)]].all fun x=>ZbB 1 x)=true:=rfl
   cases c1:decide (a.sig= -1)<;>cases c2:decide (b.from_=a.from_)<;>cases c3:decide (b.sig=a.sig)<;>cases c4:decide (b.to_=a.to_)<;>simp only[c1,c2,c3,c4,if_pos hla,hps,if_pos hok,EVS]
  ·simp only[List.length_map,Zac,hnx,EVS]
 ·simp only[List.length_map,Zac,EVS]
theorem ZvQ (c:PSG) (hl:c.arcs.length≤4000):ZhZ [eSG c]=some (.lst ((Zi3 Zr4 c).map wE)):=by
 show (fun x0=>ZhZ [x0]) _=_
 rw[Zuy]
 simp only[eSG,EVS]
 refine (ZfA (R:=PV) c.arcs (fun (acc:List (Nat×Nat)) i=>[.lst (acc.map wE),pI (Int.ofNat i)]) (fun i acc=>acc.length≤i * 4000) (fun acc i a=>.inl (ZdL Zr4 i a (i+1) acc (c.arcs.drop (i+1)))) (fun acc=>some (.lst (acc.map wE))) _ (by omega) (fun acc i a acc' hi hx he=> ?_) (fun again acc i a hi hx=> ?_) (fun again acc hi=> ?_) (b:=[]) (by simp)).trans (Zi2 _ _ _ _ _ _)
 ·cases he
  have:=ZkS Zr4 i a (c.arcs.drop (i+1)) (i+1) acc
  simp at this
  omega
 ·have hk:=Ze hx
  have hi':Zl (.lst (c.arcs.map Z4)) (.int .i64 (i:Int))=some (Z4 a):=Zj hx
  have hnx:=Zm hk (show c.arcs.length≤9223372036854775807 by omega)
  simp only[List.length_map,ZD hk,hnx,hi',Z4,EVS]
  refine (ZtO (R:=PV) c.arcs (fun (acc:List (Nat×Nat)) k=>[.lst (acc.map wE),pI (Int.ofNat k)]) (fun k acc=>acc.length≤i * 4000+k) (fun acc k b=>.inl (if Zr4 a b=true then acc++[(i,k)] else acc)) (fun acc=>again [.lst (acc.map wE),pI (Int.ofNat (i+1))]) _ (by omega) (fun acc k b acc' hi hx he=> ?_) (fun again' acc k b hi2 hx2=> ?_) (fun again' acc hi=> ?_) (b:=acc) (k:=i+1) (show i+1≤c.arcs.length from hk) (show acc.length≤i * 4000+(i+1) from Nat.le_trans hi (Nat.le_add_right _ _))).trans (Zi1 _ _ _ _ _ _ _)
  ·cases he
   show (if Zr4 a b=true then acc++[(i,k)] else acc).length≤i * 4000+(k+1)
   have hi:acc.length≤i * 4000+k:=hi
   cases Zr4 a b
   ·rw[if_neg (by decide)];omega
   ·rw[if_pos rfl,List.length_append,List.length_singleton];omega
  ·have hk2:=Ze hx2
   have hj:Zl (.lst (c.arcs.map Z4)) (.int .i64 (k:Int))=some (Z4 b):=Zj hx2
   have hla:acc.length+[PV.lst [pI (i:Int),pI (k:Int)]].length≤4294967296∧[PV.lst [pI (i:Int),pI (k:Int)]].all (ZbB 1)=true:=⟨by simp;omega,rfl⟩
   have hps:acc.map wE++[PV.lst [pI (i:Int),pI (k:Int)]]=(acc++[(i,k)]).map wE:=by simp[wE]
   unfold Zr4
   simp only[List.length_map,ZD hk2,Zm hk2 (show c.arcs.length≤9223372036854775807 by omega),hj,Z4,EVS]
   have hok:([PV.lst [pI (i:Int),pI (k:Int)]].all fun x=>ZbB 1 x)=true:=rfl
   cases c1:decide (a.from_=b.from_)<;>cases c2:decide (a.sig=b.sig)<;>cases c3:decide (0≤a.sig)<;>cases c4:decide (a.to_=b.to_)<;>simp only[c1,c2,c3,c4,if_pos hla,hps,if_pos hok,EVS]
  ·simp only[List.length_map,Zac,hnx,EVS]
 ·simp only[List.length_map,Zac,EVS]
theorem ZjH {c:PSG} (h:sgV c=true):ZgO c=true∧Zr0 c=true∧Zhb c=true∧ZiX c=true:=by
 unfold sgV at h
 simp only[Bool.and_eq_true] at h
 exact ⟨h.1.1,h.1.2,h.2.1,h.2.2⟩
theorem ZtQ {c:PSG} (h:sgV c=true):c.arcs.length≤4000:=by
 have:=(ZjH h).1
 unfold ZgO at this
 simp only[Bool.and_eq_true,Bool.not_eq_true',decide_eq_false_iff_not] at this
 omega
def Zw8 (c:PSG) (n:PNet):Bool:=((!Zhc c.arcs)&&decide (((Zi3 ZkR c).length:Int)=0))&&decide (c.signals=n.signals)
def goP (c:PSG) (n:PNet):Bool:=(sgV c&&Zgp n)&&Zw8 c n
theorem ZxZ (c:PSG) (n:PNet) (hc:SGFit c) (hn:n.Fit):ZjO [eSG c,ZP n]=some (pB (goP c n)):=by
 have g1:=ZvO c hc
 have g2:=ZtJ n hn
 show (fun x0 x1=>ZjO [x0,x1]) _ _=_
 rw[Zv6]
 unfold goP Zw8
 simp only[eSG,ZP] at g1 g2
 cases c1:sgV c
 ·rw[c1] at g1;simp only[eSG,ZP,ZW,Zag,g1,EVS]
 cases c2:Zgp n
 ·rw[c1] at g1;rw[c2] at g2;simp only[eSG,ZP,ZW,Zag,g1,g2,EVS]
 rw[c1] at g1;rw[c2] at g2
 have g3:=Zr3 c hc.arcs
 rw[ZvP (ZjH c1).2.2.1] at g3
 have g4:=ZvQ c (ZtQ c1)
 rw[ZAj (ZjH c1).2.2.1] at g4
 have g5:=Zl1 c.signals n.signals hc.sigs
 simp only[eSG] at g3 g4
 cases c3:Zhc c.arcs
 ·rw[c3] at g3
  cases c4:decide (((Zi3 ZkR c).length:Int)=0)
  ·simp only[eSG,ZP,ZW,Zag,g1,g2,g3,g4,c4,List.length_map,EVS]
  ·simp only[eSG,ZP,ZW,Zag,g1,g2,g3,g4,g5,c4,List.length_map,EVS]
 ·rw[c3] at g3;simp only[eSG,ZP,ZW,Zag,g1,g2,g3,EVS]
theorem ZkT (c:PSG) (n:PNet) (hc:SGFit c) (hn:n.Fit):Zbs [eSG c,ZP n]=some (.tup [pB (goP c n),pB (sgV c&&Zgp n)]):=by
 have g1:=Zig c hc
 have g2:=ZkO n hn
 rw[←net_eq] at g2
 have g3:=Zbx c.arcs hc.arcs
 have g5:=ZgQ c.signals n.signals hc.sigs
 show (fun x0 x1=>Zbs [x0,x1]) _ _=_
 rw[Zk6]
 unfold goP Zw8
 simp only[eSG,ZP] at g1 g2
 cases c1:sgV c
 ·rw[c1] at g1;simp only[eSG,ZP,ZW,Zag,g1,EVS];rfl
 cases c2:Zgp n
 ·rw[c1] at g1;rw[c2] at g2;simp only[eSG,ZP,ZW,Zag,g1,g2,EVS];rfl
 rw[c1] at g1;rw[c2] at g2
 have g4:=ZtP c (ZtQ c1)
 simp only[eSG] at g4
 cases c3:Zhc c.arcs
 ·rw[c3] at g3
  cases c4:decide (((Zi3 ZkR c).length:Int)=0)
  ·simp only[eSG,ZP,ZW,Zag,g1,g2,g3,g4,c4,List.length_map,EVS];rfl
  ·simp only[eSG,ZP,ZW,Zag,g1,g2,g3,g4,g5,c4,List.length_map,EVS];rfl
 ·rw[c3] at g3;simp only[eSG,ZP,ZW,Zag,g1,g2,g3,EVS];rfl
theorem Zep {R:Type} (a b:Nat) (st:Nat→List PV) (e:Option R) (f:(List PV→Option R)→List PV→Option R) (hm:b≤9223372036854775807)
 (h1:∀again k,a≤k→k<b→f again (st k)=again (st (k+1)))
 (h2:∀again,f again (st b)=e) (hab:a≤b) (J:List PV) (hJ:st a=J):Zn f 18446744073709551616 J=e:=by
 subst hJ
 have key:=Zcj (R:=R) (fun k:{k:Nat // a≤k∧k≤b}=>st k.1) (fun k=>b+1 - k.1) (fun _=>e) f (fun again k ih=> ?_) 18446744073709551616 ⟨a,Nat.le_refl _,hab⟩ (by simp only;omega)
 ·exact key
 ·obtain ⟨k,hk,hk2⟩:=k
  dsimp only at ih⊢
  by_cases c:k<b
  ·rw[h1 again k hk c]
   exact ih ⟨k+1,by omega,c⟩ (by simp only;omega)
  ·obtain rfl:k=b:=by omega
   exact h2 again
end Go.Proofs.YthobodfbjjjiiaaGreat
