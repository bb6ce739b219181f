import Derived.Test.YtenddofcogldfaaGreatDoorSplitGateF
namespace Go.Proofs.YtenddofcogldfaaGreatDoor
open Go.RowKit
set_option linter.unusedVariables false
set_option linter.unusedSimpArgs false
theorem Zbc (n lo hi:Int):Zar [pI n,pI lo,pI hi]=some (pB (decide (lo≤n)&&decide (n≤hi))):=by
 show (fun x0 x1 x2=>Zar [x0,x1,x2]) _ _ _=_
 rw[Zq6]
 by_cases h:lo≤n<;>simp only[h,EVS]
def ZsD (first:Bool) (b:UInt8):Bool:=(decide ((97:Int)≤b.toNat)&&decide ((b.toNat:Int)≤122))||(!first&&(!decide ((b.toNat:Int)<48)&& !decide ((57:Int)<b.toNat)))
def Zgo :Bool→List UInt8→Bool
 |_,[]=>true
 |f,b::r=>ZsD f b&&Zgo false r
def Z9 (s:List UInt8):Bool:=Zgo true s&&(decide ((1:Int)≤s.length)&&decide ((s.length:Int)≤6))
theorem ZjG (s:List UInt8) (hs:s.length≤9223372036854775807):Zdq [.str s]=some (pB (Z9 s)):=by
 show (fun x0=>Zdq [x0]) _=_
 rw[ZnN]
 refine (congrArg (Zi true) (Zd7 (R:=PV) (fun k:Nat=>[pI (Int.ofNat k)]) (fun k=>s.length+1 - k) (fun k=>some (pB (Zgo (k==0) (s.drop k)&&(decide ((1:Int)≤s.length)&&decide ((s.length:Int)≤6))))) _ (fun again k ih=> ?_) _ 0 (by omega))).trans ?_
 ·by_cases hk:k<s.length
  ·obtain ⟨b,hb⟩:∃b,s[k]?=some b:=⟨s[k],List.getElem?_eq_getElem hk⟩
   have hd:s.drop k=b::s.drop (k+1):=by
    obtain ⟨h1,rfl⟩:=List.getElem?_eq_some_iff.1 hb
    exact List.drop_eq_getElem_cons h1
   have hlt:decide ((k:Int)<s.length)=true:=by simpa using hk
   have hw:IntKind.i64.wrap ((k:Int)+1)=((k+1:Nat):Int):=by rw[Zbi (by omega) (by omega)];omega
   have hnext:=ih (k+1) (by omega)
   simp only[Int.ofNat_eq_natCast] at hnext
   have hk0:decide ((k:Int)=0)=(k==0):=by rw[Bool.eq_iff_iff];simp
   rw[hd]
   have hk1:(k+1==0)=false:=rfl
   rw[hk1] at hnext
   have ev1:=hlt
   have ev2:=Zaj (k:=.i64) hb
   simp only[Zgo,ZsD,hlt,Zaj hb,hk0,hw,hnext,EVS]
   by_cases c1:(97:Int)≤b.toNat
   all_goals simp only[c1,Zaj hb,EVS]
   by_cases c2:(b.toNat:Int)≤122
   all_goals try simp only[c2,Zaj hb,EVS]
   all_goals try simp only[hk0]
   all_goals try (cases c5:(k==0))
   all_goals try simp only[c5,Zaj hb,EVS]
   all_goals try (by_cases c3:(b.toNat:Int)<48)
   all_goals try simp only[c3,Zaj hb,EVS]
   all_goals try (by_cases c4:(57:Int)<b.toNat)
   all_goals try simp only[c4,Zaj hb,EVS]
  ·have hd:s.drop k=[]:=List.drop_eq_nil_of_le (by omega)
   have hlt:decide ((k:Int)<s.length)=false:=by simpa using hk
   rw[hd]
   simp only[Zgo,hlt,Zbc,EVS]
 ·simp only[Z9,List.drop_zero,beq_self_eq_true,EVS]
def Zib (b:UInt8):Bool:=decide ((b.toNat:Int)=48)||decide ((b.toNat:Int)=49)||decide ((b.toNat:Int)=45)
def Zg7 (s:List UInt8):Bool:=Z7 (fun _ b=>Zib b) 0 s&&(decide ((1:Int)≤s.length)&&decide ((s.length:Int)≤8))
theorem Zy {α:Type} {l:List α} {k:Nat} {x:α} (h:l[k]?=some x):k<l.length:=(List.getElem?_eq_some_iff.1 h).1
theorem Z5 {k n:Nat} (h:k<n) (hn:n≤9223372036854775807):IntKind.i64.wrap ((k:Int)+1)=((k+1:Nat):Int):=by rw[Zbi (by omega) (by omega)];omega
theorem Zcm {k n:Nat} (h:k<n):decide ((k:Int)<(n:Int))=true:=by simpa using h
theorem Zc2 {n:Nat}:decide ((n:Int)<(n:Int))=false:=by simp
theorem Znz (s:List UInt8) (hs:s.length≤9223372036854775807):ZdG [.str s]=some (pB (Zg7 s)):=by
 show (fun x0=>ZdG [x0]) _=_
 rw[Zma]
 refine (congrArg (Zi true) (ZaK (R:=PV) s (fun _ b=>Zib b) (some (pB false)) (some (pB (decide ((1:Int)≤s.length)&&decide ((s.length:Int)≤8)))) _ hs (fun again k b hb=> ?_) (fun again=> ?_))).trans ?_
 ·have hk:=Zy hb
  cases c1:decide ((b.toNat:Int)=48)<;>cases c2:decide ((b.toNat:Int)=49)<;>cases c3:decide ((b.toNat:Int)=45)<;>
   simp only[Zib,Zcm hk,Z5 hk hs,Zaj hb,c1,c2,c3,EVS]
 ·simp only[Zc2,Zbc,EVS]
 ·unfold Zg7
  cases Z7 (fun _ b=>Zib b) 0 s<;>simp only[EVS]
abbrev ZaI (s:List UInt8×Int):PV:=.agg [.str s.1,pI s.2]
def inR (n lo hi:Int):Bool:=decide (lo≤n)&&decide (n≤hi)
def ZjH (l:List (List UInt8×Int)) (k:Nat) (s:List UInt8×Int):Bool:=(Z9 s.1&&inR s.2 1 3)&&Z7 (fun _ y=> !decide (s.1=y.1)) 0 (l.take k)
def ZjI (l:List (List UInt8×Int)):Bool:=Z7 (ZjH l) 0 l&&inR l.length 1 8
theorem Zlj (x:List UInt8×Int):ZaB 2 (ZaI x)=true:=rfl
theorem Zku (l:List (List UInt8×Int)) (hl:l.length≤9223372036854775807) (hs:∀s∈l,s.1.length≤9223372036854775807):ZcL [.lst (l.map ZaI)]=some (pB (ZjI l)):=by
 show (fun x0=>ZcL [x0]) _=_
 rw[ZjS]
 simp only[EVS]
 refine (congrArg (Zi true) (ZaK (R:=PV) l (ZjH l) (some (pB false)) (some (pB (inR l.length 1 8))) _ hl (fun again k s hb=> ?_) (fun again=> ?_))).trans ?_
 ·have hk:=Zy hb
  have hi:ZO (.lst (l.map ZaI)) (.int .i64 (k:Int))=some (ZaI s):=ZR hb
  have hc:Zik 2 (.lst (l.map ZaI)) none (some (.int .i64 (k:Int)))=some (.lst ((l.take k).map ZaI)):=Zis Zlj (by omega)
  have hn:=ZjG s.1 (hs s (List.mem_of_getElem? hb))
  simp only[Zcm hk,Z5 hk hl,hi,ZaI,hn,Zbc,ZjH,inR,EVS]
  obtain c1|c1:=(Bool.eq_false_or_eq_true (Z9 s.1)).symm<;>simp only[c1,Zbc,EVS]
  obtain c2|c2:=(Bool.eq_false_or_eq_true (decide (1≤s.2)&&decide (s.2≤3))).symm<;>simp only[c2,EVS]
  simp only[hc,EVS]
  refine (ZaK (R:=PV) (l.take k) (fun _ y=> !decide (s.1=y.1)) (some (pB false)) (again [pI ((k+1:Nat):Int)]) _ (by simp;omega) (fun again' j y hy=> ?_) (fun again'=> ?_)).trans ?_
  ·have hj:=Zy hy
   have hi':ZO (.lst ((l.take k).map ZaI)) (.int .i64 (j:Int))=some (ZaI y):=ZR hy
   simp only[Zcm hj,Z5 hj (by simp;omega),hi',ZaI,EVS]
   cases c3:decide (s.1=y.1)<;>simp only[c3,EVS]
  ·simp only[Zc2,Z5 hk hl,EVS]
  ·rfl
 ·simp only[Zc2,Zbc,inR,EVS]
 ·unfold ZjI
  cases Z7 (ZjH l) 0 l<;>simp only[EVS]
def Ziz (n:Int) (l:List (List UInt8)):Bool:=Z7 (fun _ c=>Zg7 c&&decide ((c.length:Int)=n)) 0 l
def ZjJ (n:Int) (l:List (List UInt8)):Bool:=Ziz n l&&(inR n 1 8&&decide ((l.length:Int)≤60))
theorem ZnA (n:Int) (l:List (List UInt8)) (hl:l.length≤9223372036854775807) (hs:∀s∈l,s.length≤9223372036854775807):ZdH [pI n,.lst (l.map PV.str)]=some (pB (ZjJ n l)):=by
 show (fun x0 x1=>ZdH [x0,x1]) _ _=_
 rw[Zmc]
 simp only[EVS]
 refine (congrArg (Zi true) (ZaK (R:=PV) l (fun _ c=>Zg7 c&&decide ((c.length:Int)=n)) (some (pB false)) (some (pB (inR n 1 8&&decide ((l.length:Int)≤60)))) _ hl (fun again k s hb=> ?_) (fun again=> ?_))).trans ?_
 ·have hk:=Zy hb
  have hi:ZO (.lst (l.map PV.str)) (.int .i64 (k:Int))=some (.str s):=ZR hb
  have hn:=Znz s (hs s (List.mem_of_getElem? hb))
  simp only[Zcm hk,Z5 hk hl,hi,hn,EVS]
  obtain c1|c1:=(Bool.eq_false_or_eq_true (Zg7 s)).symm<;>simp only[c1,EVS]
  obtain c2|c2:=(Bool.eq_false_or_eq_true (decide ((s.length:Int)=n))).symm<;>simp only[c2,EVS]
 ·simp only[Zc2,Zbc,inR,EVS]
  obtain c1|c1:=(Bool.eq_false_or_eq_true (decide (1≤n)&&decide (n≤8))).symm<;>simp only[c1,EVS]
 ·unfold ZjJ Ziz
  cases Z7 (fun _ c=>Zg7 c&&decide ((c.length:Int)=n)) 0 l<;>simp only[EVS]
structure PWire where
 name:List UInt8
 kind:Int
 ins:List (Int×Bool)
 cover:List (List UInt8)
structure PNet where
 signals:List (List UInt8×Int)
 wires:List PWire
abbrev ZaJ (p:Int×Bool):PV:=.agg [pI p.1,pB p.2]
abbrev Zu (w:PWire):PV:=.agg [.str w.name,pI w.kind,.lst (w.ins.map ZaJ),.lst (w.cover.map PV.str)]
abbrev ZP (n:PNet):PV:=.agg [.lst (n.signals.map ZaI),.lst (n.wires.map Zu)]
abbrev Zaa {α:Type} (l:List α):Prop:=l.length≤9223372036854775807
structure PWire.Fit (w:PWire):Prop where
 name:Zaa w.name
 ins:Zaa w.ins
 cover:Zaa w.cover
 cubes:∀c∈w.cover,Zaa c
structure PNet.Fit (n:PNet):Prop where
 signals:Zaa n.signals
 names:∀s∈n.signals,Zaa s.1
 wires:Zaa n.wires
 wire:∀w∈n.wires,w.Fit
def Zf0 (n:PNet) (k:Nat) (p:Int×Bool):Bool:=inR p.1 0 ((n.wires.length:Int) - 1)&& !(decide ((n.signals.length:Int)≤k)&&decide ((k:Int)≤p.1))
def ZdF (k:Nat) (kind:Int) (ins:List (Int×Bool)):Bool:=
 if decide (kind=1)=true then decide ((ins.length:Int)=0)
 else if decide (kind=4)=true then decide ((ins.length:Int)=2)
 else if decide (kind=5)=true then decide ((ins.length:Int)=0)||(match ins with|[p]=>decide (p.1=k)&& !p.2|_=>false)
 else inR ins.length 1 8
def ZnB (n:PNet) (k:Nat) (w:PWire):Bool:=Z7 (fun _ p=>Zf0 n k p) 0 w.ins&&ZdF k w.kind w.ins
theorem ZnC (n:PNet) (k:Nat) (w:PWire) (hn:n.Fit) (hw:w.Fit):ZdI [ZP n,pI k,Zu w]=some (pB (ZnB n k w)):=by
 show (fun x0 x1 x2=>ZdI [x0,x1,x2]) _ _ _=_
 rw[Zme]
 simp only[ZP,Zu,EVS]
 have hwl:IntKind.i64.wrap ((n.wires.length:Int) - 1)=(n.wires.length:Int) - 1:=Zbi (by omega) (by have:=hn.wires;unfold Zaa at this;omega)
 have hi0:=hw.ins
 unfold Zaa at hi0
 refine (congrArg (Zi true) (ZaK (R:=PV) w.ins (fun _ p=>Zf0 n k p) (some (pB false)) (some (pB (ZdF k w.kind w.ins))) _ hi0 (fun again j p hb=> ?_) (fun again=> ?_))).trans ?_
 ·have hk:=Zy hb
  have hi:ZO (.lst (w.ins.map ZaJ)) (.int .i64 (j:Int))=some (ZaJ p):=ZR hb
  simp only[Zcm hk,Z5 hk hi0,hi,ZaJ,hwl,Zbc,Zf0,inR,EVS]
  obtain c1|c1:=(Bool.eq_false_or_eq_true (decide (0≤p.1)&&decide (p.1≤(n.wires.length:Int) - 1))).symm<;>simp only[c1,EVS]
  obtain c2|c2:=(Bool.eq_false_or_eq_true (decide ((n.signals.length:Int)≤(k:Int)))).symm<;>simp only[c2,EVS]
  obtain c3|c3:=(Bool.eq_false_or_eq_true (decide ((k:Int)≤p.1))).symm<;>simp only[c3,EVS]
 ·simp only[Zc2,ZdF,EVS]
  obtain c1|c1:=(Bool.eq_false_or_eq_true (decide (w.kind=1))).symm<;>simp only[c1,EVS]
  obtain c2|c2:=(Bool.eq_false_or_eq_true (decide (w.kind=4))).symm<;>simp only[c2,EVS]
  obtain c3|c3:=(Bool.eq_false_or_eq_true (decide (w.kind=5))).symm<;>simp only[c3,Zbc,inR,EVS]
  have h01:decide ((0:Int)=1)=false:=rfl
  have h00:decide ((0:Int)=0)=true:=rfl
  have h11:decide ((1:Int)=1)=true:=rfl
  have h10:decide ((1:Int)=0)=false:=rfl
  rcases hq:w.ins with _|⟨p,_|⟨q,r⟩⟩
  ·simp only[List.length_nil,h00,EVS]
  ·have hi:ZO (.lst ([p].map ZaJ)) (.int .i64 0)=some (ZaJ p):=rfl
   simp only[List.length_cons,List.length_nil,Nat.zero_add,h11,h10,hi,ZaJ,List.drop_zero,List.drop_succ_cons,EVS]
   obtain c4|c4:=(Bool.eq_false_or_eq_true (decide (p.1=(k:Int)))).symm<;>simp only[c4,h11,h10,hi,ZaJ,List.drop_zero,List.drop_succ_cons,EVS]
  ·have h2:decide (((r.length+1+1:Nat):Int)=0)=false:=by simp;omega
   have h3:decide (((r.length+1+1:Nat):Int)=1)=false:=by simp;omega
   simp only[List.length_cons,h2,h3,EVS]
 ·unfold ZnB
  cases Z7 (fun _ p=>Zf0 n k p) 0 w.ins<;>simp only[EVS]
def Zfn (n:PNet) (k:Nat) (w:PWire):Bool:=match n.signals[k]? with|some s=>decide (w.name=s.1)&&(decide (w.kind=1)==decide (s.2=1))|none=>false
def ZjK (n:PNet) (k:Nat) (w:PWire):Bool:=
 let seen:=decide ((k:Int)<(n.signals.length:Int))
 (inR w.kind 1 5&&(seen||decide (w.kind=2)||decide (w.kind=3)))&&(!seen||Zfn n k w)&&(if decide (w.kind=5)=true then ZjJ n.signals.length w.cover else !decide ((0:Int)<w.cover.length))&&(Z9 w.name&&ZnB n k w)
theorem ZnD (n:PNet) (k:Nat) (w:PWire) (hn:n.Fit) (hw:w.Fit):ZdJ [ZP n,pI k,Zu w]=some (pB (ZjK n k w)):=by
 have g1:=ZnA n.signals.length w.cover hw.cover hw.cubes
 have g2:=ZjG w.name hw.name
 have g3:=ZnC n k w hn hw
 have g4:=Zbc w.kind 1 5
 simp only[ZP,Zu] at g3
 show (fun x0 x1 x2=>ZdJ [x0,x1,x2]) _ _ _=_
 rw[Zmg]
 simp only[ZP,Zu,g4,EVS]
 have fin:∀b:Bool,((some (pB (Z9 w.name&&b))))=(some (pB (Z9 w.name&&b))):=fun _=>rfl
 simp only[ZjK,inR]
 obtain c1|c1:=(Bool.eq_false_or_eq_true (decide (1≤w.kind)&&decide (w.kind≤5))).symm<;>simp only[c1,EVS]
 obtain c2|c2:=(Bool.eq_false_or_eq_true (decide ((k:Int)<(n.signals.length:Int)))).symm<;>simp only[c2,EVS]
 ·obtain c3|c3:=(Bool.eq_false_or_eq_true (decide (w.kind=2))).symm<;>simp only[c3,EVS]
  ·obtain c4|c4:=(Bool.eq_false_or_eq_true (decide (w.kind=3))).symm<;>simp only[c4,EVS]
   have c5:decide (w.kind=5)=false:=by have:=of_decide_eq_true c4;simp;omega
   simp only[c5,EVS]
   obtain c6|c6:=(Bool.eq_false_or_eq_true (decide ((0:Int)<w.cover.length))).symm<;>simp only[c6,g2,EVS]
   obtain c7|c7:=(Bool.eq_false_or_eq_true (Z9 w.name)).symm<;>simp only[c7,g3,EVS]
  ·have c4:decide (w.kind=3)=false:=by have:=of_decide_eq_true c3;simp;omega
   have c5:decide (w.kind=5)=false:=by have:=of_decide_eq_true c3;simp;omega
   simp only[c4,c5,EVS]
   obtain c6|c6:=(Bool.eq_false_or_eq_true (decide ((0:Int)<w.cover.length))).symm<;>simp only[c6,g2,EVS]
   obtain c7|c7:=(Bool.eq_false_or_eq_true (Z9 w.name)).symm<;>simp only[c7,g3,EVS]
 ·have hk:k<n.signals.length:=by have:=of_decide_eq_true c2;omega
  have hs:n.signals[k]?=some n.signals[k]:=List.getElem?_eq_getElem hk
  have hi:ZO (.lst (n.signals.map ZaI)) (.int .i64 (k:Int))=some (ZaI n.signals[k]):=ZR hs
  simp only[Zfn,hs,hi,ZaI,List.drop_zero,List.drop_succ_cons,EVS]
  obtain c3|c3:=(Bool.eq_false_or_eq_true (decide (w.name=n.signals[k].1))).symm<;>simp only[c3,hi,ZaI,List.drop_zero,List.drop_succ_cons,EVS]
  obtain c4|c4:=(Bool.eq_false_or_eq_true (decide (w.kind=1)==decide (n.signals[k].2=1))).symm<;>simp only[bne,c4,hi,ZaI,List.drop_zero,List.drop_succ_cons,EVS]
  obtain c5|c5:=(Bool.eq_false_or_eq_true (decide (w.kind=5))).symm<;>simp only[c5,g1,g2,EVS]
  ·obtain c6|c6:=(Bool.eq_false_or_eq_true (decide ((0:Int)<w.cover.length))).symm<;>simp only[c6,g2,EVS]
   obtain c7|c7:=(Bool.eq_false_or_eq_true (Z9 w.name)).symm<;>simp only[c7,g3,EVS]
  ·obtain c6|c6:=(Bool.eq_false_or_eq_true (ZjJ n.signals.length w.cover)).symm<;>simp only[c5,c6,g2,EVS]
   obtain c7|c7:=(Bool.eq_false_or_eq_true (Z9 w.name)).symm<;>simp only[c5,c7,g3,EVS]
def Zbz (n:PNet) (k:Nat) (w:PWire):Bool:=ZjK n k w&&Z7 (fun _ v=> !decide (v.name=w.name)) 0 (n.wires.take k)
def Zdu (n:PNet):Bool:=ZjI n.signals&&(!decide ((n.wires.length:Int)<n.signals.length)&& !decide ((24:Int)<n.wires.length))&&Z7 (Zbz n) 0 n.wires
theorem ZjL (x:PWire):ZaB 4 (Zu x)=true:=rfl
theorem Zic (n:PNet) (hn:n.Fit):ZcY [ZP n]=some (pB (Zdu n)):=by
 have g1:=Zku n.signals hn.signals hn.names
 have hwl:=hn.wires
 unfold Zaa at hwl
 show (fun x0=>ZcY [x0]) _=_
 rw[Zmi]
 simp only[ZP,g1,EVS]
 unfold Zdu
 obtain c1|c1:=(Bool.eq_false_or_eq_true (ZjI n.signals)).symm<;>simp only[c1,EVS]
 obtain c2|c2:=(Bool.eq_false_or_eq_true (decide ((n.wires.length:Int)<n.signals.length))).symm<;>simp only[c2,EVS]
 obtain c3|c3:=(Bool.eq_false_or_eq_true (decide ((24:Int)<n.wires.length))).symm<;>simp only[c3,EVS]
 refine (congrArg (Zi true) (ZaK (R:=PV) n.wires (Zbz n) (some (pB false)) (some (pB true)) _ hwl (fun again k w hb=> ?_) (fun again=> ?_))).trans ?_
 ·have hk:=Zy hb
  have hi:ZO (.lst (n.wires.map Zu)) (.int .i64 (k:Int))=some (Zu w):=ZR hb
  have hc:Zik 4 (.lst (n.wires.map Zu)) none (some (.int .i64 (k:Int)))=some (.lst ((n.wires.take k).map Zu)):=Zis ZjL (by omega)
  have g3:=ZnD n k w hn (hn.wire w (List.mem_of_getElem? hb))
  simp only[ZP,Zu] at g3
  simp only[Zcm hk,Z5 hk hwl,hi,Zu,Zbz,g3,EVS]
  obtain c4|c4:=(Bool.eq_false_or_eq_true (ZjK n k w)).symm<;>simp only[c4,hc,EVS]
  refine (ZaK (R:=PV) (n.wires.take k) (fun _ v=> !decide (v.name=w.name)) (some (pB false)) (again [pI ((k+1:Nat):Int)]) _ (by simp;omega) (fun again' j y hy=> ?_) (fun again'=> ?_)).trans ?_
  ·have hj:=Zy hy
   have hi':ZO (.lst ((n.wires.take k).map Zu)) (.int .i64 (j:Int))=some (Zu y):=ZR hy
   simp only[Zcm hj,Z5 hj (by simp;omega),hi',Zu,EVS]
   obtain c5|c5:=(Bool.eq_false_or_eq_true (decide (y.name=w.name))).symm<;>simp only[c5,EVS]
  ·simp only[Zc2,Z5 hk hwl,EVS]
  ·rfl
 ·simp only[Zc2,EVS]
 ·cases Z7 (Zbz n) 0 n.wires<;>simp only[EVS]
theorem Zap (n lo hi:Int):Zab [pI n,pI lo,pI hi]=some (pB (inR n lo hi)):=by
 show (fun x0 x1 x2=>Zab [x0,x1,x2]) _ _ _=_
 rw[ZnT]
 unfold inR
 by_cases h:lo≤n<;>simp only[h,EVS]
def ZhO (k:Nat) (b:UInt8):Bool:=(decide ((97:Int)≤b.toNat)&&decide ((b.toNat:Int)≤122))||(!decide ((k:Int)=0)&&(decide ((48:Int)≤b.toNat)&&decide ((b.toNat:Int)≤57)))
def Zl2 (s:List UInt8):Bool:=Z7 ZhO 0 s&&inR s.length 1 6
theorem ZoZ (s:List UInt8) (hs:s.length≤9223372036854775807):ZcE [.str s]=some (pB (Zl2 s)):=by
 show (fun x0=>ZcE [x0]) _=_
 rw[ZnU]
 refine (congrArg (Zi true) (ZaK (R:=PV) s ZhO (some (pB false)) (some (pB (inR s.length 1 6))) _ hs (fun again k b hb=> ?_) (fun again=> ?_))).trans ?_
 ·have hk:=Zy hb
  simp only[ZhO,Zcm hk,Z5 hk hs,Zaj hb,EVS]
  obtain c1|c1:=(Bool.eq_false_or_eq_true (decide ((97:Int)≤b.toNat))).symm<;>simp only[c1,Zaj hb,EVS]
  all_goals (obtain c2|c2:=(Bool.eq_false_or_eq_true (decide ((b.toNat:Int)≤122))).symm<;>try simp only[c2,Zaj hb,EVS])
  all_goals (obtain c3|c3:=(Bool.eq_false_or_eq_true (decide ((48:Int)≤b.toNat))).symm<;>try simp only[c3,Zaj hb,EVS])
  all_goals (obtain c4|c4:=(Bool.eq_false_or_eq_true (decide ((b.toNat:Int)≤57))).symm<;>try simp only[c4,Zaj hb,EVS])
  all_goals (obtain c5|c5:=(Bool.eq_false_or_eq_true (decide ((k:Int)=0))).symm<;>try simp only[c5,EVS])
 ·simp only[Zc2,Zap,EVS]
 ·unfold Zl2
  cases Z7 ZhO 0 s<;>simp only[EVS]
theorem ZjM :∀(l:List UInt8) (k:Nat),Zgo (k==0) l=Z7 ZhO k l
 |[],_=>rfl
 | b::r,k=>by
  have h:=ZjM r (k+1)
  have h1:(k+1==0)=false:=rfl
  rw[h1] at h
  unfold Zgo Z7
  rw[h]
  congr 1
  unfold ZsD ZhO
  have e1:decide ((48:Int)≤b.toNat)= !decide ((b.toNat:Int)<48):=by rw[Bool.eq_iff_iff];simp
  have e2:decide ((b.toNat:Int)≤57)= !decide ((57:Int)<b.toNat):=by rw[Bool.eq_iff_iff];simp
  have e3:decide ((k:Int)=0)=(k==0):=by rw[Bool.eq_iff_iff];simp
  rw[e1,e2,e3]
theorem Ztu (s:List UInt8):Z9 s=Zl2 s:=by
 unfold Z9 Zl2 inR
 rw[←ZjM s 0]
 rfl
theorem Zid (s:List UInt8) (hs:s.length≤9223372036854775807):ZcE [.str s]=some (pB (Z9 s)):=(ZoZ s hs).trans (by rw[Ztu])
def ZdT (s:List UInt8) (n:Int):Bool:=Z7 (fun _ b=>Zib b) 0 s&&(decide ((s.length:Int)=n)&&inR n 1 8)
theorem Zo0 (s:List UInt8) (n:Int) (hs:s.length≤9223372036854775807):ZeH [.str s,pI n]=some (pB (ZdT s n)):=by
 show (fun x0 x1=>ZeH [x0,x1]) _ _=_
 rw[ZnW]
 refine (congrArg (Zi true) (ZaK (R:=PV) s (fun _ b=>Zib b) (some (pB false)) (some (pB (decide ((s.length:Int)=n)&&inR n 1 8))) _ hs (fun again k b hb=> ?_) (fun again=> ?_))).trans ?_
 ·have hk:=Zy hb
  simp only[Zib,Zcm hk,Z5 hk hs,Zaj hb,EVS]
  obtain c1|c1:=(Bool.eq_false_or_eq_true (decide ((b.toNat:Int)=48))).symm<;>simp only[c1,Zaj hb,EVS]
  obtain c2|c2:=(Bool.eq_false_or_eq_true (decide ((b.toNat:Int)=49))).symm<;>simp only[c2,Zaj hb,EVS]
  obtain c3|c3:=(Bool.eq_false_or_eq_true (decide ((b.toNat:Int)=45))).symm<;>simp only[c3,Zaj hb,EVS]
 ·simp only[Zc2,EVS]
  obtain c1|c1:=(Bool.eq_false_or_eq_true (decide ((s.length:Int)=n))).symm<;>simp only[c1,Zap,EVS]
 ·unfold ZdT
  cases Z7 (fun _ b=>Zib b) 0 s<;>simp only[EVS]
def ixf {α:Type} (q:α→Bool):Nat→List α→Int
 |_,[]=> -1
 |k,x::r=>if q x=true then (k:Int) else ixf q (k+1) r
theorem Zp7 {α:Type} (q:α→Bool):∀(l:List α) (k:Nat),rgo (fun k x=>if q x=true then some (some (pI (k:Int))) else none) (some (pI (-1))) k l=some (pI (ixf q k l))
 |[],k=>rfl
 | x::r,k=>by
  unfold rgo ixf
  cases q x
  ·simp[Zp7 q r (k+1)]
  ·simp
theorem Zgp {α:Type} (q:α→Bool):∀(l:List α) (k:Nat),decide ((0:Int)≤ixf q k l)= !Z7 (fun _ x=> !q x) k l
 |[],k=>rfl
 | x::r,k=>by
  unfold ixf Z7
  cases q x
  ·simp[Zgp q r (k+1)]
  ·simp
theorem ZfH {α:Type} (l:List α) (q:α→Bool) (f:(List PV→Option PV)→List PV→Option PV) (hl:l.length≤9223372036854775807)
 (h1:∀again k x,l[k]?=some x→f again [pI (Int.ofNat k)]=if q x=true then some (pI (k:Int)) else again [pI (Int.ofNat (k+1))])
 (h2:∀again,f again [pI (Int.ofNat l.length)]=some (pI (-1))):Z0 f 18446744073709551616 [pI (Int.ofNat 0)]=some (pI (ixf q 0 l)):=by
 rw[ZrB l (fun k x=>if q x=true then some (some (pI (k:Int))) else none) (some (pI (-1))) f hl (fun again k x hx=> ?_) h2,Zp7]
 rw[h1 again k x hx]
 cases q x<;>simp
theorem Zp8 (l:List PV):Ze6 1 (.tup [.agg l])=some [.agg l]:=by simp[Ze6,PV.parts,PV.isU]
theorem ZhP (a x:List UInt8×Int):ZbC [ZaI a,ZaI x]=some (pB (decide (a.1=x.1))):=by
 show (fun x0 x1=>ZbC [x0,x1]) _ _=_
 rw[Zhb]
 simp only[ZaI,List.drop_zero,EVS]
theorem Za1 (l:List (List UInt8×Int)) (x:List UInt8×Int) (hl:Zaa l):Zv [.lst (l.map ZaI),.tup [ZaI x]]=some (pI (ixf (fun a=>decide (a.1=x.1)) 0 l)):=by
 show (fun x0 x1=>Zv [x0,x1]) _ _=_
 rw[ZaY]
 unfold Zaa at hl
 simp only[EVS]
 refine (congrArg (Zi true) (ZfH l (fun a=>decide (a.1=x.1)) _ hl (fun again k a hb=> ?_) (fun again=> ?_))).trans ?_
 ·have hk:=Zy hb
  have hi:ZO (.lst (l.map ZaI)) (.int .i64 (k:Int))=some (ZaI a):=ZR hb
  have g:=ZhP a x
  simp only[ZaI] at g
  simp only[Zcm hk,Z5 hk hl,hi,ZaI,Zp8,List.cons_append,List.nil_append,g,EVS]
 ·simp only[Zc2,EVS]
  rfl
 ·simp only[EVS]
theorem ZaR (l:List (List UInt8×Int)) (x:List UInt8×Int) (hl:Zaa l):Zr [.lst (l.map ZaI),.tup [ZaI x]]=some (pB (!Z7 (fun _ a=> !decide (a.1=x.1)) 0 l)):=by
 show (fun x0 x1=>Zr [x0,x1]) _ _=_
 rw[ZaP]
 simp only[Za1 l x hl,Zgp (fun a:List UInt8×Int=>decide (a.1=x.1)) l 0,EVS]
theorem Zkv (p:Int×Bool) (n:Nat) (hn:n≤9223372036854775807):ZcO [ZaJ p,.agg [pI n]]=some (pB (!inR p.1 0 ((n:Int) - 1))):=by
 have hwl:IntKind.i64.wrap ((n:Int) - 1)=(n:Int) - 1:=Zbi (by omega) (by omega)
 show (fun x0 x1=>ZcO [x0,x1]) _ _=_
 rw[ZjX]
 simp only[ZaJ,hwl,Zap,EVS]
theorem ZbA (l:List (Int×Bool)) (n:Nat) (hn:n≤9223372036854775807) (hl:Zaa l):ZF [.lst (l.map ZaJ),.tup [.agg [pI n]]]=some (pI (ixf (fun p=> !inR p.1 0 ((n:Int) - 1)) 0 l)):=by
 show (fun x0 x1=>ZF [x0,x1]) _ _=_
 rw[Zbq]
 unfold Zaa at hl
 simp only[EVS]
 refine (congrArg (Zi true) (ZfH l (fun p=> !inR p.1 0 ((n:Int) - 1)) _ hl (fun again k a hb=> ?_) (fun again=> ?_))).trans ?_
 ·have hk:=Zy hb
  have hi:ZO (.lst (l.map ZaJ)) (.int .i64 (k:Int))=some (ZaJ a):=ZR hb
  have g:=Zkv a n hn
  simp only[ZaJ] at g
  simp only[Zcm hk,Z5 hk hl,hi,ZaJ,Zp8,List.cons_append,List.nil_append,g,EVS]
 ·simp only[Zc2,EVS]
  rfl
 ·simp only[EVS]
def ZbI (l:List (Int×Bool)) (n:Nat):Bool:=Z7 (fun _ p=>inR p.1 0 ((n:Int) - 1)) 0 l
theorem Zie (l:List (Int×Bool)) (n:Nat) (hn:n≤9223372036854775807) (hl:Zaa l):ZcZ [.lst (l.map ZaJ),pI n]=some (pB (ZbI l n)):=by
 have g:Zz [.lst (l.map ZaJ),.tup [.agg [pI n]]]=some (pB (!Z7 (fun _ p=>inR p.1 0 ((n:Int) - 1)) 0 l)):=by
  show (fun x0 x1=>Zz [x0,x1]) _ _=_
  rw[Zbe]
  simp only[ZbA l n hn hl,Zgp (fun p:Int×Bool=> !inR p.1 0 ((n:Int) - 1)) l 0,Bool.not_not,EVS]
 show (fun x0 x1=>ZcZ [x0,x1]) _ _=_
 rw[Zml]
 have lt:∀{R:Type} (l:List PV) (x:Option R),Za [.tup l] x=x:=fun l x=>(Eq.refl _).trans (Eq.refl _)
 simp only[lt,g,List.drop_zero,Bool.not_not,ZbI,EVS]
theorem Zl3 (w:PWire) (x:List UInt8):Zc8 [Zu w,.agg [.str x]]=some (pB (decide (w.name=x))):=by
 show (fun x0 x1=>Zc8 [x0,x1]) _ _=_
 rw[ZkG]
 simp only[Zu,List.drop_zero,EVS]
theorem ZjN (l:List PWire) (x:List UInt8) (hl:Zaa l):Zds [.lst (l.map Zu),.str x]=some (pI (ixf (fun w:PWire=>decide (w.name=x)) 0 l)):=by
 unfold Zaa at hl
 have g:ZG [.lst (l.map Zu),.tup [.agg [.str x]]]=some (pI (ixf (fun w:PWire=>decide (w.name=x)) 0 l)):=by
  show (fun x0 x1=>ZG [x0,x1]) _ _=_
  rw[Zbs]
  simp only[EVS]
  refine (congrArg (Zi true) (ZfH l (fun w:PWire=>decide (w.name=x)) _ hl (fun again k a hb=> ?_) (fun again=> ?_))).trans ?_
  ·have hk:=Zy hb
   have hi:ZO (.lst (l.map Zu)) (.int .i64 (k:Int))=some (Zu a):=ZR hb
   have g:=Zl3 a x
   simp only[Zu] at g
   simp only[Zcm hk,Z5 hk hl,hi,Zu,Zp8,List.cons_append,List.nil_append,g,EVS]
  ·simp only[Zc2,EVS]
   rfl
  ·simp only[EVS]
 show (fun x0 x1=>Zds [x0,x1]) _ _=_
 rw[ZnZ]
 have lt:∀{R:Type} (l:List PV) (x:Option R),Za [.tup l] x=x:=fun l x=>(Eq.refl _).trans (Eq.refl _)
 simp only[lt,g,List.drop_zero,Bool.not_not,EVS]
theorem Zgq (c:List UInt8) (n:Int) (hc:Zaa c):Za9 [.str c,.agg [pI n]]=some (pB (!ZdT c n)):=by
 show (fun x0 x1=>Za9 [x0,x1]) _ _=_
 rw[ZfQ]
 simp only[Zo0 c n hc,EVS]
theorem ZaU (l:List (List UInt8)) (n:Int) (hl:Zaa l) (hc:∀c∈l,Zaa c):Zt [.lst (l.map PV.str),.tup [.agg [pI n]]]=some (pI (ixf (fun c:List UInt8=> !ZdT c n) 0 l)):=by
 unfold Zaa at hl
 show (fun x0 x1=>Zt [x0,x1]) _ _=_
 rw[ZaT]
 simp only[EVS]
 refine (congrArg (Zi true) (ZfH l (fun c:List UInt8=> !ZdT c n) _ hl (fun again k a hb=> ?_) (fun again=> ?_))).trans ?_
 ·have hk:=Zy hb
  have hi:ZO (.lst (l.map PV.str)) (.int .i64 (k:Int))=some (.str a):=ZR hb
  have g:=Zgq a n (hc a (List.mem_of_getElem? hb))
  simp only[Zcm hk,Z5 hk hl,hi,Zp8,List.cons_append,List.nil_append,g,EVS]
 ·simp only[Zc2,EVS]
  rfl
 ·simp only[EVS]
theorem eqPin (a c:Int) (b d:Bool):eqV (some [(0,TD.int .i64),(1,TD.bool)]) .struct (.agg [pI a,pB b]) (.agg [pI c,pB d])=some (decide (a=c)&&(b==d)):=by
 simp[eqV,Zi0,scEq,ZdP]
theorem Ztv :ZC.bool.pv=pB false:=(Eq.refl _).trans (Eq.refl _)
theorem sp12 (a b c:PV):splice [a,b] 0 [c]=[c,b]:=(Eq.refl _).trans (Eq.refl _)
def ZdU (n:Int) (l:List (List UInt8)):Bool:=(inR n 1 8&&decide ((l.length:Int)≤60))&&Z7 (fun _ c=>ZdT c n) 0 l
def Zdn (n:PNet) (k:Nat) (w:PWire):Bool:=
 if decide (w.kind=1)=true then decide ((w.ins.length:Int)=0)
 else if (decide (w.kind=2)||decide (w.kind=3))=true then inR w.ins.length 1 8
 else if decide (w.kind=4)=true then decide ((w.ins.length:Int)=2)
 else if decide (w.kind=5)=true then ZdU n.signals.length w.cover&&(decide ((w.ins.length:Int)=0)||(match w.ins with|[p]=>decide (p.1=(k:Int))&&(p.2==false)|_=>false))
 else false
def ZnE (n:PNet) (k:Nat) (w:PWire):Bool:= !((!decide (w.kind=5)&&decide ((0:Int)<w.cover.length))|| !ZbI w.ins n.wires.length)&&Zdn n k w
theorem Zo1 (h160:∀(n:Int) (l:List (List UInt8)),Zaa l→(∀c∈l,Zaa c)→ZaZ [pI n,.lst (l.map PV.str)]=some (pB (ZdU n l))) (n:PNet) (k:Nat) (w:PWire) (hn:n.Fit) (hk:n.wires[k]?=some w):ZeI [ZP n,pI k]=some (pB (ZnE n k w)):=by
 have hw:=hn.wire w (List.mem_of_getElem? hk)
 have g1:=h160 n.signals.length w.cover hw.cover hw.cubes
 have hwl:=hn.wires
 unfold Zaa at hwl
 have g2:=Zie w.ins n.wires.length hwl hw.ins
 have hi:ZO (.lst (n.wires.map Zu)) (.int .i64 (k:Int))=some (Zu w):=ZR hk
 show (fun x0 x1=>ZeI [x0,x1]) _ _=_
 rw[ZnY]
 simp only[ZP,hi,Zu,EVS]
 unfold ZnE
 obtain c1|c1:=(Bool.eq_false_or_eq_true (!decide (w.kind=5))).symm<;>simp only[c1,g2,EVS]
 ·obtain c2|c2:=(Bool.eq_false_or_eq_true (ZbI w.ins n.wires.length)).symm<;>simp only[c1,c2,g2,EVS]
  have c5:decide (w.kind=5)=true:=by simpa using c1
  have e1:decide (w.kind=1)=false:=by have:=of_decide_eq_true c5;simp;omega
  have e2:decide (w.kind=2)=false:=by have:=of_decide_eq_true c5;simp;omega
  have e3:decide (w.kind=3)=false:=by have:=of_decide_eq_true c5;simp;omega
  have e4:decide (w.kind=4)=false:=by have:=of_decide_eq_true c5;simp;omega
  simp only[Zd5,Zdn,e1,e2,e3,e4,c5,g1,EVS]
  obtain c3|c3:=(Bool.eq_false_or_eq_true (ZdU n.signals.length w.cover)).symm<;>simp only[c3,EVS]
  have h01:decide ((0:Int)=1)=false:=rfl
  have h00:decide ((0:Int)=0)=true:=rfl
  have h11:decide ((1:Int)=1)=true:=rfl
  have h10:decide ((1:Int)=0)=false:=rfl
  rcases hq:w.ins with _|⟨p,_|⟨q,r⟩⟩
  ·simp only[List.length_nil,h00,EVS]
  ·have hi:ZO (.lst ([p].map ZaJ)) (.int .i64 0)=some (ZaJ p):=rfl
   simp only[List.length_cons,List.length_nil,Nat.zero_add,h11,h10,hi,ZaJ,Ztv,sp12,eqPin,List.drop_zero,List.drop_succ_cons,EVS]
  ·have h2:decide (((r.length+1+1:Nat):Int)=0)=false:=by simp;omega
   have h3:decide (((r.length+1+1:Nat):Int)=1)=false:=by simp;omega
   simp only[List.length_cons,h2,h3,EVS]
 ·have c5:decide (w.kind=5)=false:=by simpa using c1
  obtain c2|c2:=(Bool.eq_false_or_eq_true (decide ((0:Int)<w.cover.length))).symm<;>simp only[c1,c2,g2,EVS]
  obtain c3|c3:=(Bool.eq_false_or_eq_true (ZbI w.ins n.wires.length)).symm<;>simp only[c3,EVS]
  simp only[Zd5,Zdn,c5,EVS]
  obtain e1|e1:=(Bool.eq_false_or_eq_true (decide (w.kind=1))).symm<;>simp only[e1,EVS]
  obtain e2|e2:=(Bool.eq_false_or_eq_true (decide (w.kind=2))).symm<;>simp only[e2,Zap,EVS]
  obtain e3|e3:=(Bool.eq_false_or_eq_true (decide (w.kind=3))).symm<;>simp only[e3,Zap,EVS]
  obtain e4|e4:=(Bool.eq_false_or_eq_true (decide (w.kind=4))).symm<;>simp only[e4,EVS]
theorem ZhQ (n:Int) (l:List (List UInt8)) (hl:Zaa l) (hc:∀c∈l,Zaa c):ZaZ [pI n,.lst (l.map PV.str)]=some (pB (ZdU n l)):=by
 have g:Zq [.lst (l.map PV.str),.tup [.agg [pI n]]]=some (pB (!Z7 (fun _ c=>ZdT c n) 0 l)):=by
  show (fun x0 x1=>Zq [x0,x1]) _ _=_
  rw[ZaD]
  simp only[ZaU l n hl hc,Zgp (fun c:List UInt8=> !ZdT c n) l 0,Bool.not_not,EVS]
 show (fun x0 x1=>ZaZ [x0,x1]) _ _=_
 rw[Zhe]
 simp only[Zap,ZiX,List.drop_zero,ZdU,EVS]
 obtain c1|c1:=(Bool.eq_false_or_eq_true (inR n 1 8)).symm<;>simp only[c1,EVS]
 obtain c2|c2:=(Bool.eq_false_or_eq_true (decide ((l.length:Int)≤60))).symm<;>simp only[c2,ZiX,g,Bool.not_not,EVS]
def ZhR (l:List (List UInt8×Int)) (k:Nat) (s:List UInt8×Int):Bool:=(Z9 s.1&&inR s.2 1 3)&&Z7 (fun _ a=> !decide (a.1=s.1)) 0 (l.take k)
def Zlk (l:List (List UInt8×Int)):Bool:=Z7 (ZhR l) 0 l&&inR l.length 1 8
theorem ZjO (l:List (List UInt8×Int)) (hl:Zaa l) (hs:∀s∈l,Zaa s.1):Zck [.lst (l.map ZaI)]=some (pB (Zlk l)):=by
 unfold Zaa at hl
 show (fun x0=>Zck [x0]) _=_
 rw[Zio]
 simp only[EVS]
 refine (congrArg (Zi true) (ZaK (R:=PV) l (ZhR l) (some (pB false)) (some (pB (inR l.length 1 8))) _ hl (fun again k s hb=> ?_) (fun again=> ?_))).trans ?_
 ·have hk:=Zy hb
  have hi:ZO (.lst (l.map ZaI)) (.int .i64 (k:Int))=some (ZaI s):=ZR hb
  have hc:Zik 2 (.lst (l.map ZaI)) none (some (.int .i64 (k:Int)))=some (.lst ((l.take k).map ZaI)):=Zis Zlj (by omega)
  have hn:=Zid s.1 (hs s (List.mem_of_getElem? hb))
  have g:=ZaR (l.take k) s (by show (l.take k).length≤_;simp;omega)
  simp only[ZaI] at g
  simp only[Zcm hk,Z5 hk hl,hi,ZaI,hn,ZhR,EVS]
  obtain c1|c1:=(Bool.eq_false_or_eq_true (Z9 s.1)).symm<;>simp only[c1,Zap,EVS]
  obtain c2|c2:=(Bool.eq_false_or_eq_true (inR s.2 1 3)).symm<;>simp only[c2,EVS]
  simp only[hc,List.drop_zero,ZiX,g,EVS]
  obtain c3|c3:=(Bool.eq_false_or_eq_true (Z7 (fun _ (a:List UInt8×Int)=> !decide (a.1=s.1)) 0 (l.take k))).symm<;>simp only[c3,EVS]
 ·simp only[Zc2,Zap,EVS]
 ·unfold Zlk
  cases Z7 (ZhR l) 0 l<;>simp only[EVS]
def Zdo (n:PNet) (k:Nat) (w:PWire):Bool:=
 (ZnE n k w&&Z9 w.name&&Z7 (fun _ v=> !decide (v.name=w.name)) 0 (n.wires.take k))&&
 (if decide ((k:Int)<(n.signals.length:Int))=true then Zfn n k w else (decide (w.kind=2)||decide (w.kind=3))&&ZbI w.ins k)
def Zo2 (n:PNet):Bool:=(Zlk n.signals&&inR n.wires.length n.signals.length 24)&&Z7 (Zdo n) 0 n.wires
theorem Zdp (n:PNet) (hn:n.Fit):Zah [ZP n]=some (pB (Zo2 n)):=by
 have g1:=ZjO n.signals hn.signals hn.names
 have hwl:=hn.wires
 unfold Zaa at hwl
 show (fun x0=>Zah [x0]) _=_
 rw[ZfR]
 simp only[ZP,g1,EVS]
 unfold Zo2
 obtain c1|c1:=(Bool.eq_false_or_eq_true (Zlk n.signals)).symm<;>simp only[c1,Zap,EVS]
 obtain c2|c2:=(Bool.eq_false_or_eq_true (inR n.wires.length n.signals.length 24)).symm<;>simp only[c2,EVS]
 refine (congrArg (Zi true) (ZaK (R:=PV) n.wires (Zdo n) (some (pB false)) (some (pB true)) _ hwl (fun again k w hb=> ?_) (fun again=> ?_))).trans ?_
 ·have hk:=Zy hb
  have hw:=hn.wire w (List.mem_of_getElem? hb)
  have hi:ZO (.lst (n.wires.map Zu)) (.int .i64 (k:Int))=some (Zu w):=ZR hb
  have hc:Zik 4 (.lst (n.wires.map Zu)) none (some (.int .i64 (k:Int)))=some (.lst ((n.wires.take k).map Zu)):=Zis ZjL (by omega)
  have g2:=Zo1 ZhQ n k w hn hb
  have g3:=Zid w.name hw.name
  have g4:=ZjN (n.wires.take k) w.name (by show (n.wires.take k).length≤_;simp;omega)
  have g5:=Zie w.ins k (by omega) hw.ins
  simp only[ZP] at g2
  simp only[Zcm hk,Z5 hk hwl,hi,Zu,Zdo,g2,EVS]
  obtain c1|c1:=(Bool.eq_false_or_eq_true (ZnE n k w)).symm<;>simp only[c1,g3,EVS]
  obtain c2|c2:=(Bool.eq_false_or_eq_true (Z9 w.name)).symm<;>simp only[c2,hc,g4,EVS]
  simp only[Zgp (fun v:PWire=>decide (v.name=w.name)) (n.wires.take k) 0]
  obtain c3|c3:=(Bool.eq_false_or_eq_true (Z7 (fun _ (v:PWire)=> !decide (v.name=w.name)) 0 (n.wires.take k))).symm<;>simp only[c3,Zd5,EVS]
  obtain c4|c4:=(Bool.eq_false_or_eq_true (decide ((k:Int)<(n.signals.length:Int)))).symm<;>simp only[c4,EVS]
  ·obtain c5|c5:=(Bool.eq_false_or_eq_true (decide (w.kind=2))).symm<;>simp only[c5,g5,EVS]
   ·obtain c6|c6:=(Bool.eq_false_or_eq_true (decide (w.kind=3))).symm<;>simp only[c6,g5,EVS]
    obtain c7|c7:=(Bool.eq_false_or_eq_true (ZbI w.ins k)).symm<;>simp only[c7,Z5 hk hwl,EVS]
   ·obtain c7|c7:=(Bool.eq_false_or_eq_true (ZbI w.ins k)).symm<;>simp only[c7,Z5 hk hwl,EVS]
  ·have hks:k<n.signals.length:=by have:=of_decide_eq_true c4;omega
   have hs:n.signals[k]?=some n.signals[k]:=List.getElem?_eq_getElem hks
   have hi2:ZO (.lst (n.signals.map ZaI)) (.int .i64 (k:Int))=some (ZaI n.signals[k]):=ZR hs
   simp only[Zfn,hs,hi2,ZaI,List.drop_zero,List.drop_succ_cons,EVS]
   obtain c5|c5:=(Bool.eq_false_or_eq_true (decide (w.name=n.signals[k].1))).symm<;>simp only[c5,hi2,ZaI,List.drop_zero,List.drop_succ_cons,EVS]
   obtain c6|c6:=(Bool.eq_false_or_eq_true (decide (w.kind=1)==decide (n.signals[k].2=1))).symm<;>simp only[bne,c6,Z5 hk hwl,EVS]
 ·simp only[Zc2,EVS]
 ·cases Z7 (Zdo n) 0 n.wires<;>simp only[EVS]
theorem Zed {α:Type} (q:α→Bool):∀(l:List α) (k:Nat),Z7 (fun _ x=>q x) k l=l.all q
 |[],_=>rfl
 |x::r,k=>by unfold Z7;rw[Zed q r (k+1),List.all_cons]
theorem ZcD {α:Type} (f g:Nat→α→Bool) (h:∀k x,f k x=g k x):∀(l:List α) (k:Nat),Z7 f k l=Z7 g k l
 |[],_=>rfl
 |x::r,k=>by unfold Z7;rw[h k x,ZcD f g h r (k+1)]
theorem Ztw (l:List (List UInt8×Int)):ZjI l=Zlk l:=by
 unfold ZjI Zlk
 rw[ZcD (ZjH l) (ZhR l) (fun k x=> ?_) l 0]
 unfold ZjH ZhR
 rw[ZcD (fun _ (y:List UInt8×Int)=> !decide (x.1=y.1)) (fun _ (y:List UInt8×Int)=> !decide (y.1=x.1)) (fun _ y=>by simp[eq_comm]) _ 0]
theorem ZsE (n:Int) (l:List (List UInt8)):ZjJ n l=ZdU n l:=by
 unfold ZjJ ZdU Ziz
 rw[Bool.and_comm,Bool.eq_iff_iff]
 simp only[Bool.and_eq_true]
 refine and_congr_right fun h=> ?_
 rw[ZcD (fun _ c=>Zg7 c&&decide ((c.length:Int)=n)) (fun _ c=>ZdT c n) (fun _ c=> ?_) l 0]
 unfold Zg7 ZdT inR
 rw[Bool.eq_iff_iff]
 simp only[Bool.and_eq_true,decide_eq_true_eq]
 constructor
 ·rintro ⟨⟨h1,h2,h3⟩,h4⟩
  exact ⟨h1,h4,by omega,by omega⟩
 ·rintro ⟨h1,h2,h3,h4⟩
  exact ⟨⟨h1,by omega,by omega⟩,h2⟩
theorem ZqZ (n:PNet) (k:Nat) (l:List (Int×Bool)) (h:k<n.signals.length):Z7 (fun _ p=>Zf0 n k p) 0 l=ZbI l n.wires.length:=by
 unfold ZbI
 refine ZcD _ _ (fun _ p=> ?_) l 0
 unfold Zf0
 have:decide ((n.signals.length:Int)≤k)=false:=by simp;omega
 rw[this]
 simp
theorem Zq0 (n:PNet) (k:Nat) (l:List (Int×Bool)) (h:¬k<n.signals.length):Z7 (fun _ p=>Zf0 n k p) 0 l=(ZbI l n.wires.length&&ZbI l k):=by
 unfold ZbI
 rw[Zed,Zed,Zed,Bool.eq_iff_iff]
 have:decide ((n.signals.length:Int)≤k)=true:=by simp;omega
 simp only[Bool.and_eq_true,List.all_eq_true,Zf0,inR,this,Bool.true_and,Bool.not_eq_true',decide_eq_true_eq,decide_eq_false_iff_not]
 constructor
 ·intro h
  exact ⟨fun p hp=>(h p hp).1,fun p hp=>⟨(h p hp).1.1,by have:=(h p hp).2;omega⟩⟩
 ·rintro ⟨h1,h2⟩ p hp
  exact ⟨h1 p hp,by have:=(h2 p hp).2;omega⟩
theorem Ztx (n:PNet) (k:Nat) (w:PWire):(inR w.kind 1 5&&((if decide (w.kind=5)=true then ZdU n.signals.length w.cover else !decide ((0:Int)<w.cover.length))&&ZdF k w.kind w.ins))=(!(!decide (w.kind=5)&&decide ((0:Int)<w.cover.length))&&Zdn n k w):=by
 unfold ZdF Zdn
 by_cases h1:w.kind=1
 ·simp[h1,inR]
 by_cases h2:w.kind=2
 ·simp[h2,inR]
 by_cases h3:w.kind=3
 ·simp[h3,inR]
 by_cases h4:w.kind=4
 ·simp[h4,inR]
 by_cases h5:w.kind=5
 ·obtain ⟨nm,kd,ins,cov⟩:=w
  simp only at h5
  rcases ins with _|⟨p,_|⟨q,r⟩⟩<;>simp[h5,inR]
 ·have:inR w.kind 1 5=false:=by
   unfold inR
   simp only[Bool.and_eq_false_iff,decide_eq_false_iff_not]
   omega
  simp[this,h1,h2,h3,h4,h5]
theorem Zty (n:PNet) (k:Nat) (w:PWire):Zbz n k w=Zdo n k w:=by
 unfold Zbz Zdo ZjK ZnE ZnB
 have hf:=Ztx n k w
 rw[ZsE]
 by_cases hk:k<n.signals.length
 ·have hd:decide ((k:Int)<(n.signals.length:Int))=true:=by simpa using hk
  rw[ZqZ n k w.ins hk]
  simp only[hd,if_true,Bool.true_or,Bool.not_true,Bool.false_or,Bool.not_false,Bool.false_eq_true,if_false,Bool.true_and]
  revert hf
  generalize inR w.kind 1 5=a1
  generalize (if decide (w.kind=5)=true then ZdU (↑n.signals.length) w.cover else !decide ((0:Int)<↑w.cover.length))=a2
  generalize ZdF k w.kind w.ins=a3
  generalize (!decide (w.kind=5)&&decide ((0:Int)<w.cover.length))=a4
  generalize Zdn n k w=a5
  generalize ZbI w.ins n.wires.length=a6
  generalize Zfn n k w=a7
  generalize Z9 w.name=a8
  generalize Z7 (fun _ (v:PWire)=> !decide (v.name=w.name)) 0 (n.wires.take k)=a9
  cases a1<;>cases a2<;>cases a3<;>cases a4<;>cases a5<;>cases a6<;>cases a7<;>cases a8<;>cases a9<;>decide
 ·have hd:decide ((k:Int)<(n.signals.length:Int))=false:=by simpa using hk
  rw[Zq0 n k w.ins hk]
  simp only[hd,if_true,Bool.true_or,Bool.not_true,Bool.false_or,Bool.not_false,Bool.false_eq_true,if_false,Bool.true_and]
  revert hf
  generalize inR w.kind 1 5=a1
  generalize (if decide (w.kind=5)=true then ZdU (↑n.signals.length) w.cover else !decide ((0:Int)<↑w.cover.length))=a2
  generalize ZdF k w.kind w.ins=a3
  generalize (!decide (w.kind=5)&&decide ((0:Int)<w.cover.length))=a4
  generalize Zdn n k w=a5
  generalize ZbI w.ins n.wires.length=a6
  generalize Z9 w.name=a8
  generalize ZbI w.ins k=a7
  generalize decide (w.kind=2)=b2
  generalize decide (w.kind=3)=b3
  generalize Z7 (fun _ (v:PWire)=> !decide (v.name=w.name)) 0 (n.wires.take k)=a9
  cases a1<;>cases a2<;>cases a3<;>cases a4<;>cases a5<;>cases a6<;>cases a7<;>cases a8<;>cases a9<;>cases b2<;>cases b3<;>decide
theorem ZsF (n:PNet):Zdu n=Zo2 n:=by
 unfold Zdu Zo2
 rw[Ztw,ZcD (Zbz n) (Zdo n) (fun k x=>Zty n k x) n.wires 0]
 congr 2
 unfold inR
 rw[Bool.eq_iff_iff]
 simp
theorem ZiA {α:Type} (q:Nat→α→Bool):∀(l:List α) (j:Nat),Z7 q j l=true→∀(i:Nat) (x:α),l[i]?=some x→q (j+i) x=true
 |[],j,_,i,x,hx=>by simp at hx
 | y::r,j,h,i,x,hx=>by
  unfold Z7 at h
  rw[Bool.and_eq_true] at h
  cases i with
  |zero=>simp at hx;subst hx;simpa using h.1
  | succ i=>
   have:=ZiA q r (j+1) h.2 i x (by simpa using hx)
   rw[show j+(i+1)=j+1+i by omega]
   exact this
theorem ZnF {α:Type} (q:α→Bool) {l:List α} (h:Z7 (fun _ x=>q x) 0 l=true) {x:α} (hx:x∈l):q x=true:=by
 rw[Zed] at h
 exact List.all_eq_true.1 h x hx
structure PGate where
 sig:Int
 kind:Int
 set:List (List UInt8)
 reset:List (List UInt8)
structure PCirc where
 signals:List (List UInt8×Int)
 gates:List PGate
structure PGate.Fit (g:PGate):Prop where
 set:Zaa g.set
 sets:∀c∈g.set,Zaa c
 reset:Zaa g.reset
 resets:∀c∈g.reset,Zaa c
structure PCirc.Fit (c:PCirc):Prop where
 signals:Zaa c.signals
 names:∀s∈c.signals,Zaa s.1
 gates:Zaa c.gates
 gate:∀g∈c.gates,g.Fit
theorem ZcX {R:Type} (b:Nat) (st:Nat→List PV) (e:Option R) (f:(List PV→Option R)→List PV→Option R) (hm:b≤9223372036854775807) (h1:∀again k,k<b→f again (st k)=again (st (k+1))) (h2:∀again,f again (st b)=e) (J:List PV) (hJ:st 0=J):Z0 f 18446744073709551616 J=e:=by
 subst hJ
 exact Zd7 (R:=R) (fun k:{k:Nat // k≤b}=>st k.1) (fun k=>b+1 - k.1) (fun _=>e) f (fun again k ih=>by
  obtain ⟨k,hk⟩:=k
  dsimp only at ih⊢
  by_cases c:k<b
  ·rw[h1 again k c];exact ih ⟨k+1,c⟩ (by simp only;omega)
  ·obtain rfl:k=b:=by omega
   exact h2 again) 18446744073709551616 ⟨0,Nat.zero_le _⟩ (by simp only;omega)
theorem u8_dec :∀d:Fin 10,IntKind.u8.wrap (IntKind.i64.wrap (48+(d.1:Int)))=((UInt8.ofNat (48+d.1)).toNat:Int):=by decide
theorem dgt (d:Nat) (h:d<10):Zk6 IntKind.u8 (.int .i64 (IntKind.i64.wrap (48+(d:Int))))=some (pU (UInt8.ofNat (48+d))):=congrArg (fun n=>some (PV.int .u8 n)) (u8_dec ⟨d,h⟩)
theorem quo10 (u:Nat) (h:u≤9223372036854775807):Zf .quo (TD.int .i64) (pI (u:Int)) (pI 10)=some (pI ((u / 10:Nat):Int)):=by
 show (if (10:Int)=0 then none else some (PV.int .i64 (IntKind.i64.wrap ((u:Int).tdiv 10))))=_
 have e:(u:Int).tdiv 10=((u / 10:Nat):Int):=rfl
 rw[if_neg (by omega),e,Zbi (by omega) (by omega)]
theorem rem10 (u:Nat):Zf .rem (TD.int .i64) (pI (u:Int)) (pI 10)=some (pI ((u % 10:Nat):Int)):=by
 show (if (10:Int)=0 then none else some (PV.int .i64 ((u:Int).tmod 10)))=_
 have e:(u:Int).tmod 10=((u % 10:Nat):Int):=rfl
 rw[if_neg (by omega),e]
theorem Zl4 :∀(f u:Nat),u<10 ^ f→(Lib.decDigits u).length≤f+1
 | 0,u,h=>by
  have:u=0:=by simpa using h
  subst this
  rw[Lib.decDigits_one (by omega)];simp
 | f+1,u,h=>by
  by_cases c:u<10
  ·rw[Lib.decDigits_one c];simp
  ·rw[Lib.decDigits,dif_neg c,List.length_append]
   have:10 ^ (f+1)=10 * 10 ^ f:=by rw[Nat.pow_succ,Nat.mul_comm]
   have:=Zl4 f (u / 10) (by omega)
   simp only[List.length_cons,List.length_nil];omega
theorem num_n (k:Nat):∀(f u:Nat),u<10 ^ (f+1)→u≤100000000→Zb4 (f+k+1) [pI (u:Int)]=some (.str (Lib.decDigits u)):=by
 intro f
 induction f with
 | zero=>
  intro u h _
  show (fun x0=>Zb4 (0+k+1) [x0]) _=_
  rw[ZjT]
  have hu:u<10:=by simpa using h
  have c:decide ((u:Int)<10)=true:=by simp;omega
  have g:=dgt u hu
  simp only[c,g,EVS]
  rw[Lib.decDigits_one hu]
 | succ f ih=>
  intro u h hu
  have hp:10 ^ (f+1+1)=10 * 10 ^ (f+1):=by rw[Nat.pow_succ,Nat.mul_comm]
  show (fun x0=>Zb4 (f+1+k+1) [x0]) _=_
  rw[ZjT,show f+1+k=f+k+1 by omega]
  by_cases c0:u<10
  ·have c:decide ((u:Int)<10)=true:=by simp;omega
   have g:=dgt u c0
   simp only[c,g,EVS]
   rw[Lib.decDigits_one c0]
  ·have c:decide ((u:Int)<10)=false:=by simp;omega
   have q:=quo10 u (by omega)
   have r:=rem10 u
   have g:=dgt (u % 10) (by omega)
   have i1:=ih (u / 10) (by omega) (by omega)
   have hl:=Zl4 8 (u / 10) (by omega)
   have ha:Zf .add TD.str (.str (Lib.decDigits (u / 10))) (.str [UInt8.ofNat (48+u % 10)])=some (.str (Lib.decDigits (u / 10)++[UInt8.ofNat (48+u % 10)])):=ZrU (by simp;omega)
   simp only[c,q,r,g,i1,ha,EVS]
   rw[Lib.decDigits.eq_1 u,dif_neg c0]
theorem Zq1 (u:Nat) (h:u≤9999999):ZhS [pI (u:Int)]=some (.str (Lib.itoa (u:Int))):=by
 rw[Lib.itoa,if_neg (by omega),Int.toNat_natCast]
 exact num_n 57 6 u (by omega) (by omega)
theorem ZsG (u:Nat) (h:u≤9999999):ZbE [pI (u:Int)]=some (.str (Lib.itoa (u:Int))):=if_pos (by omega)
theorem Zp9 (u:Nat) (h:u≤9999999):(Lib.itoa (u:Int)).length≤8:=by
 rw[Lib.itoa,if_neg (by omega),Int.toNat_natCast]
 exact Zl4 7 u (by omega)
theorem ag4 (a b c d:PV):aggL 4 (.agg [a,b,c,d])=some (.lst [.agg [a,b,c,d]]):=(Eq.refl _).trans (Eq.refl _)
theorem ne1 (x:PV):neL [x]=some [x]:=(Eq.refl _).trans (Eq.refl _)
theorem ZdV (cs l:List PV) (n:Nat):Zfd cs n (.agg l)=some (.agg (splice cs n l)):=(Eq.refl _).trans (Eq.refl _)
theorem len1 (x:PV):[x].length=1:=(Eq.refl _).trans (Eq.refl _)
structure NetIn (n:PNet):Prop where
 s8:n.signals.length≤8
 sig:∀s∈n.signals,s.1.length≤6∧1≤s.2∧s.2≤3
 w24:n.wires.length≤24
 wire:∀w∈n.wires,w.name.length≤6∧(1≤w.kind∧w.kind≤5)∧w.ins.length≤8∧(∀p∈w.ins,0≤p.1∧p.1<24)∧w.cover.length≤60∧∀c∈w.cover,c.length≤8
theorem NetIn.nil :NetIn ⟨[],[]⟩:=⟨by simp,by simp,by simp,by simp⟩
theorem nm6 {s:List UInt8} (h:Z9 s=true):s.length≤6:=by
 unfold Z9 at h
 simp only[Bool.and_eq_true,decide_eq_true_eq] at h
 omega
theorem Zif {n:PNet} (h:Zdu n=true):NetIn n:=by
 unfold Zdu at h
 simp only[Bool.and_eq_true,Bool.not_eq_true',decide_eq_false_iff_not] at h
 obtain ⟨⟨h1,h2,h3⟩,h4⟩:=h
 unfold ZjI at h1
 simp only[Bool.and_eq_true] at h1
 obtain ⟨hs1,hs2⟩:=h1
 unfold inR at hs2
 simp only[Bool.and_eq_true,decide_eq_true_eq] at hs2
 refine ⟨by omega,fun s hs=> ?_,by omega,fun w hw=> ?_⟩
 ·obtain ⟨k,hk⟩:=List.getElem?_of_mem hs
  have hsk:=ZiA _ n.signals 0 hs1 k s hk
  unfold ZjH inR at hsk
  simp only[Bool.and_eq_true,decide_eq_true_eq] at hsk
  exact ⟨nm6 hsk.1.1,hsk.1.2⟩
 ·obtain ⟨k,hk⟩:=List.getElem?_of_mem hw
  have hk:=ZiA _ _ _ h4 k _ hk
  rw[Nat.zero_add] at hk
  unfold Zbz ZjK ZnB inR at hk
  simp only[Bool.and_eq_true,decide_eq_true_eq] at hk
  obtain ⟨⟨⟨⟨⟨hkd,_⟩,_⟩,hcov⟩,hnm,hpins,hform⟩,_⟩:=hk
  refine ⟨nm6 hnm,hkd, ?_,fun p hp=> ?_, ?_⟩
  ·unfold ZdF inR at hform
   split at hform
   ·simp only[decide_eq_true_eq] at hform;omega
   ·split at hform
    ·simp only[decide_eq_true_eq] at hform;omega
    ·split at hform
     ·simp only[Bool.or_eq_true,decide_eq_true_eq] at hform
      rcases hform with h0|h1
      ·omega
      ·split at h1
       ·rename_i he;rw[he];simp
       ·cases h1
     ·simp only[Bool.and_eq_true,decide_eq_true_eq] at hform;omega
  ·have:=ZnF (fun p=>Zf0 n k p) hpins hp
   unfold Zf0 inR at this
   simp only[Bool.and_eq_true,decide_eq_true_eq] at this
   omega
  ·split at hcov
   ·unfold ZjJ Ziz inR at hcov
    simp only[Bool.and_eq_true,decide_eq_true_eq] at hcov
    refine ⟨by omega,fun c hc=> ?_⟩
    have:=ZnF (fun c=>Zg7 c&&decide ((c.length:Int)=n.signals.length)) hcov.1 hc
    simp only[Bool.and_eq_true,decide_eq_true_eq] at this
    omega
   ·simp only[Bool.not_eq_true',decide_eq_false_iff_not] at hcov
    have:w.cover=[]:=List.eq_nil_of_length_eq_zero (by omega)
    rw[this]
    simp
theorem ZsH (l:List (Int×Bool)):(l.map ZaJ).all (ZaB 2)=true:=by
 rw[List.all_eq_true]
 intro x hx
 obtain ⟨p,_,rfl⟩:=List.mem_map.1 hx
 rfl
theorem okStr (l:List (List UInt8)):(l.map PV.str).all (ZaB 1)=true:=by
 rw[List.all_eq_true]
 intro x hx
 obtain ⟨p,_,rfl⟩:=List.mem_map.1 hx
 rfl
theorem ZsI (l:List (List UInt8×Int)):(l.map ZaI).all (ZaB 2)=true:=by
 rw[List.all_eq_true]
 intro x hx
 obtain ⟨p,_,rfl⟩:=List.mem_map.1 hx
 rfl
theorem Zim (n:PNet) (hn:NetIn n):Zbf [ZP n]=some (ZP n):=by
 show (fun x0=>Zbf [x0]) _=_
 rw[ZhW]
 obtain ⟨h1,h2,h3,h4⟩:=hn
 have hls:([]:List PV).length+n.signals.length≤4294967296∧(n.signals.map ZaI).all (ZaB 2)=true:=⟨by simp;omega,ZsI _⟩
 have hp1:∀a b a':PV,splice [a,b] 0 [a']=[a',b]:=fun _ _ _=>rfl
 have hs4:∀a b c d a' b' c' d':PV,splice (splice (splice (splice [a,b,c,d] 0 [a']) 1 [b']) 2 [c']) 3 [d']=[a',b',c',d']:=fun _ _ _ _ _ _ _ _=>rfl
 have hst2:∀a b b':PV,[a,b].set 1 b'=[a,b']:=fun _ _ _=>rfl
 simp only[ZP,if_pos hls,hp1,ZdV,List.nil_append,EVS]
 refine ZcX (R:=PV) n.wires.length (fun k=>[ZP ⟨n.signals,n.wires.take k⟩,pI (Int.ofNat k)]) _ _ (by omega) (fun again k k2=> ?_) (fun again=> ?_) _ (by rw[List.take_zero];rfl)
 ·have hck:n.wires[k]?=some n.wires[k]:=List.getElem?_eq_getElem k2
  have hx:ZO (.lst (n.wires.map Zu)) (.int .i64 (k:Int))=some (Zu n.wires[k]):=ZR hck
  have hwl:=h4 _ (List.getElem_mem k2)
  have hnx:=Z5 k2 (show n.wires.length≤9223372036854775807 by omega)
  have hlp:([]:List PV).length+n.wires[k].ins.length≤4294967296∧(n.wires[k].ins.map ZaJ).all (ZaB 2)=true:=⟨by simp;omega,ZsH _⟩
  have hlc:([]:List PV).length+n.wires[k].cover.length≤4294967296∧(n.wires[k].cover.map PV.str).all (ZaB 1)=true:=⟨by simp;omega,okStr _⟩
  have htl:(n.wires.take k).length=k:=by simp;omega
  have hlb:(n.wires.take k).length+1≤4294967296:=by omega
  have htk:n.wires.take (k+1)=n.wires.take k++[n.wires[k]]:=List.take_succ_eq_append_getElem k2
  simp only[Zcm k2,hx,ZP,Zu,if_pos hlp,if_pos hlc,hs4,ZfX,ag4,ne1,len1,List.length_map,if_pos hlb,hst2,hnx,List.nil_append,EVS]
  rw[htk]
  simp only[List.map_append,List.map_cons,List.map_nil,EVS]
 ·simp only[Zc2,List.take_length,ZP,hp1,ZdV,EVS]
theorem ZnG (l:List (List UInt8)) (hl:l.length≤100000):ZeC [.lst (l.map PV.str)]=some (.lst (l.map PV.str)):=by
 show (fun x0=>ZeC [x0]) _=_
 rw[ZnP]
 have h1:([]:List PV).length+l.length≤4294967296∧(l.map PV.str).all (ZaB 1)=true:=⟨by simp;omega,okStr _⟩
 simp only[if_pos h1,List.nil_append,EVS]
theorem Zo3 (n:PNet) (hn:NetIn n):ZeD [ZP n]=some (ZP n):=by
 show (fun x0=>ZeD [x0]) _=_
 rw[ZnR]
 obtain ⟨h1,h2,h3,h4⟩:=hn
 have hls:([]:List PV).length+n.signals.length≤4294967296∧(n.signals.map ZaI).all (ZaB 2)=true:=⟨by simp;omega,ZsI _⟩
 have hp1:∀a b a':PV,splice [a,b] 0 [a']=[a',b]:=fun _ _ _=>rfl
 have hp2:∀a b a' b':PV,splice [a,b] 0 [a',b']=[a',b']:=fun _ _ _ _=>rfl
 have hs4:∀a b c d a' b' c' d':PV,splice (splice (splice (splice [a,b,c,d] 0 [a']) 1 [b']) 2 [c']) 3 [d']=[a',b',c',d']:=fun _ _ _ _ _ _ _ _=>rfl
 have hst2:∀a b b':PV,[a,b].set 1 b'=[a,b']:=fun _ _ _=>rfl
 simp only[ZP,if_pos hls,hp1,ZdV,List.nil_append,EVS]
 refine ZcX (R:=PV) n.wires.length (fun k=>[ZP ⟨n.signals,n.wires.take k⟩,pI (Int.ofNat k)]) _ _ (by omega) (fun again k k2=> ?_) (fun again=> ?_) _ (by rw[List.take_zero];rfl)
 ·have hck:n.wires[k]?=some n.wires[k]:=List.getElem?_eq_getElem k2
  have hx:ZO (.lst (n.wires.map Zu)) (.int .i64 (k:Int))=some (Zu n.wires[k]):=ZR hck
  have hwl:=h4 _ (List.getElem_mem k2)
  have hnx:=Z5 k2 (show n.wires.length≤9223372036854775807 by omega)
  have hlp:([]:List PV).length+n.wires[k].ins.length≤4294967296∧(n.wires[k].ins.map ZaJ).all (ZaB 2)=true:=⟨by simp;omega,ZsH _⟩
  have g1:=ZnG n.wires[k].cover (by omega)
  have htl:(n.wires.take k).length=k:=by simp;omega
  have hlb:∀a b c d:PV,(n.wires.take k).length+1≤4294967296∧[PV.agg [a,b,c,d]].all (ZaB 4)=true:=fun _ _ _ _=>⟨by omega,rfl⟩
  have hal:∀a b c d:PV,([PV.agg [a,b,c,d]].all fun x=>ZaB 4 x)=true:=fun _ _ _ _=>rfl
  have htk:n.wires.take (k+1)=n.wires.take k++[n.wires[k]]:=List.take_succ_eq_append_getElem k2
  simp only[Zcm k2,hx,ZP,Zu,if_pos hlp,g1,hs4,ZfX,len1,List.length_map,if_pos (hal _ _ _ _),if_pos (hlb _ _ _ _),hst2,hnx,List.nil_append,EVS]
  rw[htk]
  simp only[List.map_append,List.map_cons,List.map_nil,EVS]
 ·simp only[Zc2,List.take_length,ZP,hp1,hp2,ZdV,EVS]
def Zc5 (k:Int) (p:Int×Bool):Int×Bool:=if decide (k≤p.1)=true then (p.1+1,p.2) else p
def Zgr (k:Int) (w:PWire):PWire:={w with ins:=w.ins.map (Zc5 k)}
theorem se_pin (a c:Int) (b:Bool):Za8 0 1 [pI a,pB b] (.agg [pI a,pB b]) (.int .i64 c)=some (.agg [pI c,pB b]):=(Eq.refl _).trans (Eq.refl _)
theorem Zg8 (w:PWire) (k:Int) (hi:w.ins.length≤100000) (hp:∀p∈w.ins, -1000000≤p.1∧p.1≤1000000):ZbB [Zu w,pI k]=some (Zu (Zgr k w)):=by
 show (fun x0 x1=>ZbB [x0,x1]) _ _=_
 rw[ZkC]
 have hlp:([]:List PV).length+w.ins.length≤4294967296∧(w.ins.map ZaJ).all (ZaB 2)=true:=⟨by simp;omega,ZsH _⟩
 have hs4:∀a b c d a' b' c' d':PV,splice [a,b,c,d] 0 [a',b',c',d']=[a',b',c',d']:=fun _ _ _ _ _ _ _ _=>rfl
 have hst2:∀a b c d b':PV,[a,b,c,d].set 2 b'=[a,b,b',d]:=fun _ _ _ _ _=>rfl
 simp only[Zu,if_pos hlp,hs4,hst2,ZdV,ZfX,List.nil_append,List.length_map,EVS]
 refine ZcX (R:=PV) w.ins.length (fun i=>[Zu {w with ins:=ZcI (Zc5 k) w.ins i},pI (Int.ofNat i)]) _ _ (by omega) (fun again i i2=> ?_) (fun again=> ?_) _ (by rw[ZsS];rfl)
 ·have hck:w.ins[i]?=some w.ins[i]:=List.getElem?_eq_getElem i2
  have hpi:=hp _ (List.getElem_mem i2)
  have hg:=ZcR (f:=Zc5 k) hck
  have hset:=ZiB (f:=Zc5 k) hck
  have hsame:=Zn2 (f:=Zc5 k) hck
  have hml:=Zmn (Zc5 k) w.ins i
  have hnx:=Z5 i2 (show w.ins.length≤9223372036854775807 by omega)
  have hpl:Zjm ((ZcI (Zc5 k) w.ins i).map ZaJ) (.int .i64 (i:Int))=some (.int .i64 (i:Int)):=plc_at (by rw[List.length_map];omega)
  have hgm:((ZcI (Zc5 k) w.ins i).map ZaJ)[i]?=some (ZaJ w.ins[i]):=by rw[List.getElem?_map,hg];rfl
  cases c:decide (k≤w.ins[i].1)
  ·have e1:Zc5 k w.ins[i]=w.ins[i]:=by unfold Zc5;rw[c];rfl
   simp only[Zcm i2,Zu,hpl,hgm,ZaJ,Int.toNat_natCast,c,hnx,hsame e1,Bool.false_eq_true,if_false,EVS]
  ·have e1:Zc5 k w.ins[i]=(w.ins[i].1+1,w.ins[i].2):=by unfold Zc5;rw[c];rfl
   have hw:IntKind.i64.wrap (w.ins[i].1+1)=w.ins[i].1+1:=Zbi (by omega) (by omega)
   rw[e1] at hset
   have hsm:((ZcI (Zc5 k) w.ins i).map ZaJ).set i (ZaJ (w.ins[i].1+1,w.ins[i].2))=(ZcI (Zc5 k) w.ins (i+1)).map ZaJ:=by rw[←hset,List.map_set]
   simp only[ZaJ] at hsm
   simp only[Zcm i2,Zu,hpl,hgm,ZaJ,Int.toNat_natCast,c,hw,se_pin,hsm,hst2,hnx,if_true,EVS]
 ·simp only[Zc2,Zu,Zmo,hs4,ZdV,ZfX,Zgr,EVS]
def fnm (i:Nat):List UInt8:=120::Lib.itoa (i:Int)
def Zl5 (n:PNet) (i:Nat):Bool:=n.wires.any fun w=>decide (w.name=fnm i)
def Zfo (p:Nat→Bool):Nat→Nat→Nat
 |0,k=>k
 |f+1,k=>if p k=true then k else Zfo p f (k+1)
theorem Zll (p:Nat→Bool):∀(f k:Nat),p (k+f)=true→p (Zfo p f k)=true∧k≤Zfo p f k∧Zfo p f k≤k+f∧∀i,k≤i→i<Zfo p f k→p i=false
 |0,k,h=>⟨h,Nat.le_refl _,Nat.le_refl _,fun i h1 h2=>absurd h2 (by unfold Zfo;omega)⟩
 | f+1,k,h=>by
  unfold Zfo
  by_cases c:p k=true
  ·rw[if_pos c];exact ⟨c,Nat.le_refl _,by omega,fun i h1 h2=>by omega⟩
  ·rw[if_neg c]
   obtain ⟨a,b,d,e⟩:=Zll p f (k+1) (by rw[show k+1+f=k+(f+1) by omega];exact h)
   refine ⟨a,by omega,by omega,fun i h1 h2=> ?_⟩
   by_cases ci:i=k
   ·subst ci;simpa using c
   ·exact e i (by omega) h2
def frN (n:PNet):Nat:=Zfo (fun i=> !Zl5 n i) 100000 0
theorem Ztz {n:PNet} (h:Zdu n=true):∀w∈n.wires,w.name.length≤6:=by
 intro w hw
 obtain ⟨k,hk⟩:=List.mem_iff_getElem?.1 hw
 unfold Zdu at h
 simp only[Bool.and_eq_true] at h
 have:=ZiA _ _ _ h.2 k _ hk
 rw[Nat.zero_add] at this
 unfold Zbz ZjK at this
 simp only[Bool.and_eq_true] at this
 have hn:=this.1.2.1
 unfold Z9 at hn
 simp only[Bool.and_eq_true,decide_eq_true_eq] at hn
 omega
theorem ZsJ :∀(f u:Nat),10 ^ f≤u→f+1≤(Lib.decDigits u).length
 | 0,u,h=>by
  by_cases c:u<10
  ·rw[Lib.decDigits_one c];simp
  ·rw[Lib.decDigits,dif_neg c,List.length_append];simp
 | f+1,u,h=>by
  have:10 ^ (f+1)=10 * 10 ^ f:=by rw[Nat.pow_succ,Nat.mul_comm]
  have h1:1≤10 ^ f:=Nat.one_le_pow _ _ (by omega)
  have c:¬u<10:=by omega
  rw[Lib.decDigits,dif_neg c,List.length_append]
  have:=ZsJ f (u / 10) (by omega)
  simp only[List.length_cons,List.length_nil];omega
theorem Zq3 {n:PNet} (h:Zdu n=true):Zl5 n 100000=false:=by
 unfold Zl5
 rw[List.any_eq_false]
 intro w hw he
 have h6:=Ztz h w hw
 simp only[decide_eq_true_eq] at he
 rw[he] at h6
 have:=ZsJ 5 100000 (by omega)
 unfold fnm Lib.itoa at h6
 rw[if_neg (by omega)] at h6
 simp only[List.length_cons] at h6
 have e:((100000:Nat):Int).toNat=100000:=rfl
 rw[e] at h6
 omega
theorem Zo4 {n:PNet} (h:Zdu n=true):Zl5 n (frN n)=false∧frN n≤100000∧∀i,i<frN n→Zl5 n i=true:=by
 obtain ⟨a,b,c,d⟩:=Zll (fun i=> !Zl5 n i) 100000 0 (by rw[Nat.zero_add];simp[Zq3 h])
 have a':(!Zl5 n (frN n))=true:=a
 exact ⟨by simpa using a',by rw[Nat.zero_add] at c;exact c,fun i hi=>by simpa using d i (Nat.zero_le _) hi⟩
theorem Zqa (n:PNet) (i:Nat):decide (ixf (fun w:PWire=>decide (w.name=fnm i)) 0 n.wires<0)= !Zl5 n i:=by
 have h:=Zgp (fun w:PWire=>decide (w.name=fnm i)) n.wires 0
 rw[Zed,List.not_all_eq_any_not] at h
 simp only[Bool.not_not] at h
 unfold Zl5
 rw[←h,Bool.eq_iff_iff]
 simp only[decide_eq_true_eq,Bool.not_eq_true',decide_eq_false_iff_not]
 omega
theorem Zq4 (l:List PWire) (x:List UInt8) (hl:Zaa l):ZfI [.lst (l.map Zu),.str x]=some (pI (ixf (fun w:PWire=>decide (w.name=x)) 0 l)):=by
 unfold Zaa at hl
 show (fun x0 x1=>ZfI [x0,x1]) _ _=_
 rw[Zpb]
 simp only[EVS]
 refine (congrArg (Zi true) (ZfH l (fun w:PWire=>decide (w.name=x)) _ hl (fun again k a hb=> ?_) (fun again=> ?_))).trans ?_
 ·have hk:=Zy hb
  have hi:ZO (.lst (l.map Zu)) (.int .i64 (k:Int))=some (Zu a):=ZR hb
  have hs:∀a b c d a' b' c' d':PV,splice [a,b,c,d] 0 [a',b',c',d']=[a',b',c',d']:=fun _ _ _ _ _ _ _ _=>rfl
  cases c:decide (a.name=x)<;>simp only[Zcm hk,Z5 hk hl,hi,Zu,hs,c,Bool.false_eq_true,if_false,if_true,EVS]
 ·simp only[Zc2,EVS]
  rfl
 ·simp only[EVS]
theorem Zlm (i:Nat) (h:i≤100000):Zf .add TD.str (.str [120]) (.str (Lib.itoa (i:Int)))=some (.str (fnm i)):=by
 have:=Zp9 i (by omega)
 exact ZrU (by simp;omega)
theorem ZnH (n:PNet) (hn:n.Fit) (h:Zdu n=true):ZdK [ZP n]=some (.str (fnm (frN n))):=by
 obtain ⟨f1,f2,f3⟩:=Zo4 h
 show (fun x0=>ZdK [x0]) _=_
 rw[Zmk]
 simp only[ZP,EVS]
 refine (congrArg (fun m:Option PV=>m.bind fun r=>if r.sc=true then some r else none) (Zd7 (R:=PV) (fun k:{k:Nat // k≤frN n}=>[pI (Int.ofNat k.1)]) (fun k=>frN n+1 - k.1) (fun _=>some (.str (fnm (frN n)))) _ (fun again k ih=> ?_) 18446744073709551616 ⟨0,Nat.zero_le _⟩ (by simp only;omega))).trans ?_
 ·obtain ⟨k,hk⟩:=k
  dsimp only at ih⊢
  have n1:=Zq1 k (by omega)
  have a1:=Zlm k (by omega)
  have g:=Zq4 n.wires (fnm k) hn.wires
  have hx:=Zqa n k
  have hw:IntKind.i64.wrap ((k:Int)+1)=((k+1:Nat):Int):=by rw[Zbi (by omega) (by omega)];omega
  by_cases c:k=frN n
  ·subst c
   rw[f1] at hx
   simp only[n1,a1,g,hx,Bool.not_false,EVS]
  ·have:=f3 k (by omega)
   rw[this] at hx
   simp only[n1,a1,g,hx,hw,Bool.not_true,EVS]
   exact ih ⟨k+1,by omega⟩ (by simp only;omega)
 ·simp only[EVS]
theorem Zkw (n:PNet) (hn:n.Fit) (h:Zdu n=true):ZbO [ZP n]=some (.str (fnm (frN n))):=by
 obtain ⟨f1,f2,f3⟩:=Zo4 h
 show (fun x0=>ZbO [x0]) _=_
 rw[ZjZ]
 simp only[ZP,EVS]
 refine (congrArg (fun m:Option PV=>m.bind fun r=>if r.sc=true then some r else none) (Zd7 (R:=PV) (fun k:{k:Nat // k≤frN n}=>[pI (Int.ofNat k.1)]) (fun k=>frN n+1 - k.1) (fun _=>some (.str (fnm (frN n)))) _ (fun again k ih=> ?_) 18446744073709551616 ⟨0,Nat.zero_le _⟩ (by simp only;omega))).trans ?_
 ·obtain ⟨k,hk⟩:=k
  dsimp only at ih⊢
  have n1:=ZsG k (by omega)
  have a1:=Zlm k (by omega)
  have g:=ZjN n.wires (fnm k) hn.wires
  have hx:=Zqa n k
  have hw:IntKind.i64.wrap ((k:Int)+1)=((k+1:Nat):Int):=by rw[Zbi (by omega) (by omega)];omega
  by_cases c:k=frN n
  ·subst c
   rw[f1] at hx
   simp only[n1,a1,g,hx,Bool.not_false,EVS]
  ·have:=f3 k (by omega)
   rw[this] at hx
   simp only[n1,a1,g,hx,hw,Bool.not_true,EVS]
   exact ih ⟨k+1,by omega⟩ (by simp only;omega)
 ·simp only[EVS]
def wX (w:PWire):Wire:=⟨w.name,w.kind,w.ins.map fun p=>⟨p.1,p.2⟩,w.cover⟩
def sX (s:List UInt8×Int):Sig:=⟨s.1,s.2⟩
def wP (w:Wire):PWire:=⟨w.name,w.kind,w.ins.map fun p=>(p.at_,p.not_),w.cover⟩
theorem Zo5 (n:PNet):Zd1 (n.signals.map sX) (n.wires.map wX)=ZP n:=by
 simp[Zd1,wX,sX,ZaW,Zav,Zbo,ZP,ZaI,Zu,ZaJ,List.map_map,Function.comp_def]
theorem ZsK (s:List (List UInt8×Int)) (l:List Wire):Zd1 (s.map sX) l=ZP ⟨s,l.map wP⟩:=by
 simp[Zd1,wP,sX,ZaW,Zav,Zbo,ZP,ZaI,Zu,ZaJ,List.map_map,Function.comp_def]
theorem Zo6 {l:List Wire} {k:Nat} {x:Wire} {ps:List Int} {nm:List UInt8} {M:Nat} (hx:x∈l) (hM:∀y∈l,y.ins.length≤M) {w:Wire} (h:w∈ZbJ l k x ps nm):
 (w.name=nm∨∃y∈l,w.name=y.name)∧w.ins.length≤M+1∧(w.cover=[]∨∃y∈l,w.cover=y.cover):=by
 have hs:∀z∈Zdt l k x ps,(∃y∈l,z.name=y.name)∧z.ins.length≤M+1∧∃y∈l,z.cover=y.cover:=by
  intro z hz
  have hk:=Zeg ps x.ins 0
  have hxM:=hM x hx
  rcases List.mem_or_eq_of_mem_set hz with hz|rfl
  ·obtain ⟨y,hy,rfl⟩:=List.mem_map.1 hz
   rcases List.mem_or_eq_of_mem_set hy with hy|rfl
   ·exact ⟨⟨y,hy,rfl⟩,by have:=hM y hy;simp[shW];omega,y,hy,rfl⟩
   ·exact ⟨⟨x,hx,rfl⟩,by simp[shW];omega,x,hx,rfl⟩
  ·exact ⟨⟨x,hx,rfl⟩,by simp;omega,x,hx,rfl⟩
 unfold ZbJ at h
 rcases List.mem_append.1 h with h|h
 ·obtain ⟨a,b,c⟩:=hs w (List.mem_of_mem_take h)
  exact ⟨.inr a,b,.inr c⟩
 ·rcases List.mem_cons.1 h with rfl|h
  ·have ht:=ZfL ps x.ins 0
   have hxM:=hM x hx
   exact ⟨.inl rfl,by simp;omega,.inl rfl⟩
  ·obtain ⟨a,b,c⟩:=hs w (List.mem_of_mem_drop h)
   exact ⟨.inr a,b,.inr c⟩
theorem Zo7 (l:List Wire) (k:Nat) (x:Wire) (ps:List Int) (nm:List UInt8):(ZbJ l k x ps nm).length=l.length+1:=by
 unfold ZbJ
 have:(Zdt l k x ps).length=l.length:=by simp[Zdt]
 simp only[List.length_append,List.length_cons,List.length_take,List.length_drop,this]
 omega
def ZeU (n:PNet) (k:Nat) (ps:List Int):PNet:=⟨n.signals,(ZbJ (n.wires.map wX) k ((n.wires.map wX).getD k ⟨[],0,[],[]⟩) ps (fnm (frN n))).map wP⟩
theorem ZnI {n:PNet} (h:Zdu n=true) {k:Nat} (hk:k<n.wires.length) (ps:List Int):(ZeU n k ps).Fit:=by
 obtain ⟨h1,h2,h3,h4⟩:=Zif h
 have hkl:k<(n.wires.map wX).length:=by simpa using hk
 have hxm:(n.wires.map wX).getD k ⟨[],0,[],[]⟩∈n.wires.map wX:=by rw[List.getD_eq_getElem?_getD,List.getElem?_eq_getElem hkl];exact List.getElem_mem hkl
 have hM:∀y∈n.wires.map wX,y.ins.length≤8:=fun y hy=>by
  obtain ⟨w,hw,rfl⟩:=List.mem_map.1 hy
  have:=h4 w hw
  simp[wX]
  omega
 have hf:=Zo4 h
 have hfn:(fnm (frN n)).length≤9:=by
  have:=Zp9 (frN n) (by omega)
  unfold fnm
  simp only[List.length_cons]
  omega
 refine ⟨?_, ?_, ?_, ?_⟩
 ·show n.signals.length≤_;omega
 ·exact fun s hs=>by have:=h2 s hs;show s.1.length≤_;omega
 ·show ((ZbJ _ _ _ _ _).map wP).length≤_
  rw[List.length_map,Zo7]
  simp
  omega
 ·intro w hw
  obtain ⟨z,hz,rfl⟩:=List.mem_map.1 hw
  obtain ⟨a,b,c⟩:=Zo6 hxm hM hz
  have ha:z.name.length≤9:=by
   rcases a with a|⟨y,hy,a⟩
   ·rw[a];exact hfn
   ·obtain ⟨u,hu,rfl⟩:=List.mem_map.1 hy
    have:=h4 u hu
    rw[a]
    simp[wX]
    omega
  have hc:z.cover.length≤60∧∀q∈z.cover,q.length≤8:=by
   rcases c with c|⟨y,hy,c⟩
   ·rw[c];simp
   ·obtain ⟨u,hu,rfl⟩:=List.mem_map.1 hy
    have:=h4 u hu
    rw[c]
    exact this.2.2.2.2
  exact ⟨by show z.name.length≤_;omega,by show (z.ins.map _).length≤_;rw[List.length_map];omega,by show z.cover.length≤_;omega,fun q hq=>by have:=hc.2 q hq;show q.length≤_;omega⟩
theorem ZeV (l:List Int) (x:Int) (hl:Zaa l):ZaQ [.lst (l.map pI),pI x]=some (pI (ixf (fun a=>decide (x=a)) 0 l)):=by
 show (fun x0 x1=>ZaQ [x0,x1]) _ _=_
 rw[ZeX]
 unfold Zaa at hl
 simp only[EVS]
 refine (congrArg (fun m:Option PV=>m.bind fun r=>if r.sc=true then some r else none) (ZfH l (fun a=>decide (x=a)) _ hl (fun again k a hb=> ?_) (fun again=> ?_))).trans ?_
 ·have hk:=Zy hb
  have hi:ZO (.lst (l.map pI)) (.int .i64 (k:Int))=some (pI a):=ZR hb
  simp only[Zcm hk,Z5 hk hl,hi,EVS]
 ·simp only[Zc2,EVS]
  rfl
 ·simp only[EVS]
theorem Zez (x:Int):∀(l:List Int) (k:Nat),Z7 (fun _ a=> !decide (x=a)) k l= !decide (x∈l)
 |[],k=>by simp[Z7]
 | a::l,k=>by
  unfold Z7
  rw[Zez x l]
  by_cases h:x=a<;>simp[h]
theorem ZdW (l:List Int) (x:Int) (hl:Zaa l):Z4 [.lst (l.map pI),pI x]=some (pB (decide (x∈l))):=by
 have g:=ZeV l x hl
 show (fun x0 x1=>Z4 [x0,x1]) _ _=_
 rw[Zd0]
 simp only[g,Zgp (fun a=>decide (x=a)) l 0,Zez,Bool.not_not,EVS]
theorem Zl6 (n:PNet) (hn:n.Fit) (h:Zdu n=true) (k:Nat) (hk:k<n.wires.length) (ps:List Int) (hi:∀q∈ps,InI q) (hl:ps.length≤1000000):
 ZeM [ZP n,pI (k:Int),.lst (ps.map pI)]=some (.tup [if Zo2 (ZeU n k ps)=true then ZP (ZeU n k ps) else .agg [.lst [],.lst []],pB (Zo2 (ZeU n k ps))]):=by
 have hN:=Zif h
 obtain ⟨h1,h2,h3,h4⟩:=Zif h
 have hkl:k<(n.wires.map wX).length:=by simpa using hk
 have H:SpoIn Zbf ZbO Z4 Zah (n.signals.map sX) (n.wires.map wX) k ((n.wires.map wX).getD k ⟨[],0,[],[]⟩) ps (fnm (frN n)) (Zo2 (ZeU n k ps)):=by
  refine ⟨?_,by simp;omega,hl,hi,fun s hs=> ?_,fun x hx=> ?_, ?_, ?_,fun j hj=>ZdW ps j (by show ps.length≤_;omega), ?_⟩
  ·rw[List.getD_eq_getElem?_getD,List.getElem?_eq_getElem hkl];rfl
  ·obtain ⟨t,ht,rfl⟩:=List.mem_map.1 hs
   have:=h2 t ht
   exact ⟨by simp[sX];omega,by simp only[sX];constructor<;>omega⟩
  ·obtain ⟨t,ht,rfl⟩:=List.mem_map.1 hx
   obtain ⟨a1,a2,a3,a4,a5,a6⟩:=h4 t ht
   refine ⟨by simp[wX];omega,by simp only[wX];constructor<;>omega,by simp[wX];omega,fun p hp=> ?_,fun s hs=> ?_⟩
   ·obtain ⟨q,hq,rfl⟩:=List.mem_map.1 hp
    have:=a4 q hq
    show -1000000≤q.1∧q.1≤1000000
    omega
   ·have:=a6 s hs;omega
  ·rw[Zo5];exact Zim n hN
  ·rw[Zo5];exact Zkw n hn h
  ·rw[ZsK]
   exact Zdp (ZeU n k ps) (ZnI h hk ps)
 have:=ZtE H
 rw[Zo5] at this
 show Zpg _ _ _ _ _=_
 rw[this]
 unfold spoR
 rw[ZsK]
 rfl
theorem Zee {n lo hi:Int}:inR n lo hi=true↔lo≤n∧n≤hi:=by simp[inR]
def goUp (hi:Int):Int→List Int→Bool
 |_,[]=>true
 |p,x::r=>inR x 0 hi&&decide (p<x)&&goUp hi x r
def upB (hi:Int) (l:List Int):Bool:=goUp hi (-1) l
theorem ZnJ {hi:Int}:∀{l:List Int} {p:Int},goUp hi p l=true→∀q∈l,0≤q∧q≤hi
 |[],_,_,_,h=>by cases h
 | x::r,p,h,q,hq=>by
  unfold goUp at h
  simp only[Bool.and_eq_true] at h
  rcases List.mem_cons.1 hq with rfl|hq
  ·exact Zee.1 h.1.1
  ·exact ZnJ h.2 q hq
def ZbG (l:List Int) (k:Nat):Int:=if k=0 then -1 else l.getD (k - 1) 0
theorem ZsL (hi:Int) (l:List Int):Z7 (fun k x=>inR x 0 hi&&decide (ZbG l k<x)) 0 l=upB hi l:=by
 suffices h:∀(a r:List Int),l=a++r→Z7 (fun k x=>inR x 0 hi&&decide (ZbG l k<x)) a.length r=goUp hi (ZbG l a.length) r by
  have:=h [] l rfl
  simpa[ZbG,upB] using this
 intro a r
 induction r generalizing a with
 |nil=>intro _;rfl
 | cons x r ih=>
  intro e
  have e2:=ih (a++[x]) (by simp[e])
  have hp:ZbG l (a.length+1)=x:=by unfold ZbG;rw[if_neg (by omega),e];simp
  simp only[List.length_append,List.length_cons,List.length_nil,Nat.zero_add] at e2
  unfold Z7 goUp
  rw[e2,hp]
theorem ZsM {k:Nat} (h:0<k) (hk:k≤9223372036854775807):IntKind.i64.wrap ((k:Int) - 1)=((k - 1:Nat):Int):=by rw[Zbi (by omega) (by omega)];omega
theorem ZnK {l:List Int} {k:Nat} (h:0<k) (hk:k<l.length):l[k - 1]?=some (ZbG l k):=by
 unfold ZbG
 rw[if_neg (by omega),List.getD_eq_getElem?_getD,List.getElem?_eq_getElem (by omega)];rfl
theorem Zkx (l:List Int) (hi:Int) (hl:Zaa l):Zc6 [.lst (l.map pI),pI 0,pI hi]=some (pB (upB (hi) l)):=by
 unfold Zaa at hl
 show (fun x0 x1 x2=>Zc6 [x0,x1,x2]) _ _ _=_
 rw[ZkA,←ZsL]
 simp only[EVS]
 refine (congrArg (Zi true) (ZaK (R:=PV) l (fun k x=>inR x 0 (hi)&&decide (ZbG l k<x)) (some (pB false)) (some (pB true)) _ hl (fun again k x hx=> ?_) (fun again=> ?_))).trans ?_
 ·have hk:=Zy hx
  have hi':ZO (.lst (l.map pI)) (.int .i64 (k:Int))=some (pI x):=ZR hx
  have g:=Zbc x 0 (hi)
  have gi:inR x 0 (hi)=(decide ((0:Int)≤x)&&decide (x≤hi)):=rfl
  rw[←gi] at g
  simp only[Zcm hk,Z5 hk hl,hi',g,EVS]
  cases hc:inR x 0 (hi)
  ·simp only[EVS]
  ·simp only[EVS]
   by_cases c:0<k
   ·have hj:ZO (.lst (l.map pI)) (.int .i64 ((k - 1:Nat):Int))=some (pI (ZbG l k)):=ZR (ZnK c hk)
    have hd:decide ((0:Int)<(k:Int))=true:=by simpa using c
    simp only[hd,ZsM c (by omega),hj,EVS]
    by_cases c2:ZbG l k<x
    ·have:¬x≤ZbG l k:=by omega
     simp only[c2,this,EVS]
    ·have:x≤ZbG l k:=by omega
     simp only[c2,this,EVS]
   ·obtain rfl:k=0:=by omega
    have hd:decide ((0:Int)<(0:Int))=false:=by decide
    have c2:ZbG l 0<x:=by have:=(Zee.1 hc).1;show (-1:Int)<x;omega
    simp only[hd,c2,EVS]
 ·simp only[Zc2,EVS]
 ·cases Z7 (fun k x=>inR x 0 (hi)&&decide (ZbG l k<x)) 0 l<;>rfl
theorem Zg9 (l:List Int) (n:Int) (hl:Zaa l) (hn1: -9223372036854775808≤n - 1) (hn2:n - 1≤9223372036854775807):ZbD [.lst (l.map pI),pI n]=some (pB (upB (n - 1) l)):=by
 unfold Zaa at hl
 show (fun x0 x1=>ZbD [x0,x1]) _ _=_
 rw[Zhg,←ZsL]
 simp only[EVS]
 refine (congrArg (Zi true) (ZaK (R:=PV) l (fun k x=>inR x 0 (n - 1)&&decide (ZbG l k<x)) (some (pB false)) (some (pB true)) _ hl (fun again k x hx=> ?_) (fun again=> ?_))).trans ?_
 ·have hk:=Zy hx
  have hi':ZO (.lst (l.map pI)) (.int .i64 (k:Int))=some (pI x):=ZR hx
  have g:=Zap x 0 (n - 1)
  have gi:inR x 0 (n - 1)=inR x 0 (n - 1):=rfl
  rw[←gi] at g
  simp only[Zcm hk,Z5 hk hl,hi',Zbi hn1 hn2,g,EVS]
  cases hc:inR x 0 (n - 1)
  ·simp only[EVS]
  ·simp only[EVS]
   by_cases c:0<k
   ·have hj:ZO (.lst (l.map pI)) (.int .i64 ((k - 1:Nat):Int))=some (pI (ZbG l k)):=ZR (ZnK c hk)
    have hd:decide ((0:Int)<(k:Int))=true:=by simpa using c
    simp only[hd,ZsM c (by omega),hj,EVS]
    by_cases c2:ZbG l k<x
    ·have:¬x≤ZbG l k:=by omega
     simp only[c2,this,EVS]
    ·have:x≤ZbG l k:=by omega
     simp only[c2,this,EVS]
   ·obtain rfl:k=0:=by omega
    have hd:decide ((0:Int)<(0:Int))=false:=by decide
    have c2:ZbG l 0<x:=by have:=(Zee.1 hc).1;show (-1:Int)<x;omega
    simp only[hd,c2,EVS]
 ·simp only[Zc2,EVS]
 ·cases Z7 (fun k x=>inR x 0 (n - 1)&&decide (ZbG l k<x)) 0 l<;>rfl
theorem Zky (n:PNet) (hn:n.Fit) (k:Int):Zc9 [ZP n,pI k]=some (pB (inR k n.signals.length ((n.wires.length:Int) - 1))):=by
 have h1:=hn.signals
 have h2:=hn.wires
 unfold Zaa at h1 h2
 have g:=Zap k n.signals.length ((n.wires.length:Int) - 1)
 show (fun x0 x1=>Zc9 [x0,x1]) _ _=_
 rw[ZkI]
 have hw:IntKind.i64.wrap ((n.wires.length:Int) - 1)=(n.wires.length:Int) - 1:=Zbi (by omega) (by omega)
 simp only[ZP,List.length_map,hw,g,EVS]
def Zcj (n:PNet) (k:Int) (ps:List Int):Bool:=
 Zdu n&&(inR k n.signals.length ((n.wires.length:Int) - 1)&&(upB ((((n.wires.getD k.toNat ⟨[],0,[],[]⟩).ins.length:Nat):Int) - 1) ps&&inR ps.length 2 ((((n.wires.getD k.toNat ⟨[],0,[],[]⟩).ins.length:Nat):Int) - 1)))
def spP (n:PNet) (k:Int) (ps:List Int):PNet×Bool:=if Zcj n k ps=true∧Zdu (ZeU n k.toNat ps)=true then (ZeU n k.toNat ps,true) else (⟨[],[]⟩,false)
theorem ZjP (n:PNet) (hn:n.Fit) (k:Int) (ps:List Int) (hl:Zaa ps):ZcQ [ZP n,pI k,.lst (ps.map pI)]=some (.tup [ZP (spP n k ps).1,pB (spP n k ps).2]):=by
 have g1:=Zdp n hn
 have g2:=Zky n hn k
 rw[←ZsF] at g1
 show (fun x0 x1 x2=>ZcQ [x0,x1,x2]) _ _ _=_
 rw[Zj1]
 have hp2:∀a b a' b':PV,splice [a,b] 0 [a',b']=[a',b']:=fun _ _ _ _=>rfl
 simp only[ZP] at g1 g2
 cases c1:Zdu n
 ·rw[c1] at g1
  have e:spP n k ps=(⟨[],[]⟩,false):=by unfold spP Zcj;rw[c1];rfl
  rw[e]
  simp only[ZP,Zb8,g1,hp2,EVS]
  rfl
 ·rw [c1] at g1
  cases c2:inR k n.signals.length ((n.wires.length:Int) - 1)
  ·rw[c2] at g2
   have e:spP n k ps=(⟨[],[]⟩,false):=by unfold spP Zcj;rw[c1,c2];rfl
   rw[e]
   simp only[ZP,Zb8,g1,g2,hp2,EVS]
   rfl
  ·rw [c2] at g2
   have hk:=Zee.1 c2
   obtain ⟨j,rfl⟩:∃j:Nat,k=j:=⟨k.toNat,by omega⟩
   have hj:j<n.wires.length:=by omega
   have hjk:n.wires[j]?=some n.wires[j]:=List.getElem?_eq_getElem hj
   have hx:ZO (.lst (n.wires.map Zu)) (.int .i64 (j:Int))=some (Zu n.wires[j]):=ZR hjk
   have hgd:n.wires.getD j ⟨[],0,[],[]⟩=n.wires[j]:=by rw[List.getD_eq_getElem?_getD,hjk];rfl
   have hin:=(Zif c1).wire _ (List.getElem_mem hj)
   have g3:=Zg9 ps n.wires[j].ins.length hl (by omega) (by omega)
   have hw:IntKind.i64.wrap ((n.wires[j].ins.length:Int) - 1)=(n.wires[j].ins.length:Int) - 1:=Zbi (by omega) (by omega)
   have g4:=Zap ps.length 2 ((n.wires[j].ins.length:Int) - 1)
   cases c3:upB ((n.wires[j].ins.length:Int) - 1) ps
   ·rw[c3] at g3
    have e:spP n j ps=(⟨[],[]⟩,false):=by unfold spP Zcj;rw[c1,c2,Int.toNat_natCast,hgd,c3];rfl
    rw[e]
    simp only[ZP,Zu,Zb8,g1,g2,hx,ls_0,List.drop_succ_cons,List.drop_zero,List.length_map,g3,hp2,EVS]
    rfl
   ·rw [c3] at g3
    cases c4:inR ps.length 2 ((n.wires[j].ins.length:Int) - 1)
    ·rw[c4] at g4
     have e:spP n j ps=(⟨[],[]⟩,false):=by unfold spP Zcj;rw[c1,c2,Int.toNat_natCast,hgd,c3,c4];rfl
     rw[e]
     simp only[ZP,Zu,Zb8,g1,g2,hx,List.drop_succ_cons,List.drop_zero,List.length_map,g3,hw,g4,hp2,EVS]
     rfl
    ·rw[c4] at g4
     have hps:=Zee.1 c4
     have g5:=Zl6 n hn c1 j hj ps (fun q hq=>by have:=ZnJ c3 q hq;constructor<;>omega) (by omega)
     rw[←ZsF] at g5
     simp only[ZP] at g5
     have e:spP n j ps=if Zdu (ZeU n j ps)=true then (ZeU n j ps,true) else (⟨[],[]⟩,false):=by unfold spP Zcj;rw[c1,c2,Int.toNat_natCast,hgd,c3,c4];simp
     rw[e]
     cases c5:Zdu (ZeU n j ps)
     ·rw[c5] at g5
      simp only[ZP,Zu,Zb8,g1,g2,hx,List.drop_succ_cons,List.drop_zero,List.length_map,g3,hw,g4,g5,ZdV,hp2,Bool.false_eq_true,if_false,EVS]
      rfl
     ·rw[c5] at g5
      simp only[ZP,Zu,Zb8,g1,g2,hx,List.drop_succ_cons,List.drop_zero,List.length_map,g3,hw,g4,g5,ZdV,hp2,if_true,EVS]
      rfl
def oGo (k:Nat) (a b:PWire):Nat→List PWire→List PWire
 |_,[]=>[]
 |i,w::r=>(if i=k then [a,b] else [Zgr k w])++oGo k a b (i+1) r
theorem Zfp (k:Nat) (a b:PWire) (i:Nat) (w:PWire) (r:List PWire):oGo k a b i (w::r)=(if i=k then [a,b] else [Zgr k w])++oGo k a b (i+1) r:=rfl
theorem ZnL (k:Nat) (a b w:PWire):∀(l:List PWire) (i:Nat),oGo k a b i (l++[w])=oGo k a b i l++if i+l.length=k then [a,b] else [Zgr k w]
 |[],i=>by simp[oGo]
 | x::r,i=>by
  rw[List.cons_append]
  rw[Zfp,Zfp,ZnL k a b w r (i+1),List.append_assoc]
  have:i+1+r.length=i+(x::r).length:=by simp;omega
  rw[this]
theorem Zqb (k:Nat) (a b:PWire):∀(l:List PWire) (i:Nat),(oGo k a b i l).length≤2 * l.length
 |[],i=>by simp[oGo]
 | x::r,i=>by
  unfold oGo
  have:=Zqb k a b r (i+1)
  split<;>simp<;>omega
theorem Zl7 (k:Nat) (a b:PWire):∀(l:List PWire) (i:Nat),(k<i∨i+l.length≤k)→oGo k a b i l=l.map (Zgr k)
 |[],i,_=>rfl
 | x::r,i,h=>by
  rw[List.length_cons] at h
  rw[Zfp,if_neg (by omega),Zl7 k a b r (i+1) (by omega)]
  rfl
theorem oGo_at (k:Nat) (a b w:PWire) (l:List PWire) (h:l[k]?=some w):oGo k a b 0 l=(l.take k).map (Zgr k)++[a,b]++(l.drop (k+1)).map (Zgr k):=by
 have hk:=Zy h
 have e:l=l.take k++([l[k]]++l.drop (k+1)):=by rw[List.singleton_append,←List.drop_eq_getElem_cons hk,List.take_append_drop]
 have key:∀(u v:List PWire) (i:Nat),oGo k a b i (u++v)=oGo k a b i u++oGo k a b (i+u.length) v:=by
  intro u
  induction u with
  |nil=>intro v i;simp[oGo]
  | cons x r ih=>
   intro v i
   rw[List.cons_append]
   rw[Zfp,Zfp,ih v (i+1),List.append_assoc]
   have:i+1+r.length=i+(x::r).length:=by simp;omega
   rw[this]
 have hl:(l.take k).length=k:=by simp;omega
 have e2:oGo k a b 0 l=oGo k a b 0 (l.take k++([l[k]]++l.drop (k+1))):=by rw[←e]
 rw[e2,key,key,Zl7 k a b (l.take k) 0 (.inr (by omega)),hl,Zl7 k a b (l.drop (k+1)) _ (.inl (by simp))]
 simp[oGo]
theorem sh1_P (k:Nat) (p:Pin):(fun q:Pin=>(q.at_,q.not_)) (sh1 k p)=Zc5 k (p.at_,p.not_):=by
 unfold sh1 Zc5
 by_cases c:(k:Int)≤p.at_<;>simp[c]
theorem shW_P (k:Nat) (w:PWire):wP (shW k (wX w))=Zgr k w:=by
 simp only[wP,shW,wX,Zgr,List.map_map]
 congr 1
 refine List.map_congr_left fun p _=> ?_
 simp only[Function.comp_apply]
 exact sh1_P k ⟨p.1,p.2⟩
def moreP (n:PNet) (x:PWire) (ps:List Int):PWire:=wP ⟨fnm (frN n),x.kind,Zad ps 0 (wX x).ins,[]⟩
def ZsN (x:PWire) (ps:List Int):PWire:=wP {wX x with ins:=Zas ps 0 (wX x).ins}
def Zqc (x:PWire) (k:Nat) (ps:List Int):PWire:={Zgr k (ZsN x ps) with ins:=(Zgr k (ZsN x ps)).ins++[((k:Int),false)]}
theorem ZtA (n:PNet) (k:Nat) (x:PWire) (hx:n.wires[k]?=some x) (ps:List Int):ZeU n k ps=⟨n.signals,oGo k (moreP n x ps) (Zqc x k ps) 0 n.wires⟩:=by
 have hk:=Zy hx
 have hg:(n.wires.map wX).getD k ⟨[],0,[],[]⟩=wX x:=by rw[List.getD_eq_getElem?_getD,List.getElem?_map,hx];rfl
 unfold ZeU
 rw[hg,oGo_at k _ _ x n.wires hx]
 congr 1
 unfold ZbJ Zdt
 rw[List.map_append,List.map_cons,List.take_set_of_le (Nat.le_refl _),List.map_set,List.take_set_of_le (Nat.le_refl _),←List.map_take,←List.map_take,List.map_map,List.map_map]
 have hrest:wP {wX x with ins:=(Zas ps 0 (wX x).ins).map (sh1 k)++[⟨(k:Int),false⟩]}=Zqc x k ps:=by
  unfold Zqc ZsN wP Zgr
  simp only[List.map_append,List.map_map,List.map_cons,List.map_nil]
  congr 2
  refine List.map_congr_left fun p _=> ?_
  simp only[Function.comp_apply]
  exact sh1_P k p
 have hcong:∀l:List PWire,l.map ((wP∘shW k)∘wX)=l.map (Zgr k):=fun l=>List.map_congr_left fun w _=>shW_P k w
 have hdr:(((((n.wires.map wX).map (shW k)).set k (shW k {wX x with ins:=Zas ps 0 (wX x).ins})).set k {wX x with ins:=(Zas ps 0 (wX x).ins).map (sh1 k)++[⟨(k:Int),false⟩]}).drop k).map wP=Zqc x k ps::(n.wires.drop (k+1)).map (Zgr k):=by
  rw[List.drop_eq_getElem_cons (by simp;exact hk),List.map_cons,List.getElem_set_self,hrest,List.drop_set_of_lt (by omega),List.drop_set_of_lt (by omega),←List.map_drop,←List.map_drop,List.map_map,List.map_map]
  rw[hcong]
 rw[hdr]
 have:=hcong (n.wires.take k)
 simp only[Function.comp_def] at this⊢
 rw[this]
 simp[moreP,wX]
theorem Zo8 (l:List Int) (x:Int) (hl:Zaa l):ZfJ [.lst (l.map pI),pI x]=some (pB (decide (x∈l))):=by
 unfold Zaa at hl
 show (fun x0 x1=>ZfJ [x0,x1]) _ _=_
 rw[Zpd]
 simp only[EVS]
 refine (congrArg (fun m:Option PV=>m.bind fun r=>if r.sc=true then some r else none) (ZaK (R:=PV) l (fun _ y=> !decide (x=y)) (some (pB true)) (some (pB false)) _ hl (fun again k y hx=> ?_) (fun again=> ?_))).trans ?_
 ·have hk:=Zy hx
  have hi:ZO (.lst (l.map pI)) (.int .i64 (k:Int))=some (pI y):=ZR hx
  have he:decide (y=x)=decide (x=y):=by rw[Bool.eq_iff_iff,decide_eq_true_eq,decide_eq_true_eq];exact eq_comm
  simp only[Zcm hk,Z5 hk hl,hi,he,EVS]
  cases decide (x=y)<;>simp only[EVS]
 ·simp only[Zc2,EVS]
 ·rw[Zez]
  cases decide (x∈l)<;>rfl
def kI (x:PWire) (ps:List Int) (i:Nat):List (Int×Bool):=(Zas ps 0 ((wX x).ins.take i)).map fun p=>(p.at_,p.not_)
def tI (x:PWire) (ps:List Int) (i:Nat):List (Int×Bool):=(Zad ps 0 ((wX x).ins.take i)).map fun p=>(p.at_,p.not_)
theorem Zqd {x:PWire} {i:Nat} {p:Int×Bool} (h:x.ins[i]?=some p):(wX x).ins.take (i+1)=(wX x).ins.take i++[⟨p.1,p.2⟩]∧((wX x).ins.take i).length=i:=by
 have hi:=Zy h
 have hl:i<(wX x).ins.length:=by simp[wX];exact hi
 rw[List.take_succ_eq_append_getElem hl]
 have e:(wX x).ins[i]=⟨p.1,p.2⟩:=by
  have:(wX x).ins[i]?=some ⟨p.1,p.2⟩:=by simp[wX,h]
  rw[List.getElem?_eq_getElem hl] at this
  exact Option.some.inj this
 rw[e]
 exact ⟨rfl,by rw[List.length_take];omega⟩
theorem ZtB {x:PWire} (ps:List Int) {i:Nat} {p:Int×Bool} (h:x.ins[i]?=some p):kI x ps (i+1)=kI x ps i++if ((i:Nat):Int)∈ps then [] else [p]:=by
 obtain ⟨e1,e2⟩:=Zqd h
 unfold kI
 rw[e1,ZhX,e2,Nat.zero_add,List.map_append]
 split<;>rfl
theorem ZtC {x:PWire} (ps:List Int) {i:Nat} {p:Int×Bool} (h:x.ins[i]?=some p):tI x ps (i+1)=tI x ps i++if ((i:Nat):Int)∈ps then [p] else []:=by
 obtain ⟨e1,e2⟩:=Zqd h
 unfold tI
 rw[e1,Zgw,e2,Nat.zero_add,List.map_append]
 split<;>rfl
theorem ZsO (x:PWire) (ps:List Int) (i:Nat):(kI x ps i).length≤x.ins.length:=by
 unfold kI
 have:=Zeg ps ((wX x).ins.take i) 0
 simp[wX] at this⊢
 omega
theorem tI_len (x:PWire) (ps:List Int) (i:Nat):(tI x ps i).length≤x.ins.length:=by
 unfold tI
 have:=ZfL ps ((wX x).ins.take i) 0
 simp[wX] at this⊢
 omega
theorem ZnM (x:PWire):(wX x).ins.take x.ins.length=(wX x).ins:=List.take_of_length_le (by simp[wX])
theorem kI_in {x:PWire} {ps:List Int} {i:Nat} {p:Int×Bool} (h:p∈kI x ps i):p∈x.ins:=by
 unfold kI at h
 obtain ⟨q,hq,rfl⟩:=List.mem_map.1 h
 have:=List.mem_of_mem_take (Zhj ps _ 0 q hq)
 simp only[wX,List.mem_map] at this
 obtain ⟨r,hr,rfl⟩:=this
 exact hr
theorem ZsP (n:PNet) (k:Nat) (x:PWire) (hx:n.wires[k]?=some x) (ps:List Int):
 ZeU n k ps=⟨n.signals,oGo k ⟨fnm (frN n),x.kind,tI x ps x.ins.length,[]⟩ ⟨x.name,x.kind,(kI x ps x.ins.length).map (Zc5 k)++[((k:Int),false)],x.cover⟩ 0 n.wires⟩:=by
 rw[ZtA n k x hx]
 unfold tI kI
 rw[ZnM]
 rfl
set_option maxHeartbeats 1000000 in
theorem Zl8 (n:PNet) (hn:n.Fit) (k:Int) (ps:List Int) (hl:Zaa ps):Zc7 [ZP n,pI k,.lst (ps.map pI)]=some (.tup [ZP (if Zcj n k ps=true then ZeU n k.toNat ps else ⟨[],[]⟩),pB (if Zcj n k ps=true then Zdu (ZeU n k.toNat ps) else false)]):=by
 have g1:=Zic n hn
 have hns:=hn.signals
 have hnw:=hn.wires
 unfold Zaa at hns hnw
 have g2:Zar [pI k,pI n.signals.length,pI ((n.wires.length:Int) - 1)]=some (pB (inR k n.signals.length ((n.wires.length:Int) - 1))):=Zbc _ _ _
 have hw1:IntKind.i64.wrap ((n.wires.length:Int) - 1)=(n.wires.length:Int) - 1:=Zbi (by omega) (by omega)
 show (fun x0 x1 x2=>Zc7 [x0,x1,x2]) _ _ _=_
 rw[ZkE]
 have hp2:∀a b a' b':PV,splice [a,b] 0 [a',b']=[a',b']:=fun _ _ _ _=>rfl
 simp only[ZP] at g1
 cases c1:Zdu n
 ·rw[c1] at g1
  have e:Zcj n k ps=false:=by unfold Zcj;rw[c1];rfl
  rw[e]
  simp only[ZP,Zb8,g1,hp2,Bool.false_eq_true,if_false,EVS]
  rfl
 ·rw [c1] at g1
  cases c2:inR k n.signals.length ((n.wires.length:Int) - 1)
  ·rw[c2] at g2
   have e:Zcj n k ps=false:=by unfold Zcj;rw[c1,c2];rfl
   rw[e]
   simp only[ZP,Zb8,g1,List.length_map,hw1,g2,hp2,Bool.false_eq_true,if_false,EVS]
   rfl
  ·rw [c2] at g2
   have hk:=Zee.1 c2
   obtain ⟨j,rfl⟩:∃j:Nat,k=j:=⟨k.toNat,by omega⟩
   have hj:j<n.wires.length:=by omega
   obtain ⟨x,hjk⟩:∃x,n.wires[j]?=some x:=⟨_,List.getElem?_eq_getElem hj⟩
   have hx:ZO (.lst (n.wires.map Zu)) (.int .i64 (j:Int))=some (Zu x):=ZR hjk
   have hgd:n.wires.getD j ⟨[],0,[],[]⟩=x:=by rw[List.getD_eq_getElem?_getD,hjk];rfl
   have hin:=(Zif c1).wire x (List.mem_of_getElem? hjk)
   have g3:=Zkx ps ((x.ins.length:Int) - 1) hl
   have hw:IntKind.i64.wrap ((x.ins.length:Int) - 1)=(x.ins.length:Int) - 1:=Zbi (by omega) (by omega)
   have g4:Zar [pI ps.length,pI 2,pI ((x.ins.length:Int) - 1)]=some (pB (inR ps.length 2 ((x.ins.length:Int) - 1))):=Zbc _ _ _
   cases c3:upB ((x.ins.length:Int) - 1) ps
   ·rw[c3] at g3
    have e:Zcj n j ps=false:=by unfold Zcj;rw[c1,c2,Int.toNat_natCast,hgd,c3];rfl
    rw[e]
    simp only[ZP,Zu,Zb8,g1,hw1,g2,hx,List.drop_succ_cons,List.drop_zero,List.length_map,hw,g3,hp2,Bool.false_eq_true,if_false,EVS]
    rfl
   ·rw [c3] at g3
    cases c4:inR ps.length 2 ((x.ins.length:Int) - 1)
    ·rw[c4] at g4
     have e:Zcj n j ps=false:=by unfold Zcj;rw[c1,c2,Int.toNat_natCast,hgd,c3,c4];rfl
     rw[e]
     simp only[ZP,Zu,Zb8,g1,hw1,g2,hx,List.drop_succ_cons,List.drop_zero,List.length_map,hw,g3,g4,hp2,Bool.false_eq_true,if_false,EVS]
     rfl
    ·rw [c4] at g4
     have e:Zcj n j ps=true:=by unfold Zcj;rw[c1,c2,Int.toNat_natCast,hgd,c3,c4];rfl
     rw[e]
     have g6:=Zo3 n (Zif c1)
     have g7:=ZnH n hn c1
     simp only[ZP] at g6 g7
     obtain ⟨h1,h2,h3,h4⟩:=Zif c1
     have hs1:∀a b c d a' b':PV,splice (splice [a,b,c,d] 0 [a']) 1 [b']=[a',b',c,d]:=fun _ _ _ _ _ _=>rfl
     have hs2:∀a b c d c':PV,splice [a,b,c,d] 2 [c']=[a,b,c',d]:=fun _ _ _ _ _=>rfl
     have hs4:∀a b c d a' b' c' d':PV,splice [a,b,c,d] 0 [a',b',c',d']=[a',b',c',d']:=fun _ _ _ _ _ _ _ _=>rfl
     have hp1:∀a b a':PV,splice [a,b] 0 [a']=[a',b]:=fun _ _ _=>rfl
     have hst:∀a b c d c':PV,[a,b,c,d].set 2 c'=[a,b,c',d]:=fun _ _ _ _ _=>rfl
     have hst2:∀a b b':PV,[a,b].set 1 b'=[a,b']:=fun _ _ _=>rfl
     simp only[if_true,ZP,Zu,Zb8,ZfX,g1,hw1,g2,hx,List.drop_succ_cons,List.drop_zero,List.length_map,hw,g3,g4,g6,g7,hp2,hp1,hs1,hs2,hs4,ZdV,EVS]
     refine ZcX (R:=PV) x.ins.length (fun i=>[.agg [.str x.name,pI x.kind,.lst ((kI x ps i).map ZaJ),.lst (x.cover.map PV.str)],.agg [.str (fnm (frN n)),pI x.kind,.lst ((tI x ps i).map ZaJ),.lst []],pI (Int.ofNat i)]) _ _ (by omega) (fun again i i2=> ?_) (fun again=> ?_) _ (by rfl)
     ·have hpi:x.ins[i]?=some x.ins[i]:=List.getElem?_eq_getElem i2
      have hix:ZO (.lst (x.ins.map ZaJ)) (.int .i64 (i:Int))=some (ZaJ x.ins[i]):=ZR hpi
      have gh:=Zo8 ps i hl
      have hnx:=Z5 i2 (show x.ins.length≤9223372036854775807 by omega)
      have e1:=ZtB ps hpi
      have e2:=ZtC ps hpi
      have l1:=ZsO x ps i
      have l2:=tI_len x ps i
      have b1:(kI x ps i).length+1≤4294967296∧[PV.agg [pI x.ins[i].1,pB x.ins[i].2]].all (ZaB 2)=true:=⟨by omega,rfl⟩
      have b2:(tI x ps i).length+1≤4294967296∧[PV.agg [pI x.ins[i].1,pB x.ins[i].2]].all (ZaB 2)=true:=⟨by omega,rfl⟩
      by_cases c:((i:Nat):Int)∈ps
      ·rw[if_pos c] at e1 e2
       rw[decide_eq_true c] at gh
       simp only[Zcm i2,hix,ZaJ,Zb8,gh,hp2,len1,List.length_map,if_pos b2,hst,hnx,e1,e2,List.append_nil,List.map_append,List.map_cons,List.map_nil,if_true,EVS]
      ·rw[if_neg c] at e1 e2
       rw[decide_eq_false c] at gh
       simp only[Zcm i2,hix,ZaJ,Zb8,gh,hp2,len1,List.length_map,if_pos b1,hst,hnx,e1,e2,List.append_nil,List.map_append,List.map_cons,List.map_nil,Bool.false_eq_true,if_false,EVS]
     ·have l1:=ZsO x ps x.ins.length
      have g8:ZbB [.agg [.str x.name,pI x.kind,.lst ((kI x ps x.ins.length).map ZaJ),.lst (x.cover.map PV.str)],.int .i64 (j:Int)]=some (.agg [.str x.name,pI x.kind,.lst (((kI x ps x.ins.length).map (Zc5 j)).map ZaJ),.lst (x.cover.map PV.str)]):=
       Zg8 ⟨x.name,x.kind,kI x ps x.ins.length,x.cover⟩ j (by show (kI x ps x.ins.length).length≤_;omega) (fun p hp=>by have:=hin.2.2.2.1 p (kI_in hp);omega)
      have b3:∀p:PV,(kI x ps x.ins.length).length+1≤4294967296∧[PV.agg [pI (j:Int),PV.bool false]].all (ZaB 2)=true:=fun _=>⟨by omega,rfl⟩
      simp only[Zc2,g8,ZfX,hs4,ZdV,hp1,hst,len1,List.length_map,if_pos (b3 .undef),EVS]
      have hol:∀m,(oGo j ⟨fnm (frN n),x.kind,tI x ps x.ins.length,[]⟩ ⟨x.name,x.kind,(kI x ps x.ins.length).map (Zc5 j)++[((j:Int),false)],x.cover⟩ 0 (n.wires.take m)).length≤48:=fun m=>by
       have:=Zqb j ⟨fnm (frN n),x.kind,tI x ps x.ins.length,[]⟩ ⟨x.name,x.kind,(kI x ps x.ins.length).map (Zc5 j)++[((j:Int),false)],x.cover⟩ (n.wires.take m) 0
       have h5:(n.wires.take m).length≤n.wires.length:=by simp;omega
       omega
      have len2:∀a b:PV,[a,b].length=2:=fun _ _=>rfl
      refine ZcX (R:=PV) n.wires.length (fun m=>[ZP ⟨n.signals,oGo j ⟨fnm (frN n),x.kind,tI x ps x.ins.length,[]⟩ ⟨x.name,x.kind,(kI x ps x.ins.length).map (Zc5 j)++[((j:Int),false)],x.cover⟩ 0 (n.wires.take m)⟩,pI (Int.ofNat m)]) _ _ (by omega) (fun again2 m m2=> ?_) (fun again2=> ?_) _ (by rw[List.take_zero];rfl)
      ·have hmk:n.wires[m]?=some n.wires[m]:=List.getElem?_eq_getElem m2
       have hmx:ZO (.lst (n.wires.map Zu)) (.int .i64 (m:Int))=some (Zu n.wires[m]):=ZR hmk
       have hmw:=h4 _ (List.getElem_mem m2)
       have hnm:=Z5 m2 (show n.wires.length≤9223372036854775807 by omega)
       have htl:(n.wires.take m).length=m:=by simp;omega
       have htk:n.wires.take (m+1)=n.wires.take m++[n.wires[m]]:=List.take_succ_eq_append_getElem m2
       have hsn:=ZnL j ⟨fnm (frN n),x.kind,tI x ps x.ins.length,[]⟩ ⟨x.name,x.kind,(kI x ps x.ins.length).map (Zc5 j)++[((j:Int),false)],x.cover⟩ n.wires[m] (n.wires.take m) 0
       rw[htl,Nat.zero_add,←htk] at hsn
       have hom:=hol m
       have g9:=Zg8 n.wires[m] j (by omega) (fun p hp=>by have:=hmw.2.2.2.1 p hp;omega)
       simp only[Zu] at g9
       have b4:∀a b c d a' b' c' d':PV,(oGo j ⟨fnm (frN n),x.kind,tI x ps x.ins.length,[]⟩ ⟨x.name,x.kind,(kI x ps x.ins.length).map (Zc5 j)++[((j:Int),false)],x.cover⟩ 0 (n.wires.take m)).length+2≤4294967296∧[PV.agg [a,b,c,d],PV.agg [a',b',c',d']].all (ZaB 4)=true:=fun _ _ _ _ _ _ _ _=>⟨by omega,rfl⟩
       have b5:∀a b c d:PV,(oGo j ⟨fnm (frN n),x.kind,tI x ps x.ins.length,[]⟩ ⟨x.name,x.kind,(kI x ps x.ins.length).map (Zc5 j)++[((j:Int),false)],x.cover⟩ 0 (n.wires.take m)).length+1≤4294967296∧[PV.agg [a,b,c,d]].all (ZaB 4)=true:=fun _ _ _ _=>⟨by omega,rfl⟩
       have hal:∀a b c d:PV,([PV.agg [a,b,c,d]].all fun x=>ZaB 4 x)=true:=fun _ _ _ _=>rfl
       by_cases c:m=j
       ·have cd:decide ((m:Int)=(j:Int))=true:=by simp[c]
        rw[if_pos c] at hsn
        simp only[Zcm m2,hmx,ZP,Zu,ZfX,hs4,cd,len2,List.length_map,if_pos (b4 _ _ _ _ _ _ _ _),hst2,hnm,hsn,List.map_append,List.map_cons,List.map_nil,if_true,EVS]
       ·have cd:decide ((m:Int)=(j:Int))=false:=by simp;omega
        rw[if_neg c] at hsn
        simp only[Zcm m2,hmx,ZP,Zu,ZfX,hs4,cd,g9,len1,if_pos (hal _ _ _ _),List.length_map,if_pos (b5 _ _ _ _),hst2,hnm,hsn,List.map_append,List.map_cons,List.map_nil,Bool.false_eq_true,if_false,EVS]
      ·have hsp:=ZsP n j x hjk ps
       have gg:=Zic (ZeU n j ps) (ZnI c1 hj ps)
       rw[hsp] at gg
       simp only[ZP] at gg
       rw[hsp]
       simp only[Zc2,List.take_length,ZP,Zb8,gg,hp2,EVS]
theorem ZjQ (n:PNet) (hn:n.Fit) (k:Int) (ps:List Int) (hl:Zaa ps):ZcN [ZP n,pI k,.lst (ps.map pI)]=some (.tup [ZP (spP n k ps).1,pB (spP n k ps).2]):=by
 have g:=Zl8 n hn k ps hl
 simp only[ZP] at g
 show (fun x0 x1 x2=>ZcN [x0,x1,x2]) _ _ _=_
 rw[ZjV]
 have hp2:∀a b a' b':PV,splice [a,b] 0 [a',b']=[a',b']:=fun _ _ _ _=>rfl
 unfold spP
 cases c1:Zcj n k ps
 ·rw[c1] at g
  simp only[Bool.false_eq_true,if_false] at g
  simp only[ZP,Zb8,g,hp2,Bool.false_eq_true,false_and,if_false,EVS]
  rfl
 ·rw[c1] at g
  simp only[if_true] at g
  cases c2:Zdu (ZeU n k.toNat ps)
  ·rw[c2] at g
   simp only[ZP,Zb8,g,hp2,Bool.false_eq_true,and_false,if_false,EVS]
   rfl
  ·rw[c2] at g
   simp only[ZP,Zb8,g,hp2,and_self,if_true,EVS]
end Go.Proofs.YtenddofcogldfaaGreatDoor
