import Derived.Test.YthobodfbjjjiiaaGreatFirstBadPairP1
import Derived.Test.YthobodfbjjjiiaaGreatData
import Derived.Test.YthobodfbjjjiiaaGreatDistPure
import Derived.Test.YthobodfbjjjiiaaGreatSysPure
namespace Go.Proofs.YthobodfbjjjiiaaGreat
open Go.RowKit
set_option linter.unusedVariables false
set_option linter.unusedSimpArgs false
def ZaW (good:Nat→Bool) (k:Nat):List Int:=((List.range k).filter good).map fun (i:Nat)=>Int.ofNat i
theorem ZkE (good:Nat→Bool) (k:Nat):(ZaW good k).length≤k:=by
 unfold ZaW
 rw[List.length_map]
 exact Nat.le_trans (List.length_filter_le _ _) (by simp)
theorem ZoJ {good:Nat→Bool} {k:Nat} (h:good k=true):ZaW good (k+1)=ZaW good k++[(k:Int)]:=by
 unfold ZaW
 rw[List.range_succ,List.filter_append]
 simp[h]
theorem ZqX {good:Nat→Bool} {k:Nat} (h:good k=false):ZaW good (k+1)=ZaW good k:=by
 unfold ZaW
 rw[List.range_succ,List.filter_append]
 simp[h]
def Zq (n:PNet) (s:List UInt8) (k:Nat):Bool:=match n.wires[k]? with|some w=>ZiW n s k w !=ZnD s k|none=>false
theorem ZiM (n:PNet) (s:List UInt8) (hn:n.Fit) (hs:ZB s) (hv:Zfe n s=true) (hb:n.wires.length≤1048576):Zc1 [ZP n,.str s]=some (.lst ((ZaW (Zq n s) n.wires.length).map pI)):=by
 show (fun x0 x1=>Zc1 [x0,x1]) _ _=_
 rw[ZnF]
 simp only[ZP,EVS]
 refine (congrArg (fun m:Option PV=>m) (Zep (R:=PV) 0 n.wires.length (fun k=>[.lst ((ZaW (Zq n s) k).map pI),pI (Int.ofNat k)]) (some (.lst ((ZaW (Zq n s) n.wires.length).map pI))) _ (by omega) (fun again k h1 h2=> ?_) (fun again=> ?_) (Nat.zero_le _) _ (by simp[ZaW]))).trans ?_
 ·have ha:=Zzs n s k hn hs hv h2
  have a1:=Znr n s k _ ha
  simp only[ZP] at a1
  have hk:k<s.length:=ha.lt
  have hby:=Zs (k:=.i64) (List.getElem?_eq_getElem hk)
  have ho:ZnD s k=decide ((s[k].toNat:Int)=49):=by unfold ZnD;rw[List.getElem?_eq_getElem hk]
  have he:Zq n s k=(ZiW n s k n.wires[k] !=ZnD s k):=by unfold Zq;rw[List.getElem?_eq_getElem h2]
  have hl:(ZaW (Zq n s) k).length+[pI (k:Int)].length≤4294967296∧[pI (k:Int)].all (ZbB 1)=true:=⟨by have:=ZkE (Zq n s) k;simp;omega,rfl⟩
  have he':(!ZiW n s k n.wires[k]==decide ((s[k].toNat:Int)=49))=Zq n s k:=by rw[he,ho];rfl
  have hm:n.wires.length≤9223372036854775807:=by omega
  simp only[ZD h2,hby,a1,he',EVS]
  cases hE:Zq n s k
  ·simp only[Zm h2 hm,ZqX hE,EVS]
  ·simp only[if_pos hl,Zm h2 hm,ZoJ hE,List.map_append,List.map_cons,List.map_nil,EVS]
 ·simp only[Zac,EVS]
 ·rfl
theorem Zd1 (n:PNet) (s:List UInt8) (k:Nat) (hn:n.Fit) (hs:ZB s) (hv:Zfe n s=true) (h2:k<n.wires.length):ZaC [ZP n,.str s,pI k]=some (pB (Zq n s k)):=by
 have ha:=Zzs n s k hn hs hv h2
 have a1:=ZlZ n s k _ ha
 simp only[ZP] at a1
 have hk:k<s.length:=ha.lt
 have hby:=Zs (k:=.i64) (List.getElem?_eq_getElem hk)
 have he:Zq n s k=(ZiW n s k n.wires[k] !=decide ((s[k].toNat:Int)=49)):=by unfold Zq ZnD;rw[List.getElem?_eq_getElem h2,List.getElem?_eq_getElem hk]
 have hbit:Zif s[k]=true:=by
  unfold Zfe Zab at hv
  simp only[Bool.and_eq_true] at hv
  exact ZjE _ _ _ hv.2.1 k _ (List.getElem?_eq_getElem hk)
 unfold Zif at hbit
 simp only[Bool.or_eq_true,decide_eq_true_eq] at hbit
 show (fun x0 x1 x2=>ZaC [x0,x1,x2]) _ _ _=_
 rw[Zk0]
 simp only[ZP,a1,hby,Zw2,he,EVS]
 cases ZiW n s k n.wires[k]<;>rcases hbit with h|h<;>rw[h]<;>rfl
theorem ZmN (n:PNet) (s:List UInt8) (hn:n.Fit) (hs:ZB s) (hv:Zfe n s=true) (hb:n.wires.length≤1048576):Zc9 [ZP n,.str s]=some (.lst ((ZaW (Zq n s) n.wires.length).map pI)):=by
 show (fun x0 x1=>Zc9 [x0,x1]) _ _=_
 rw[Zl8]
 simp only[ZP,EVS]
 refine (congrArg (fun m:Option PV=>m) (Zep (R:=PV) 0 n.wires.length (fun k=>[.lst ((ZaW (Zq n s) k).map pI),pI (Int.ofNat k)]) (some (.lst ((ZaW (Zq n s) n.wires.length).map pI))) _ (by omega) (fun again k h1 h2=> ?_) (fun again=> ?_) (Nat.zero_le _) _ (by simp[ZaW]))).trans ?_
 ·have a1:=Zd1 n s k hn hs hv h2
  simp only[ZP] at a1
  have hl:(ZaW (Zq n s) k).length+[pI (k:Int)].length≤4294967296∧[pI (k:Int)].all (ZbB 1)=true:=⟨by have:=ZkE (Zq n s) k;simp;omega,rfl⟩
  have hm:n.wires.length≤9223372036854775807:=by omega
  simp only[ZD h2,a1,EVS]
  cases hE:Zq n s k
  ·simp only[Zm h2 hm,ZqX hE,EVS]
  ·simp only[if_pos hl,Zm h2 hm,ZoJ hE,List.map_append,List.map_cons,List.map_nil,EVS]
 ·simp only[Zac,EVS]
 ·rfl
def ZaR (m:Nat) (a:List UInt8×Int):Prop:=(a.1).length≤m
theorem ZxK (a:List UInt8×Int) (l:Int) (hb:ZaR 9223372036854775807 a) (h0:0≤l) (h1:l≤1048576):Zaw (Zfq [ZE a,pI l]) l (ZaR 1048576 a):=by
 have b0:=hb
 unfold ZaR at b0
 unfold ZaR
 show Zaw ((fun x0 x1=>Zfq [x0,x1]) _ _) _ _
 rw[Zqq]
 simp only[ZE,EVS]
 have w0:IntKind.i64.wrap (l - (a.1.length:Int))=(l - (a.1.length:Int)):=Zaj (by omega) (by omega)
 simp only[w0,EVS]
 by_cases c0:(l - (a.1.length:Int))<0
 ·simp only[c0,EVS];exact Zaw.neg h0
 simp only[c0,EVS]
 have q0:0≤(l - (a.1.length:Int))∧(l - (a.1.length:Int))≤l:=by omega
 exact Zaw.pos (by omega) (by omega)
theorem ZxL (a:List UInt8×Int) (hb:ZaR 1048576 a):Zfr [ZE a]=some (ZE a):=by
 have b0:=hb
 unfold ZaR at b0
 show (fun x0=>Zfr [x0]) _=_
 rw[Zqs]
 simp only[ZE,EVS]
theorem ZxM (a:List UInt8×Int) (hb:ZaR 9223372036854775807 a):Zfp [ZE a,ZE a]=some (pB true):=by
 have b0:=hb
 unfold ZaR at b0
 show (fun x0 x1=>Zfp [x0,x1]) _ _=_
 rw[Zqo]
 simp only[ZE,beq_self_eq_true,EVS]
theorem ZoK (xs:List (List UInt8×Int)) (l:Int) (hb:((xs).length≤9223372036854775807∧∀x∈xs,ZaR 9223372036854775807 x)) (h0:0≤l) (h1:l≤1048576):Zaw (Zdw [.lst (xs.map ZE),pI l]) l (((xs).length≤1048576∧∀x∈xs,ZaR 1048576 x)):=by
 have hx:xs.length≤9223372036854775807:=hb.1
 show Zaw ((fun x0 x1=>Zdw [x0,x1]) _ _) _ _
 rw[Zpq]
 have w1:IntKind.i64.wrap (l - (xs.length:Int))=l - (xs.length:Int):=Zaj (by omega) (by omega)
 simp only[w1,List.length_map,EVS]
 by_cases c:l - (xs.length:Int)<0
 ·simp only[c,EVS];exact Zaw.neg h0
 ·simp only[c,EVS]
  refine (Zaw.sc (Zrm xs (fun x=>ZaR 1048576 x) _ hx (fun again k x l' hk h2 h3=> ?_) (fun again l'=> ?_) (by omega) (by omega))).mono (by omega) (fun h=>⟨by omega,h⟩)
  ·have hi:Zl (.lst (xs.map ZE)) (.int .i64 (k:Int))=some ((ZE x)):=Zj hk
   obtain ⟨r,g1,g2,g3⟩:=ZxK x l' (hb.2 x (List.mem_of_getElem? hk)) h2 h3
   refine ⟨r,g2,g3, ?_⟩
   simp only[ZE] at g1 hi
   simp only[ZD (Ze hk),Zm (Ze hk) hx,hi,g1,EVS]
   by_cases c2:r<0<;>simp only[c2,EVS]
  ·simp only[Zac,EVS]
theorem ZoL (xs:List (List UInt8×Int)) (hb:((xs).length≤1048576∧∀x∈xs,ZaR 1048576 x)):Zdy [.lst (xs.map ZE)]=some (.lst (xs.map ZE)):=by
 have hx:xs.length≤1048576:=hb.1
 show (fun x0=>Zdy [x0]) _=_
 rw[Zpu]
 simp only[Zu0 _ _ (show xs.length≤4294967296 by omega),List.length_map,EVS]
 refine Zmw xs ZE 2 _ _ (by omega) ?_ (fun _=> ?_) (fun _=> ?_) (fun again k x row el hk hl he hs=> ?_) (fun again row=> ?_)
 ·rfl
 ·rfl
 ·exact ⟨fun _=>⟨_,rfl⟩,fun _=>⟨_,rfl⟩⟩
 ·have hi:Zl (.lst (xs.map ZE)) (.int .i64 (k:Int))=some ((ZE x)):=Zj hk
  have hkr:k<row.length:=by rw[hl];exact Ze hk
  have g1:=ZxL x (hb.2 x (List.mem_of_getElem? hk))
  simp only[ZE] at g1 hi hs
  simp only[ZE,ZD (Ze hk),Zm (Ze hk) (show xs.length≤9223372036854775807 by omega),hi,g1,Ze3 hkr,he,hs,EVS]
 ·simp only[Zac,EVS]
theorem ZoM (xs:List (List UInt8×Int)) (hb:((xs).length≤9223372036854775807∧∀x∈xs,ZaR 9223372036854775807 x)):Zdu [.lst (xs.map ZE),.lst (xs.map ZE)]=some (pB true):=by
 have hx:xs.length≤9223372036854775807:=hb.1
 show (fun x0 x1=>Zdu [x0,x1]) _ _=_
 rw[Zpm]
 simp only[List.length_map,EVS]
 refine (congrArg (fun m:Option PV=>m.bind fun r=>if r.sc=true then some r else none) (ZM (R:=PV) xs (fun _ _=>true) (some (pB false)) (some (pB true)) _ hx (fun again k x hk=> ?_) (fun again=> ?_))).trans ?_
 ·have hi:Zl (.lst (xs.map ZE)) (.int .i64 (k:Int))=some ((ZE x)):=Zj hk
  have g1:=ZxM x (hb.2 x (List.mem_of_getElem? hk))
  simp only[ZE] at g1 hi
  simp only[ZD (Ze hk),Zm (Ze hk) hx,hi,g1,EVS]
 ·simp only[Zac,EVS]
 ·rw[show ZS (fun (_:Nat) (_:List UInt8×Int)=>true) 0 xs=true from Zek xs 0];rfl
theorem to_Pin (a:Int×Bool):ZjL [Zad a]=some (Zad a):=by
 show (fun x0=>ZjL [x0]) _=_
 rw[ZvY]
 simp only[Zad,EVS]
theorem eq_Pin (a:Int×Bool):ZjJ [Zad a,Zad a]=some (pB true):=by
 show (fun x0 x1=>ZjJ [x0,x1]) _ _=_
 rw[ZvU]
 simp only[Zad,beq_self_eq_true,EVS]
theorem ZzX (xs:List (Int×Bool)) (l:Int) (hb:(xs).length≤9223372036854775807) (h0:0≤l) (h1:l≤1048576):Zaw (ZhP [.lst (xs.map Zad),pI l]) l ((xs).length≤1048576):=by
 have hx:xs.length≤9223372036854775807:=hb
 show Zaw ((fun x0 x1=>ZhP [x0,x1]) _ _) _ _
 rw[Zuk]
 have w1:IntKind.i64.wrap (l - (xs.length:Int))=l - (xs.length:Int):=Zaj (by omega) (by omega)
 simp only[w1,List.length_map,EVS]
 by_cases c:l - (xs.length:Int)<0
 ·simp only[c,EVS];exact Zaw.neg h0
 ·simp only[c,EVS];exact Zaw.pos (by omega) (by omega)
theorem ZzY (xs:List (Int×Bool)) (hb:(xs).length≤1048576):ZhT [.lst (xs.map Zad)]=some (.lst (xs.map Zad)):=by
 have hx:xs.length≤1048576:=hb
 show (fun x0=>ZhT [x0]) _=_
 rw[Zuq]
 simp only[Zu0 _ _ (show xs.length≤4294967296 by omega),List.length_map,EVS]
 refine Zmw xs Zad 2 _ _ (by omega) ?_ (fun _=> ?_) (fun _=> ?_) (fun again k x row el hk hl he hs=> ?_) (fun again row=> ?_)
 ·rfl
 ·rfl
 ·exact ⟨fun _=>⟨_,rfl⟩,fun _=>⟨_,rfl⟩⟩
 ·have hi:Zl (.lst (xs.map Zad)) (.int .i64 (k:Int))=some ((Zad x)):=Zj hk
  have hkr:k<row.length:=by rw[hl];exact Ze hk
  have g1:=to_Pin x
  simp only[Zad] at g1 hi hs
  simp only[Zad,ZD (Ze hk),Zm (Ze hk) (show xs.length≤9223372036854775807 by omega),hi,g1,Ze3 hkr,he,hs,EVS]
 ·simp only[Zac,EVS]
theorem ZzZ (xs:List (Int×Bool)) (hb:(xs).length≤9223372036854775807):ZhH [.lst (xs.map Zad),.lst (xs.map Zad)]=some (pB true):=by
 have hx:xs.length≤9223372036854775807:=hb
 show (fun x0 x1=>ZhH [x0,x1]) _ _=_
 rw[Zue]
 simp only[List.length_map,EVS]
 refine (congrArg (fun m:Option PV=>m.bind fun r=>if r.sc=true then some r else none) (ZM (R:=PV) xs (fun _ _=>true) (some (pB false)) (some (pB true)) _ hx (fun again k x hk=> ?_) (fun again=> ?_))).trans ?_
 ·have hi:Zl (.lst (xs.map Zad)) (.int .i64 (k:Int))=some ((Zad x)):=Zj hk
  have g1:=eq_Pin x
  simp only[Zad] at g1 hi
  simp only[ZD (Ze hk),Zm (Ze hk) hx,hi,g1,EVS]
 ·simp only[Zac,EVS]
 ·rw[show ZS (fun (_:Nat) (_:Int×Bool)=>true) 0 xs=true from Zek xs 0];rfl
theorem ZoN (xs:List (List UInt8)) (l:Int) (hb:((xs).length≤9223372036854775807∧∀x∈xs,(x).length≤9223372036854775807)) (h0:0≤l) (h1:l≤1048576):Zaw (Zdx [.lst (xs.map PV.str),pI l]) l (((xs).length≤1048576∧∀x∈xs,(x).length≤1048576)):=by
 have hx:xs.length≤9223372036854775807:=hb.1
 show Zaw ((fun x0 x1=>Zdx [x0,x1]) _ _) _ _
 rw[Zpr]
 have w1:IntKind.i64.wrap (l - (xs.length:Int))=l - (xs.length:Int):=Zaj (by omega) (by omega)
 simp only[w1,List.length_map,EVS]
 by_cases c:l - (xs.length:Int)<0
 ·simp only[c,EVS];exact Zaw.neg h0
 ·simp only[c,EVS]
  refine (Zaw.sc (Zrm xs (fun x=>(x).length≤1048576) _ hx (fun again k x l' hk h2 h3=> ?_) (fun again l'=> ?_) (by omega) (by omega))).mono (by omega) (fun h=>⟨by omega,h⟩)
  ·have hi:Zl (.lst (xs.map PV.str)) (.int .i64 (k:Int))=some ((.str x)):=Zj hk
   have hxl:=hb.2 x (List.mem_of_getElem? hk)
   have w2:IntKind.i64.wrap (l' - (x.length:Int))=l' - (x.length:Int):=Zaj (by omega) (by omega)
   refine ⟨l' - (x.length:Int),by omega,fun h=>by omega, ?_⟩
   simp only[ZD (Ze hk),Zm (Ze hk) hx,hi,w2,EVS]
   by_cases c2:l' - (x.length:Int)<0<;>simp only[c2,EVS]
  ·simp only[Zac,EVS]
theorem ZoO (xs:List (List UInt8)) (hb:((xs).length≤1048576∧∀x∈xs,(x).length≤1048576)):Zdz [.lst (xs.map PV.str)]=some (.lst (xs.map PV.str)):=by
 have hx:xs.length≤1048576:=hb.1
 show (fun x0=>Zdz [x0]) _=_
 rw[Zpv]
 simp only[Zu0 _ _ (show xs.length≤4294967296 by omega),List.length_map,EVS]
 refine Zmw xs PV.str 1 _ _ (by omega) ?_ (fun _=> ?_) (fun _=> ?_) (fun again k x row el hk hl he hs=> ?_) (fun again row=> ?_)
 ·rfl
 ·rfl
 ·constructor<;>(rintro ⟨l,h⟩;cases h)
 ·have hi:Zl (.lst (xs.map PV.str)) (.int .i64 (k:Int))=some ((.str x)):=Zj hk
  have hkr:k<row.length:=by rw[hl];exact Ze hk
  simp only[ZD (Ze hk),Zm (Ze hk) (show xs.length≤9223372036854775807 by omega),hi,Ze3 hkr,he,hs,EVS]
 ·simp only[Zac,EVS]
theorem ZoP (xs:List (List UInt8)) (hb:((xs).length≤9223372036854775807∧∀x∈xs,(x).length≤9223372036854775807)):Zdv [.lst (xs.map PV.str),.lst (xs.map PV.str)]=some (pB true):=by
 have hx:xs.length≤9223372036854775807:=hb.1
 show (fun x0 x1=>Zdv [x0,x1]) _ _=_
 rw[Zpn]
 simp only[List.length_map,EVS]
 refine (congrArg (fun m:Option PV=>m.bind fun r=>if r.sc=true then some r else none) (ZM (R:=PV) xs (fun _ _=>true) (some (pB false)) (some (pB true)) _ hx (fun again k x hk=> ?_) (fun again=> ?_))).trans ?_
 ·have hi:Zl (.lst (xs.map PV.str)) (.int .i64 (k:Int))=some ((.str x)):=Zj hk
  simp only[ZD (Ze hk),Zm (Ze hk) hx,hi,beq_self_eq_true,EVS]
 ·simp only[Zac,EVS]
 ·rw[show ZS (fun (_:Nat) (_:List UInt8)=>true) 0 xs=true from Zek xs 0];rfl
def Ze4 (m:Nat) (a:PWire):Prop:=(a.name).length≤m∧(a.ins).length≤m∧((a.cover).length≤m∧∀x∈a.cover,(x).length≤m)
theorem Zz0 (a:PWire) (l:Int) (hb:Ze4 9223372036854775807 a) (h0:0≤l) (h1:l≤1048576):Zaw (ZhQ [Zu a,pI l]) l (Ze4 1048576 a):=by
 obtain ⟨b0,b1,b2⟩:=hb
 unfold Ze4
 show Zaw ((fun x0 x1=>ZhQ [x0,x1]) _ _) _ _
 rw[Zum]
 simp only[Zu,EVS]
 have w0:IntKind.i64.wrap (l - (a.name.length:Int))=(l - (a.name.length:Int)):=Zaj (by omega) (by omega)
 simp only[w0,EVS]
 by_cases c0:(l - (a.name.length:Int))<0
 ·simp only[c0,EVS];exact Zaw.neg h0
 simp only[c0,EVS]
 have q0:0≤(l - (a.name.length:Int))∧(l - (a.name.length:Int))≤l:=by omega
 obtain ⟨r1,g1,y1,z1⟩:=ZzX a.ins (l - (a.name.length:Int)) b1 (by omega) (by omega)
 try simp only[g1,EVS]
 by_cases c1:r1<0
 ·simp only[g1,c1,EVS];exact Zaw.neg h0
 try simp only[g1,c1,EVS]
 have q1:0≤r1∧r1≤l:=by omega
 obtain ⟨r2,g2,y2,z2⟩:=ZoN a.cover r1 b2 (by omega) (by omega)
 try simp only[g2,EVS]
 by_cases c2:r2<0
 ·simp only[g2,c2,EVS];exact Zaw.neg h0
 try simp only[g2,c2,EVS]
 have q2:0≤r2∧r2≤l:=by omega
 exact Zaw.pos (by omega) ⟨(by omega),(z1 (by omega)),(z2 (by omega))⟩
theorem Zz1 (a:PWire) (hb:Ze4 1048576 a):ZhU [Zu a]=some (Zu a):=by
 obtain ⟨b0,b1,b2⟩:=hb
 have g0:=ZzY a.ins b1
 have g1:=ZoO a.cover b2
 show (fun x0=>ZhU [x0]) _=_
 rw[Zus]
 simp only[Zu,g0,g1,EVS]
theorem Zz2 (a:PWire) (hb:Ze4 9223372036854775807 a):ZhI [Zu a,Zu a]=some (pB true):=by
 obtain ⟨b0,b1,b2⟩:=hb
 have g0:=ZzZ a.ins b1
 have g1:=ZoP a.cover b2
 show (fun x0 x1=>ZhI [x0,x1]) _ _=_
 rw[Zug]
 simp only[Zu,g0,g1,beq_self_eq_true,EVS]
theorem Zzc (xs:List (PWire)) (l:Int) (hb:((xs).length≤9223372036854775807∧∀x∈xs,Ze4 9223372036854775807 x)) (h0:0≤l) (h1:l≤1048576):Zaw (Zga [.lst (xs.map Zu),pI l]) l (((xs).length≤1048576∧∀x∈xs,Ze4 1048576 x)):=by
 have hx:xs.length≤9223372036854775807:=hb.1
 show Zaw ((fun x0 x1=>Zga [x0,x1]) _ _) _ _
 rw[Zse]
 have w1:IntKind.i64.wrap (l - (xs.length:Int))=l - (xs.length:Int):=Zaj (by omega) (by omega)
 simp only[w1,List.length_map,EVS]
 by_cases c:l - (xs.length:Int)<0
 ·simp only[c,EVS];exact Zaw.neg h0
 ·simp only[c,EVS]
  refine (Zaw.sc (Zrm xs (fun x=>Ze4 1048576 x) _ hx (fun again k x l' hk h2 h3=> ?_) (fun again l'=> ?_) (by omega) (by omega))).mono (by omega) (fun h=>⟨by omega,h⟩)
  ·have hi:Zl (.lst (xs.map Zu)) (.int .i64 (k:Int))=some ((Zu x)):=Zj hk
   obtain ⟨r,g1,g2,g3⟩:=Zz0 x l' (hb.2 x (List.mem_of_getElem? hk)) h2 h3
   refine ⟨r,g2,g3, ?_⟩
   simp only[Zu] at g1 hi
   simp only[ZD (Ze hk),Zm (Ze hk) hx,hi,g1,EVS]
   by_cases c2:r<0<;>simp only[c2,EVS]
  ·simp only[Zac,EVS]
theorem Zzd (xs:List (PWire)) (hb:((xs).length≤1048576∧∀x∈xs,Ze4 1048576 x)):Zgb [.lst (xs.map Zu)]=some (.lst (xs.map Zu)):=by
 have hx:xs.length≤1048576:=hb.1
 show (fun x0=>Zgb [x0]) _=_
 rw[Zsg]
 simp only[Zu0 _ _ (show xs.length≤4294967296 by omega),List.length_map,EVS]
 refine Zmw xs Zu 4 _ _ (by omega) ?_ (fun _=> ?_) (fun _=> ?_) (fun again k x row el hk hl he hs=> ?_) (fun again row=> ?_)
 ·rfl
 ·rfl
 ·exact ⟨fun _=>⟨_,rfl⟩,fun _=>⟨_,rfl⟩⟩
 ·have hi:Zl (.lst (xs.map Zu)) (.int .i64 (k:Int))=some ((Zu x)):=Zj hk
  have hkr:k<row.length:=by rw[hl];exact Ze hk
  have g1:=Zz1 x (hb.2 x (List.mem_of_getElem? hk))
  simp only[Zu] at g1 hi hs
  simp only[Zu,ZD (Ze hk),Zm (Ze hk) (show xs.length≤9223372036854775807 by omega),hi,g1,Ze3 hkr,he,hs,EVS]
 ·simp only[Zac,EVS]
theorem Zze (xs:List (PWire)) (hb:((xs).length≤9223372036854775807∧∀x∈xs,Ze4 9223372036854775807 x)):Zf9 [.lst (xs.map Zu),.lst (xs.map Zu)]=some (pB true):=by
 have hx:xs.length≤9223372036854775807:=hb.1
 show (fun x0 x1=>Zf9 [x0,x1]) _ _=_
 rw[Zsc]
 simp only[List.length_map,EVS]
 refine (congrArg (fun m:Option PV=>m.bind fun r=>if r.sc=true then some r else none) (ZM (R:=PV) xs (fun _ _=>true) (some (pB false)) (some (pB true)) _ hx (fun again k x hk=> ?_) (fun again=> ?_))).trans ?_
 ·have hi:Zl (.lst (xs.map Zu)) (.int .i64 (k:Int))=some ((Zu x)):=Zj hk
  have g1:=Zz2 x (hb.2 x (List.mem_of_getElem? hk))
  simp only[Zu] at g1 hi
  simp only[ZD (Ze hk),Zm (Ze hk) hx,hi,g1,EVS]
 ·simp only[Zac,EVS]
 ·rw[show ZS (fun (_:Nat) (_:PWire)=>true) 0 xs=true from Zek xs 0];rfl
def ZdX (m:Nat) (a:PNet):Prop:=((a.signals).length≤m∧∀x∈a.signals,ZaR m x)∧((a.wires).length≤m∧∀x∈a.wires,Ze4 m x)
theorem Zvq (a:PNet) (l:Int) (hb:ZdX 9223372036854775807 a) (h0:0≤l) (h1:l≤1048576):Zaw (ZeL [ZP a,pI l]) l (ZdX 1048576 a):=by
 obtain ⟨b0,b1⟩:=hb
 unfold ZdX
 show Zaw ((fun x0 x1=>ZeL [x0,x1]) _ _) _ _
 rw[Zpt]
 simp only[ZP,EVS]
 obtain ⟨r0,g0,y0,z0⟩:=ZoK a.signals l b0 (by omega) (by omega)
 try simp only[g0,EVS]
 by_cases c0:r0<0
 ·simp only[g0,c0,EVS];exact Zaw.neg h0
 try simp only[g0,c0,EVS]
 have q0:0≤r0∧r0≤l:=by omega
 obtain ⟨r1,g1,y1,z1⟩:=Zzc a.wires r0 b1 (by omega) (by omega)
 try simp only[g1,EVS]
 by_cases c1:r1<0
 ·simp only[g1,c1,EVS];exact Zaw.neg h0
 try simp only[g1,c1,EVS]
 have q1:0≤r1∧r1≤l:=by omega
 exact Zaw.pos (by omega) ⟨(z0 (by omega)),(z1 (by omega))⟩
theorem Zvr (a:PNet) (hb:ZdX 1048576 a):Zcs [ZP a]=some (ZP a):=by
 obtain ⟨b0,b1⟩:=hb
 have g0:=ZoL a.signals b0
 have g1:=Zzd a.wires b1
 show (fun x0=>Zcs [x0]) _=_
 rw[Zpx]
 simp only[ZP,g0,g1,EVS]
theorem Zvs (a:PNet) (hb:ZdX 9223372036854775807 a):ZeI [ZP a,ZP a]=some (pB true):=by
 obtain ⟨b0,b1⟩:=hb
 have g0:=ZoM a.signals b0
 have g1:=Zze a.wires b1
 show (fun x0 x1=>ZeI [x0,x1]) _ _=_
 rw[Zpp]
 simp only[ZP,g0,g1,beq_self_eq_true,EVS]
theorem PNet.fit_of {n:PNet} (h:ZdX 9223372036854775807 n):n.Fit:=by
 obtain ⟨⟨h1,h2⟩,h3,h4⟩:=h
 exact ⟨h1,fun s hs=>h2 s hs,h3,fun w hw=>⟨(h4 w hw).1,(h4 w hw).2.1,(h4 w hw).2.2.1,(h4 w hw).2.2.2⟩⟩
def Zgo (n:PNet) (v:List UInt8) (k:Nat):Bool:=match n.wires[k]? with|some w=>ZiW n v k w|none=>false
def ZlO (n:PNet):Nat→Nat→List UInt8→List UInt8
 |0,_,v=>v
 |c+1,k,v=>ZlO n c (k+1) (v.set k (ZfU (Zgo n v k)))
def Zfd (n:PNet) (code:List UInt8):List UInt8:=ZlO n (n.wires.length - n.signals.length) n.signals.length (code++List.replicate (n.wires.length - n.signals.length) 48)
theorem Zen {n:PNet} (h:Zgp n=true):n.signals.length≤n.wires.length∧n.wires.length≤24:=by
 unfold Zgp at h
 simp only[Bool.and_eq_true,Bool.not_eq_true',decide_eq_false_iff_not] at h
 omega
theorem ZwX {n:PNet} {v:List UInt8} {k:Nat} (hn:n.Fit) (hv:Zgp n=true) (hb:Zab v n.wires.length=true) (hk:k<n.wires.length):At n v k n.wires[k]∧ZiW n v k n.wires[k]=Zgo n v k:=by
 have hl:=(Zcr.1 hb).2
 refine ⟨Zzs n v k hn (by unfold ZB;have:=(Zen hv).2;omega) (by unfold Zfe;rw[hv,hb];rfl) hk, ?_⟩
 unfold Zgo
 rw[List.getElem?_eq_getElem hk]
theorem Zp1 (n:PNet) (code:List UInt8) (hn:n.Fit) (hv:Zgp n=true) (hc:Zab code n.signals.length=true):ZeP [ZP n,.str code]=some (.str (Zfd n code)):=by
 obtain ⟨hs1,hs2⟩:=Zen hv
 have hcl:=(Zcr.1 hc).2
 obtain ⟨N,hN⟩:∃N,n.wires.length=N:=⟨_,rfl⟩
 obtain ⟨m,hm⟩:∃m,n.signals.length=m:=⟨_,rfl⟩
 show (fun x0 x1=>ZeP [x0,x1]) _ _=_
 rw[ZpA]
 simp only[ZP,EVS]
 have key:=Zcj (R:=PV) (fun j:{j:Nat // j≤N - m}=>[.str (code++List.replicate j.1 48)]) (fun j=>N - m+1 - j.1) (fun _=>some (.str (Zfd n code)))
 have key':∀f:(List PV→Option PV)→List PV→Option PV,(∀again (a:{j:Nat // j≤N - m}),(∀a':{j:Nat // j≤N - m},N - m+1 - a'.1<N - m+1 - a.1→again [.str (code++List.replicate a'.1 48)]=some (.str (Zfd n code)))→f again [.str (code++List.replicate a.1 48)]=some (.str (Zfd n code)))→Zn f 18446744073709551616 [.str code]=some (.str (Zfd n code)):=fun f hf=>by
  have:=key f hf 18446744073709551616 ⟨0,Nat.zero_le _⟩ (by simp only;omega)
  simpa using this
 refine (congrArg (fun m:Option PV=>m.bind fun r=>if r.sc=true then some r else none) (key' _ (fun again j ih=> ?_))).trans rfl
 obtain ⟨j,hj⟩:=j
 dsimp only at ih⊢
 have hlen:(code++List.replicate j (48:UInt8)).length=m+j:=by simp;omega
 by_cases c1:m+j<N
 ·have h1:decide (((m+j:Nat):Int)<(N:Int))=true:=by simp;omega
  have h0:Zd .add TD.str (.str (code++List.replicate j (48:UInt8))) (.str [48])=some (.str (code++List.replicate (j+1) (48:UInt8))):=by
   rw[Zmv (by simp at hlen⊢;omega),List.append_assoc,←List.replicate_succ']
  have h5:Zd .add TD.str (.str (code++List.replicate j (48:UInt8))) (.str [(48:UInt8)])=some (.str (code++List.replicate (j+1) (48:UInt8))):=h0
  simp only[hN,hlen,h1,h0,h5,List.length_map,EVS]
  exact ih ⟨j+1,by omega⟩ (by simp only;omega)
 ·obtain rfl:j=N - m:=by omega
  have h1:decide (((m+(N - m):Nat):Int)<(N:Int))=false:=by simp;omega
  simp only[hN,hm,hlen,h1,List.length_map,EVS]
  have key2:=Zcj (R:=PV) (fun q:{q:List UInt8×Nat // Zab q.1 N=true∧q.2≤N}=>[.str q.1.1,pI (Int.ofNat q.1.2)]) (fun q=>N+1 - q.1.2) (fun q=>some (.str (ZlO n (N - q.1.2) q.1.2 q.1.1)))
  have hb0:Zab (code++List.replicate (N - m) (48:UInt8)) N=true:=ZtM (by rw[←hm];exact hc) (by omega)
  refine (key2 _ (fun again q ih=> ?_) 18446744073709551616 ⟨(code++List.replicate (N - m) 48,m),hb0,by omega⟩ (by simp only;omega)).trans ?_
  ·obtain ⟨⟨v,k⟩,hb,hk⟩:=q
   dsimp only at ih hb hk⊢
   have hvl:=(Zcr.1 hb).2
   by_cases c2:k<N
   ·obtain ⟨a1,a2⟩:=ZwX (k:=k) hn hv (by rw[hN];exact hb) (by omega)
    have a3:=Znr n v k _ a1
    rw[a2] at a3
    simp only[ZP] at a3
    have a4:=ZjG v k (ZfU (Zgo n v k)) (by omega) (by unfold ZB;omega)
    have h3:decide ((k:Int)<(N:Int))=true:=by simpa using c2
    have hw:IntKind.i64.wrap ((k:Int)+1)=((k+1:Nat):Int):=by rw[Zaj (by omega) (by omega)];omega
    simp only[hN,h3,a3,ZjF,a4,hw,List.length_map,EVS]
    have h4:=ih ⟨(v.set k (ZfU (Zgo n v k)),k+1),ZtL hb _,by omega⟩ (by simp only;omega)
    rw[show N - k=(N - (k+1))+1 by omega]
    exact h4
   ·obtain rfl:k=N:=by omega
    have h3:decide ((k:Int)<(k:Int))=false:=by simp
    simp only[hN,h3,List.length_map,EVS]
    rw[Nat.sub_self]
    rfl
  ·unfold Zfd
   rw[hN,hm]
theorem Ztr (c:UInt8):∀k,Lib.repeatL [c] k=List.replicate k c
 |0=>rfl
 |k+1=>by rw[Lib.repeatL,Ztr c k];rfl
theorem ZkF (c:UInt8) (k:Nat) (h:k≤1048576):Za0 [.str [c],pI k]=some (.str (List.replicate k c)):=by
 have h1:(0:Int)≤(k:Int)∧(k:Int)≤9223372036854775807∧(([c]:List UInt8).length:Int) * (k:Int)≤140737488355328:=by simp;omega
 show (if (0:Int)≤(k:Int)∧(k:Int)≤9223372036854775807∧(([c]:List UInt8).length:Int) * (k:Int)≤140737488355328 then some (PV.str (Lib.repeatL [c] (Int.toNat (k:Int)))) else none)=_
 rw[if_pos h1,Int.toNat_natCast,Ztr]
theorem Zvt (n:PNet) (code:List UInt8) (hn:n.Fit) (hv:Zgp n=true) (hc:Zab code n.signals.length=true):Zhq [ZP n,.str code]=some (.str (Zfd n code)):=by
 obtain ⟨hs1,hs2⟩:=Zen hv
 have hcl:=(Zcr.1 hc).2
 obtain ⟨N,hN⟩:∃N,n.wires.length=N:=⟨_,rfl⟩
 obtain ⟨m,hm⟩:∃m,n.signals.length=m:=⟨_,rfl⟩
 have hb0:Zab (code++List.replicate (N - m) (48:UInt8)) N=true:=ZtM (by rw[←hm];exact hc) (by omega)
 show (fun x0 x1=>Zhq [x0,x1]) _ _=_
 rw[ZtZ]
 have hw1:IntKind.i64.wrap ((N:Int) - (m:Int))=((N - m:Nat):Int):=by rw[Zaj (by omega) (by omega)];omega
 have hr:Za0 [.str [(48:UInt8)],pI ((N - m:Nat):Int)]=some (.str (List.replicate (N - m) 48)):=ZkF 48 (N - m) (by omega)
 have hcl':code.length=m:=by omega
 have h0:Zd .add TD.str (.str code) (.str (List.replicate (N - m) (48:UInt8)))=some (.str (code++List.replicate (N - m) (48:UInt8))):=Zmv (by simp;omega)
 simp only[ZP,hN,hcl',hw1,hr,h0,List.length_map,EVS]
 have key2:=Zcj (R:=PV) (fun q:{q:List UInt8×Nat // Zab q.1 N=true∧q.2≤N}=>[.str q.1.1,pI (Int.ofNat q.1.2)]) (fun q=>N+1 - q.1.2) (fun q=>some (.str (ZlO n (N - q.1.2) q.1.2 q.1.1)))
 refine (congrArg (fun m:Option PV=>m.bind fun r=>if r.sc=true then some r else none) (key2 _ (fun again q ih=> ?_) 18446744073709551616 ⟨(code++List.replicate (N - m) 48,m),hb0,by omega⟩ (by simp only;omega))).trans ?_
 ·obtain ⟨⟨v,k⟩,hb,hk⟩:=q
  dsimp only at ih hb hk⊢
  have hvl:=(Zcr.1 hb).2
  by_cases c2:k<N
  ·obtain ⟨a1,a2⟩:=ZwX (k:=k) hn hv (by rw[hN];exact hb) (by omega)
   have a3:=ZlZ n v k _ a1
   rw[a2] at a3
   simp only[ZP] at a3
   have h3:decide ((k:Int)<(N:Int))=true:=by simpa using c2
   have hw:IntKind.i64.wrap ((k:Int)+1)=((k+1:Nat):Int):=by rw[Zaj (by omega) (by omega)];omega
   have h4:ZfT (.str v) none (some (.int .i64 (k:Int)))=some (.str (v.take k)):=Zjy (by omega)
   have h5:ZfT (.str v) (some (.int .i64 ((k+1:Nat):Int))) none=some (.str (v.drop (k+1))):=ZqJ (by omega)
   have h6:Zd .add TD.str (.str (v.take k)) (.str [ZfU (Zgo n v k)])=some (.str (v.take k++[ZfU (Zgo n v k)])):=Zmv (by simp;omega)
   have h7:Zd .add TD.str (.str (v.take k++[ZfU (Zgo n v k)])) (.str (v.drop (k+1)))=some (.str (v.take k++[ZfU (Zgo n v k)]++v.drop (k+1))):=Zmv (by simp;omega)
   simp only[hvl,h3,h4,a3,Zw2,h6,hw,h5,h7,Zw3 v k _ (show k<v.length by omega),EVS]
   have h8:=ih ⟨(v.set k (ZfU (Zgo n v k)),k+1),ZtL hb _,by omega⟩ (by simp only;omega)
   rw[show N - k=(N - (k+1))+1 by omega]
   exact h8
  ·obtain rfl:k=N:=by omega
   have h3:decide ((k:Int)<(k:Int))=false:=by simp
   simp only[hvl,h3,EVS]
   rw[Nat.sub_self]
   rfl
 ·unfold Zfd
  rw[hN,hm]
  rfl
def Zts (a:PArc):Zfy:=(a.from_,a.sig,a.up,a.to_)
def Znl (c:PSG):List (List Int):=ZdT c.codes.length c.signals.length (c.arcs.map Zts)
def toC (c:PSG) (k s:Nat):Int:=Ze8 (Znl c) k s
structure Go1 (c:PSG) (n:PNet):Prop where
 net:Zgp n=true
 one:1≤c.codes.length
 many:c.codes.length≤300
 sone:1≤c.signals.length
 smany:c.signals.length≤8
 few:c.arcs.length≤4000
 bits:∀x∈c.codes,Zab x c.signals.length=true
 arcs:∀a∈c.arcs,0≤a.from_∧a.from_<c.codes.length∧0≤a.to_∧a.to_<c.codes.length∧0≤a.sig∧a.sig<c.signals.length
 det:∀a∈c.arcs,∀b∈c.arcs,a.from_=b.from_→a.sig=b.sig→a.to_=b.to_
 same:c.signals=n.signals
 fitc:SGFit c
 fitn:n.Fit
theorem ZoQ (w:PArc→PArc→Bool) (i:Nat) (a:PArc):∀(l:List PArc) (k:Nat) (acc:List (Nat×Nat)),ZdL w i a k acc l=[]→acc=[]∧∀b∈l,w a b=false
 |[],k,acc,h=>⟨h,by simp⟩
 | b::l,k,acc,h=>by
  unfold ZdL at h
  obtain ⟨h1,h2⟩:=ZoQ w i a l (k+1) _ h
  cases c:w a b
  ·rw[c] at h1
   simp only[Bool.false_eq_true,if_false] at h1
   refine ⟨h1,fun x hx=> ?_⟩
   rcases List.mem_cons.1 hx with rfl|hx
   ·exact c
   ·exact h2 x hx
  ·rw[c] at h1
   simp at h1
theorem ZoR (w:PArc→PArc→Bool) (arcs:List PArc):∀(l:List PArc) (k:Nat) (acc:List (Nat×Nat)),Zhe w arcs k acc l=[]→acc=[]∧∀(i:Nat) (a:PArc),l[i]?=some a→∀b∈arcs.drop (k+i+1),w a b=false
 |[],k,acc,h=>⟨h,by simp⟩
 | a::l,k,acc,h=>by
  unfold Zhe at h
  obtain ⟨h1,h2⟩:=ZoR w arcs l (k+1) _ h
  obtain ⟨h3,h4⟩:=ZoQ w _ a _ _ _ h1
  refine ⟨h3,fun i x hx=> ?_⟩
  cases i with
  |zero=>simp at hx;subst hx;exact h4
  | succ i=>
   have:=h2 i x (by simpa using hx)
   rwa[show k+1+i+1=k+(i+1)+1 by omega] at this
theorem ZxN {c:PSG} (h:ZgO c=true):1≤c.signals.length∧c.signals.length≤8:=by
 unfold ZgO Zkg inR at h
 simp only[Bool.and_eq_true,decide_eq_true_eq] at h
 omega
theorem ZrM {c:PSG} {n:PNet} (h:goP c n=true) (hc:SGFit c) (hn:n.Fit):Go1 c n:=by
 unfold goP Zw8 at h
 simp only[Bool.and_eq_true,Bool.not_eq_true',decide_eq_true_eq] at h
 obtain ⟨⟨hs,hnet⟩,⟨hh,hw⟩,hsame⟩:=h
 obtain ⟨h1,h2,h3,h4⟩:=ZjH hs
 have hp:=ZiY h1 h2
 have hsg:=ZxN h1
 have harc:∀a∈c.arcs,0≤a.from_∧a.from_<c.codes.length∧0≤a.to_∧a.to_<c.codes.length∧0≤a.sig∧a.sig<c.signals.length:=fun a ha=>by
  have h5:=List.all_eq_true.1 h3 a ha
  have h6:a.sig≠ -1:=fun e=>by
   have:Zhc c.arcs=true:=List.any_eq_true.2 ⟨a,ha,decide_eq_true e⟩
   rw[this] at hh;cases hh
  unfold ZkQ Zc7 Zf4 inR at h5
  simp only[Bool.and_eq_true,Bool.or_eq_true,decide_eq_true_eq] at h5
  omega
 refine ⟨hnet,hp.one,hp.many,hsg.1,hsg.2,hp.arcs,hp.bits,harc, ?_,hsame,hc,hn⟩
 have hways:Zi3 ZkR c=[]:=List.length_eq_zero_iff.1 (by omega)
 have hkey:=(ZoR ZkR c.arcs c.arcs 0 [] hways).2
 have hlt:∀(i j:Nat) (a b:PArc),i<j→c.arcs[i]?=some a→c.arcs[j]?=some b→a.from_=b.from_→a.sig=b.sig→a.to_=b.to_:=fun i j a b hij hi hj e1 e2=>by
  have:=hkey i a hi b (by
   rw[Nat.zero_add]
   refine List.mem_of_getElem? (i:=j - (i+1)) ?_
   rw[List.getElem?_drop,show i+1+(j - (i+1))=j by omega]
   exact hj)
  have h6:=(harc a (List.mem_of_getElem? hi)).2.2.2.2.1
  unfold ZkR at this
  simp only[e1,e2,decide_true,Bool.and_true,Bool.true_and] at this
  have hn1:decide (b.sig= -1)=false:=by simp only[decide_eq_false_iff_not];omega
  rw[hn1] at this
  simp only[Bool.not_false,Bool.true_and,Bool.not_eq_false',decide_eq_true_eq] at this
  exact this.symm
 intro a ha b hb e1 e2
 obtain ⟨i,hi⟩:=List.getElem?_of_mem ha
 obtain ⟨j,hj⟩:=List.getElem?_of_mem hb
 rcases Nat.lt_trichotomy i j with h|h|h
 ·exact hlt i j a b h hi hj e1 e2
 ·subst h;rw[hi] at hj;cases hj;rfl
 ·exact (hlt j i b a h hj hi e1.symm e2.symm).symm
theorem ZlP {c:PSG} {n:PNet} (h:Go1 c n) {k s:Nat} (hk:k<c.codes.length) (hs:s<c.signals.length):
 (∃a∈c.arcs,(a.from_=(k:Int)∧a.sig=(s:Int))∧toC c k s=a.to_)∨(toC c k s= -1∧∀a∈c.arcs,¬(a.from_=(k:Int)∧a.sig=(s:Int))):=by
 rcases ZuK hk hs (c.arcs.map Zts) with ⟨q,hq,h1,h2⟩|⟨h1,h2⟩
 ·obtain ⟨a,ha,rfl⟩:=List.mem_map.1 hq
  have:=h.arcs a ha
  refine .inl ⟨a,ha, ?_,h2⟩
  unfold Zts at h1
  dsimp only at h1
  omega
 ·refine .inr ⟨h1,fun a ha hc=> ?_⟩
  have:=h.arcs a ha
  refine h2 (Zts a) (List.mem_map.2 ⟨a,ha,rfl⟩) ?_
  unfold Zts
  dsimp only
  omega
theorem Ztt {R:Type} (q:PArc→Bool) (z:PArc→Option R) (e:Option R):∀(l:List PArc) (k:Nat),rgo (fun _ a=>if q a=true then some (z a) else none) e k l=match l.find? q with|some a=>z a|none=>e
 |[],k=>rfl
 | a::l,k=>by
  unfold rgo
  rw[List.find?_cons]
  cases c:q a
  ·simp only[Bool.false_eq_true,if_false]
   exact Ztt q z e l (k+1)
  ·simp
theorem ZxO (c:PSG) (n:PNet) (k s:Nat) (h:Go1 c n) (hk:k<c.codes.length) (hs:s<c.signals.length):ZjQ [eSG c,pI (k:Int),pI (s:Int)]=some (pI (toC c k s)):=by
 have hl:=h.few
 show (fun x0 x1 x2=>ZjQ [x0,x1,x2]) _ _ _=_
 rw[Zwa]
 simp only[eSG,List.length_map,EVS]
 refine (congrArg (fun m:Option PV=>m.bind fun r=>if r.sc=true then some r else none) ((Zoe (R:=PV) c.arcs (fun _ a=>if (decide (a.from_=(k:Int))&&decide (a.sig=(s:Int)))=true then some (some (pI a.to_)) else none) (some (pI (-1))) _ (by omega) (fun again j a ha=> ?_) (fun again=> ?_)).trans (Ztt _ _ _ _ _))).trans ?_
 ·have hj:=Ze ha
  have hi:Zl (.lst (c.arcs.map Z4)) (.int .i64 (j:Int))=some (Z4 a):=Zj ha
  cases c1:decide (a.from_=(k:Int))<;>cases c2:decide (a.sig=(s:Int))<;>simp only[ZD hj,Zm hj (show c.arcs.length≤9223372036854775807 by omega),hi,Z4,c1,c2,Bool.false_eq_true,if_false,if_true,EVS]
 ·simp only[Zac,EVS]
  rfl
 ·cases hf:c.arcs.find? (fun a=>decide (a.from_=(k:Int))&&decide (a.sig=(s:Int))) with
  | none=>
   have hno:=List.find?_eq_none.1 hf
   rcases ZlP h hk hs with ⟨a,ha,h1,h2⟩|⟨h1,h2⟩
   ·exact absurd (by simp[h1]) (hno a ha)
   ·rw[h1];rfl
  | some a=>
   have ha:=List.mem_of_find?_eq_some hf
   have hq:=List.find?_some hf
   simp only[Bool.and_eq_true,decide_eq_true_eq] at hq
   rcases ZlP h hk hs with ⟨b,hb,h1,h2⟩|⟨h1,h2⟩
   ·rw[h2,h.det b hb a ha (by omega) (by omega)];rfl
   ·exact absurd hq (h2 a ha)
def Zcl (c:PSG) (n:PNet):PV:=.agg [.lst (c.signals.map ZE),.lst (c.codes.map PV.str),.lst (c.arcs.map Z4),.lst (n.signals.map ZE),.lst (n.wires.map Zu),.lst ((Znl c).map Zsz)]
def zSys :PV:=.agg [.lst [],.lst [],.lst [],.lst [],.lst [],.lst []]
set_option maxRecDepth 20000 in
theorem Zp2 (c:PSG) (n:PNet) (hc:SGFit c) (hn:n.Fit):Zfo [eSG c,ZP n]=some (.tup [if goP c n=true then Zcl c n else zSys,pB (goP c n)]):=by
 have g:=ZkT c n hc hn
 show (match Zbs [eSG c,ZP n] with
  | some (.tup [.bool is,.bool ok])=>
   match ok&&is with
   | true=>match Zh6 (c.arcs.map Z4) with
    |some ars=>if 1≤(c.signals.map ZE).length∧(c.signals.map ZE).length≤1048576∧(c.codes.map PV.str).length≤1000000∧(ars.all (Zmq (c.codes.map PV.str).length (c.signals.map ZE).length))=true then some (PV.tup [.agg [.lst (c.signals.map ZE),.lst (c.codes.map PV.str),.lst (c.arcs.map Z4),.lst (n.signals.map ZE),.lst (n.wires.map Zu),.lst ((ZdT (c.codes.map PV.str).length (c.signals.map ZE).length ars).map Zsz)],.bool true]) else none
    |none=>none
   |false=>some (PV.tup [.agg [.lst [],.lst [],.lst [],.lst [],.lst [],.lst []],.bool false])
  |_=>none)=_
 rw[g]
 have hgo:((sgV c&&Zgp n)&&goP c n)=goP c n:=by
  unfold goP
  cases sgV c<;>cases Zgp n<;>simp
 show (match ((sgV c&&Zgp n)&&goP c n) with
  | true=>match Zh6 (c.arcs.map Z4) with
   |some ars=>if 1≤(c.signals.map ZE).length∧(c.signals.map ZE).length≤1048576∧(c.codes.map PV.str).length≤1000000∧(ars.all (Zmq (c.codes.map PV.str).length (c.signals.map ZE).length))=true then some (PV.tup [.agg [.lst (c.signals.map ZE),.lst (c.codes.map PV.str),.lst (c.arcs.map Z4),.lst (n.signals.map ZE),.lst (n.wires.map Zu),.lst ((ZdT (c.codes.map PV.str).length (c.signals.map ZE).length ars).map Zsz)],.bool true]) else none
   |none=>none
  |false=>some (PV.tup [.agg [.lst [],.lst [],.lst [],.lst [],.lst [],.lst []],.bool false]))=_
 rw[hgo]
 cases hg:goP c n
 ·rfl
 ·have h:=ZrM hg hc hn
  have ha:Zh6 (c.arcs.map Z4)=some (c.arcs.map Zts):=by
   have:c.arcs.map Z4=(c.arcs.map Zts).map pArc:=by rw[List.map_map];rfl
   rw[this,ZpK]
  dsimp only
  rw[ha]
  dsimp only
  rw[if_pos]
  ·simp only[if_true,List.length_map];rfl
  ·simp only[List.length_map]
   have h1:=h.sone
   have h2:=h.smany
   have h3:=h.many
   refine ⟨h1,by omega,by omega,List.all_eq_true.2 fun q hq=> ?_⟩
   obtain ⟨a,ha,rfl⟩:=List.mem_map.1 hq
   have:=h.arcs a ha
   unfold Zmq Zts
   simp only[decide_eq_true_eq]
   omega
def ePs (b:PSt):PV:=.agg [pI b.state,.str b.values]
theorem ZmO (a b c d e f:PV):Zb true 3 2 [a,b,c,d,e,f]=some (.agg [d,e]):=rfl
theorem Zzf (a b c d e f a' b' c' d' e' f':PV):splice [a,b,c,d,e,f] 0 [a',b',c',d',e',f']=[a',b',c',d',e',f']:=rfl
theorem ZoS (a b c d e f:PV):Zb true 0 6 [a,b,c,d,e,f]=some (.agg [a,b,c,d,e,f]):=rfl
theorem Go1.vals {c:PSG} {n:PNet} (h:Go1 c n) {v:List UInt8} (hb:Zab v n.wires.length=true):Zfe n v=true∧ZB v∧v.length=n.wires.length∧n.wires.length≤24∧n.signals.length≤n.wires.length∧n.signals.length=c.signals.length:=by
 have h1:=Zen h.net
 have h2:=(Zcr.1 hb).2
 refine ⟨by unfold Zfe;rw[h.net,hb];rfl,by unfold ZB;omega,h2,h1.2,h1.1,by rw[h.same]⟩
theorem Go1.code {c:PSG} {n:PNet} (h:Go1 c n):∃x,c.codes[0]?=some x∧Zab x n.signals.length=true:=by
 have h1:=h.one
 refine ⟨c.codes[0],List.getElem?_eq_getElem (by omega), ?_⟩
 rw[←h.same]
 exact h.bits _ (List.getElem_mem _)
def ZkG (c:PSG) (n:PNet):PSt:=⟨0,Zfd n (c.codes.getD 0 [])⟩
theorem ZrN (c:PSG) (n:PNet) (h:Go1 c n):Zft [eSG c,ZP n]=some (ePs (ZkG c n)):=by
 obtain ⟨x,hx,hb⟩:=h.code
 have g:=Zp1 n x h.fitn h.net hb
 have hi:Zl (.lst (c.codes.map PV.str)) (.int .i64 ((0:Nat):Int))=some (.str x):=Zj hx
 show (fun x0 x1=>Zft [x0,x1]) _ _=_
 rw[Zqw]
 unfold ZkG
 rw[List.getD_eq_getElem?_getD,hx]
 simp only[Int.natCast_zero] at hi
 simp only[ZP] at g
 simp only[eSG,ZP,ZW,hi,g,EVS]
 rfl
theorem Ztu (c:PSG) (n:PNet) (h:Go1 c n):Zca [Zcl c n]=some (ePs (ZkG c n)):=by
 obtain ⟨x,hx,hb⟩:=h.code
 have g:=Zvt n x h.fitn h.net hb
 have hi:Zl (.lst (c.codes.map PV.str)) (.int .i64 ((0:Nat):Int))=some (.str x):=Zj hx
 show (fun x0=>Zca [x0]) _=_
 rw[Zj1]
 unfold ZkG
 rw[List.getD_eq_getElem?_getD,hx]
 simp only[Int.natCast_zero] at hi
 simp only[ZP] at g
 simp only[Zcl,ZmO,hi,g,EVS]
 rfl
theorem Zz3 (c:PSG) {k:Nat} (hk:k<c.codes.length):∃row,(Znl c)[k]?=some row∧row.length=c.signals.length∧∀s,toC c k s=row.getD s (-1):=by
 have hl:(Znl c).length=c.codes.length:=Zwf _ _ _
 refine ⟨(Znl c)[k]'(by omega),List.getElem?_eq_getElem _,Zwg _ _ _ _ (List.getElem_mem _),fun s=> ?_⟩
 unfold toC Ze8
 rw[List.getD_eq_getElem?_getD (l:=Znl c),List.getElem?_eq_getElem (by omega)]
 rfl
theorem ZlQ (c:PSG) {k s:Nat} (hk:k<c.codes.length) (hs:s<c.signals.length):∃row:List PV,Zl (.lst ((Znl c).map Zsz)) (.int .i64 (k:Int))=some (.lst row)∧Zl (.lst row) (.int .i64 (s:Int))=some (pI (toC c k s)):=by
 obtain ⟨row,h1,h2,h3⟩:=Zz3 c hk
 refine ⟨row.map pI,Zj h1, ?_⟩
 refine Zwp ?_
 rw[h3 s,List.getElem?_map,List.getElem?_eq_getElem (by omega),List.getD_eq_getElem?_getD,List.getElem?_eq_getElem (by omega)]
 rfl
def ZiN (n:PNet) (k:Nat):Int:=match n.wires[k]? with|some w=>w.kind|none=>0
def inAt (n:PNet) (k:Nat):Bool:=match n.signals[k]? with|some s=>decide (s.2=1)|none=>false
theorem Zz5 {n:PNet} (hv:Zgp n=true) {k:Nat} (hk:k<n.signals.length):decide (ZiN n k=1)=inAt n k:=by
 have hs:=(Zen hv).1
 have hw:n.wires[k]?=some n.wires[k]:=List.getElem?_eq_getElem (by omega)
 have hsg:n.signals[k]?=some n.signals[k]:=List.getElem?_eq_getElem hk
 unfold ZiN inAt
 rw[hw,hsg]
 unfold Zgp at hv
 simp only[Bool.and_eq_true] at hv
 have h1:=ZjE _ _ _ hv.2 k _ hw
 rw[Nat.zero_add] at h1
 unfold Zc5 Zo4 ZgM at h1
 have hd:decide ((k:Int)<(n.signals.length:Int))=true:=by simp only[decide_eq_true_eq];omega
 rw[hd,hsg] at h1
 simp only[Bool.and_eq_true,Bool.not_true,Bool.false_or,beq_iff_eq] at h1
 exact h1.1.1.1.2.2
def Ztv (c:PSG) (n:PNet) (s:Nat) (v:List UInt8) (k:Nat):Bool:=if n.signals.length≤k then Zq n v k else decide (0≤toC c s k)&&(decide (ZiN n k=1)||Zq n v k)
theorem Ztw (c:PSG) (n:PNet) (h:Go1 c n) (s:Nat) (v:List UInt8) (k:Nat) (hs:s<c.codes.length) (hb:Zab v n.wires.length=true) (hk:k<n.wires.length):Zcb [Zcl c n,ePs ⟨s,v⟩,pI (k:Int)]=some (pB (Ztv c n s v k)):=by
 obtain ⟨h1,h2,h3,h4,h5,h6⟩:=h.vals hb
 have g:=Zd1 n v k h.fitn h2 h1 hk
 simp only[ZP] at g
 show (fun x0 x1 x2=>Zcb [x0,x1,x2]) _ _ _=_
 rw[Zj3]
 unfold Ztv
 by_cases c1:n.signals.length≤k
 ·have hd:decide ((n.signals.length:Int)≤(k:Int))=true:=by simp only[decide_eq_true_eq];omega
  rw[if_pos c1]
  simp only[Zcl,ePs,List.length_map,hd,ZmO,g,EVS]
 ·have hd:decide ((n.signals.length:Int)≤(k:Int))=false:=by simp only[decide_eq_false_iff_not];omega
  obtain ⟨row,r1,r2⟩:=ZlQ c hs (show k<c.signals.length by omega)
  have hw:Zl (.lst (n.wires.map Zu)) (.int .i64 (k:Int))=some (Zu n.wires[k]):=Zj (List.getElem?_eq_getElem hk)
  have hkd:ZiN n k=n.wires[k].kind:=by unfold ZiN;rw[List.getElem?_eq_getElem hk]
  rw[if_neg c1,hkd]
  cases c2:decide (0≤toC c s k)<;>cases c3:decide (n.wires[k].kind=1)<;>simp only[Zcl,ePs,List.length_map,hd,ZmO,r1,r2,c2,c3,hw,Zu,List.drop_succ_cons,List.drop_zero,g,EVS]
def flB (b:UInt8):UInt8:=if b=48 then 49 else 48
def ZiO (v:List UInt8) (k:Nat):List UInt8:=v.set k (flB (v.getD k 48))
def Zbe (c:PSG) (n:PNet) (s:Nat) (v:List UInt8) (k:Nat):PSt:=⟨if k<n.signals.length then toC c s k else s,ZiO v k⟩
theorem Zz6 {b:UInt8} (h:Zif b=true):Zd .xor (TD.int .u8) (pU b) (.int .u8 1)=some (pU (flB b)):=by
 rcases (Zzr b).1 h with rfl|rfl<;>rfl
theorem Zzg (c:PSG) (n:PNet) (h:Go1 c n) (s:Nat) (v:List UInt8) (k:Nat) (hs:s<c.codes.length) (hb:Zab v n.wires.length=true) (hk:k<n.wires.length):ZdI [Zcl c n,ePs ⟨s,v⟩,pI (k:Int)]=some (ePs (Zbe c n s v k)):=by
 obtain ⟨h1,h2,h3,h4,h5,h6⟩:=h.vals hb
 have hc:=ZAg v h2
 have hvk:v[k]?=some v[k]:=List.getElem?_eq_getElem (by omega)
 have p1:ZeY (v.map pU) (.int .i64 (k:Int))=some (.int .i64 (k:Int)):=Ze3 (by rw[List.length_map];omega)
 have q1:(v.map pU)[k]?=some (pU v[k]):=by rw[List.getElem?_map,hvk];rfl
 have hx:=Zz6 ((Zcr.1 hb).1 v[k] (List.getElem_mem _))
 have hse:ZaF 0 1 [pU v[k]] (pU v[k]) (pU (flB v[k]))=some (pU (flB v[k])):=rfl
 have st:(v.map pU).set k (pU (flB v[k]))=(v.set k (flB v[k])).map pU:=ZrY pU v k _
 have hbo:=ZiA (v.set k (flB v[k]))
 have hfv:ZiO v k=v.set k (flB v[k]):=by unfold ZiO;rw[List.getD_eq_getElem?_getD,hvk];rfl
 show (fun x0 x1 x2=>ZdI [x0,x1,x2]) _ _ _=_
 rw[ZmW]
 unfold Zbe
 rw[hfv]
 by_cases c1:k<n.signals.length
 ·have hd:decide ((k:Int)<(n.signals.length:Int))=true:=by simp only[decide_eq_true_eq];omega
  obtain ⟨row,r1,r2⟩:=ZlQ c hs (show k<c.signals.length by omega)
  rw[if_pos c1]
  simp only[Zcl,ePs,List.length_map,hc,p1,q1,Int.toNat_natCast,hx,hse,st,hbo,hd,r1,r2,EVS]
 ·have hd:decide ((k:Int)<(n.signals.length:Int))=false:=by simp only[decide_eq_false_iff_not];omega
  rw[if_neg c1]
  simp only[Zcl,ePs,List.length_map,hc,p1,q1,Int.toNat_natCast,hx,hse,st,hbo,hd,EVS]
theorem ZrO (v:List UInt8) (k:Nat) (hk:k<v.length) (hv:ZB v):Zfu [.str v,pI (k:Int)]=some (.str (ZiO v k)):=by
 have hvk:v[k]?=some v[k]:=List.getElem?_eq_getElem hk
 have hb:Zas (.str v) (.int .i64 (k:Int))=some (pU v[k]):=Zs hvk
 have g1:=ZjF (decide ((v[k].toNat:Int)=48))
 have g2:=ZjG v k (ZfU (decide ((v[k].toNat:Int)=48))) hk hv
 have hfb:ZfU (decide ((v[k].toNat:Int)=48))=flB v[k]:=by
  unfold flB
  have:((v[k].toNat:Int)=48)↔v[k]=48:=by rw[←UInt8.toNat_inj];exact Int.ofNat_inj
  by_cases c:v[k]=48
  ·rw[if_pos c,decide_eq_true (this.2 c)];rfl
  ·rw[if_neg c,decide_eq_false (fun e=>c (this.1 e))];rfl
 show (fun x0 x1=>Zfu [x0,x1]) _ _=_
 rw[Zqy]
 unfold ZiO
 rw[List.getD_eq_getElem?_getD,hvk,Option.getD_some,←hfb]
 simp only[hb,g1,g2,EVS]
theorem ZxP (l:List Int) (x:Int) (hl:ZB l):ZjR [.lst (l.map pI),pI x]=some (pB (decide (x∈l))):=by
 unfold ZB at hl
 show (fun x0 x1=>ZjR [x0,x1]) _ _=_
 rw[Zwc]
 simp only[EVS]
 refine (congrArg (fun m:Option PV=>m.bind fun r=>if r.sc=true then some r else none) (ZM (R:=PV) l (fun _ y=> !decide (x=y)) (some (pB true)) (some (pB false)) _ hl (fun again k y hx=> ?_) (fun again=> ?_))).trans ?_
 ·have hk:=Ze hx
  have hi:Zl (.lst (l.map pI)) (.int .i64 (k:Int))=some (pI y):=Zj hx
  have he:decide (y=x)=decide (x=y):=by rw[Bool.eq_iff_iff,decide_eq_true_eq,decide_eq_true_eq];exact eq_comm
  simp only[ZD hk,Zm hk hl,hi,he,EVS]
  cases decide (x=y)<;>simp only[EVS]
 ·simp only[Zac,EVS]
 ·rw[Zi0]
  cases decide (x∈l)<;>rfl
theorem Zvu (good:Nat→Bool) (N k:Nat) (hk:k<N):decide ((k:Int)∈ZaW good N)=good k:=by
 unfold ZaW
 rw[Bool.eq_iff_iff,decide_eq_true_eq,List.mem_map]
 constructor
 ·rintro ⟨i,hi,he⟩
  rw[List.mem_filter] at hi
  have:i=k:=by have:(i:Int)=(k:Int):=he;omega
  rw[←this]
  exact hi.2
 ·intro h
  exact ⟨k,List.mem_filter.2 ⟨List.mem_range.2 hk,h⟩,rfl⟩
def Zbf (c:PSG) (n:PNet) (s:Nat) (v:List UInt8) (k:Nat):List Nat:=(List.range k).filter (Ztv c n s v)
def Zg9 (c:PSG) (n:PNet) (s:Nat) (v:List UInt8) (k:Nat):Bool:=decide (k<n.signals.length)&&((!decide (ZiN n k=1)&&decide (toC c s k<0))&&Zq n v k)
def Zaq (c:PSG) (n:PNet) (s:Nat) (v:List UInt8) (k:Nat):List Nat:=(List.range k).filter (Zg9 c n s v)
def eNn (i:Nat):PV:=pI (i:Int)
theorem ZeZ {good:Nat→Bool} {k:Nat} (h:good k=true):(List.range (k+1)).filter good=(List.range k).filter good++[k]:=by
 rw[List.range_succ,List.filter_append];simp[h]
theorem ZdH {good:Nat→Bool} {k:Nat} (h:good k=false):(List.range (k+1)).filter good=(List.range k).filter good:=by
 rw[List.range_succ,List.filter_append];simp[h]
theorem ZfI (good:Nat→Bool) (k:Nat):((List.range k).filter good).length≤k:=by
 have:=List.length_filter_le good (List.range k)
 simpa using this
theorem ZoT (c:PSG) (n:PNet) (h:Go1 c n) (s:Nat) (v:List UInt8) (hs:s<c.codes.length) (hb:Zab v n.wires.length=true):
 Za5 [Zcl c n,ePs ⟨s,v⟩]=some (.tup [.lst ((Zbf c n s v n.wires.length).map fun k=>ePs (Zbe c n s v k)),.lst ((Zbf c n s v n.wires.length).map eNn)]):=by
 obtain ⟨h1,h2,h3,h4,h5,h6⟩:=h.vals hb
 show (fun x0 x1=>Za5 [x0,x1]) _ _=_
 rw[Zhs]
 simp only[Zcl,ePs,List.length_map,EVS]
 refine (Zep (R:=PV) 0 n.wires.length (fun k=>[.lst ((Zbf c n s v k).map eNn),.lst ((Zbf c n s v k).map fun k=>ePs (Zbe c n s v k)),pI (Int.ofNat k)]) (some (.tup [.lst ((Zbf c n s v n.wires.length).map fun k=>ePs (Zbe c n s v k)),.lst ((Zbf c n s v n.wires.length).map eNn)])) _ (by omega) (fun again k k1 k2=> ?_) (fun again=> ?_) (Nat.zero_le _) _ (by simp[Zbf]))
 ·have a1:=Ztw c n h s v k hs hb k2
  have a2:=Zzg c n h s v k hs hb k2
  have hcl:(Zbf c n s v k).length≤k:=ZfI _ k
  simp only[Zcl,ePs] at a1 a2
  have hm:n.wires.length≤9223372036854775807:=by omega
  have hla:(Zbf c n s v k).length+[ePs (Zbe c n s v k)].length≤4294967296∧[ePs (Zbe c n s v k)].all (ZbB 2)=true:=⟨by simp;omega,rfl⟩
  have hlb:(Zbf c n s v k).length+[pI (k:Int)].length≤4294967296∧[pI (k:Int)].all (ZbB 1)=true:=⟨by simp;omega,rfl⟩
  simp only[ePs] at hla
  simp only[ZD k2,ZoS,a1,EVS]
  cases hE:Ztv c n s v k
  ·have e1:Zbf c n s v (k+1)=Zbf c n s v k:=ZdH hE
   simp only[Zm k2 hm,e1,EVS]
  ·have e1:Zbf c n s v (k+1)=Zbf c n s v k++[k]:=ZeZ hE
   simp only[a2,if_pos hla,if_pos hlb,Zm k2 hm,e1,ZoS,List.map_append,List.map_cons,List.map_nil,eNn,EVS]
   rfl
 ·simp only[Zac,EVS]
theorem Zvv (c:PSG) (n:PNet) (s:Nat) (v:List UInt8):∀(k:Nat),n.signals.length≤k→Zaq c n s v k=Zaq c n s v n.signals.length:=by
 intro k hk
 induction k with
 | zero => have:n.signals.length=0:=by omega
           rw[this]
 | succ k ih=>
  by_cases c1:n.signals.length≤k
  ·have:Zg9 c n s v k=false:=by unfold Zg9;rw[decide_eq_false (by omega)];rfl
   rw[←ih c1]
   exact ZdH this
  ·rw[show n.signals.length=k+1 by omega]
theorem ZoU (c:PSG) (n:PNet) (h:Go1 c n) (s:Nat) (v:List UInt8) (hs:s<c.codes.length) (hb:Zab v n.wires.length=true):
 Za6 [Zcl c n,ePs ⟨s,v⟩]=some (.lst ((Zaq c n s v n.wires.length).map eNn)):=by
 obtain ⟨h1,h2,h3,h4,h5,h6⟩:=h.vals hb
 rw[Zvv c n s v _ h5]
 show (fun x0 x1=>Za6 [x0,x1]) _ _=_
 rw[Zhu]
 simp only[Zcl,ePs,List.length_map,EVS]
 refine (Zep (R:=PV) 0 n.signals.length (fun k=>[.lst ((Zaq c n s v k).map eNn),pI (Int.ofNat k)]) (some (.lst ((Zaq c n s v n.signals.length).map eNn))) _ (by omega) (fun again k k1 k2=> ?_) (fun again=> ?_) (Nat.zero_le _) _ (by simp[Zaq]))
 ·have hkw:k<n.wires.length:=by omega
  have g:=Zd1 n v k h.fitn h2 h1 hkw
  simp only[ZP] at g
  have hcl:(Zaq c n s v k).length≤k:=ZfI _ k
  have hm:n.signals.length≤9223372036854775807:=by omega
  have hlb:(Zaq c n s v k).length+[pI (k:Int)].length≤4294967296∧[pI (k:Int)].all (ZbB 1)=true:=⟨by simp;omega,rfl⟩
  obtain ⟨row,r1,r2⟩:=ZlQ c hs (show k<c.signals.length by omega)
  have hw:Zl (.lst (n.wires.map Zu)) (.int .i64 (k:Int))=some (Zu n.wires[k]):=Zj (List.getElem?_eq_getElem hkw)
  have hkd:ZiN n k=n.wires[k].kind:=by unfold ZiN;rw[List.getElem?_eq_getElem hkw]
  have hE:Zg9 c n s v k=((!decide (n.wires[k].kind=1)&&decide (toC c s k<0))&&Zq n v k):=by unfold Zg9;rw[decide_eq_true k2,hkd];rfl
  cases c2:decide (n.wires[k].kind=1)<;>cases c3:decide (toC c s k<0)<;>cases c4:Zq n v k<;>rw[c2,c3,c4] at hE<;>
   simp only[Bool.not_true,Bool.not_false,Bool.and_true,Bool.and_false,Bool.true_and,Bool.false_and] at hE
  all_goals first
   | (have e1:Zaq c n s v (k+1)=Zaq c n s v k:=ZdH hE
      simp only[ZD k2,hw,Zu,List.drop_succ_cons,List.drop_zero,c2,c3,c4,r1,r2,ZmO,g,Zm k2 hm,e1,EVS])
   | (have e1:Zaq c n s v (k+1)=Zaq c n s v k++[k]:=ZeZ hE
      simp only[ZD k2,hw,Zu,List.drop_succ_cons,List.drop_zero,c2,c3,c4,r1,r2,ZmO,g,if_pos hlb,Zm k2 hm,e1,List.map_append,List.map_cons,List.map_nil,eNn,EVS])
 ·simp only[Zac,EVS]
theorem Ztx (c:PSG) (n:PNet) (h:Go1 c n) (s:Nat) (v:List UInt8) (hs:s<c.codes.length) (hb:Zab v n.wires.length=true):
 Zgj [eSG c,ZP n,ePs ⟨s,v⟩]=some (.tup [.lst ((Zbf c n s v n.wires.length).map fun k=>ePs (Zbe c n s v k)),.lst ((Zbf c n s v n.wires.length).map eNn),.lst ((Zaq c n s v n.wires.length).map eNn)]):=by
 obtain ⟨h1,h2,h3,h4,h5,h6⟩:=h.vals hb
 have g0:=ZiM n v h.fitn h2 h1 (by omega)
 simp only[ZP] at g0
 show (fun x0 x1 x2=>Zgj [x0,x1,x2]) _ _ _=_
 rw[Zsv]
 simp only[eSG,ZP,ePs,ZW,g0,List.length_map,EVS]
 refine (Zep (R:=PV) 0 n.wires.length (fun k=>[.lst ((Zbf c n s v k).map fun k=>ePs (Zbe c n s v k)),.lst ((Zbf c n s v k).map eNn),.lst ((Zaq c n s v k).map eNn),pI (Int.ofNat k)]) (some (.tup [.lst ((Zbf c n s v n.wires.length).map fun k=>ePs (Zbe c n s v k)),.lst ((Zbf c n s v n.wires.length).map eNn),.lst ((Zaq c n s v n.wires.length).map eNn)])) _ (by omega) (fun again k k1 k2=> ?_) (fun again=> ?_) (Nat.zero_le _) _ (by simp[Zbf,Zaq]))
 ·have g1:=ZxP (ZaW (Zq n v) n.wires.length) k (by unfold ZB;have:=ZkE (Zq n v) n.wires.length;omega)
  rw[Zvu _ _ _ k2] at g1
  have g2:=ZrO v k (by omega) h2
  have hcl:(Zbf c n s v k).length≤k:=ZfI _ k
  have hcx:(Zaq c n s v k).length≤k:=ZfI _ k
  have hm:n.wires.length≤9223372036854775807:=by omega
  have hlb:(Zbf c n s v k).length+[pI (k:Int)].length≤4294967296∧[pI (k:Int)].all (ZbB 1)=true:=⟨by simp;omega,rfl⟩
  have hlx:(Zaq c n s v k).length+[pI (k:Int)].length≤4294967296∧[pI (k:Int)].all (ZbB 1)=true:=⟨by simp;omega,rfl⟩
  by_cases c1:k<n.signals.length
  ·have hd:=ZD c1
   have hsg:Zl (.lst (n.signals.map ZE)) (.int .i64 (k:Int))=some (ZE n.signals[k]):=Zj (List.getElem?_eq_getElem c1)
   have hin:inAt n k=decide (n.signals[k].2=1):=by unfold inAt;rw[List.getElem?_eq_getElem c1]
   have hki:=Zz5 h.net c1
   rw[hin] at hki
   have g3:=ZxO c n s k h hs (by omega)
   simp only[eSG] at g3
   have hla:(Zbf c n s v k).length+[PV.agg [pI (toC c s k),.str (ZiO v k)]].length≤4294967296∧[PV.agg [pI (toC c s k),.str (ZiO v k)]].all (ZbB 2)=true:=⟨by simp;omega,rfl⟩
   have hfl:Zbe c n s v k=⟨toC c s k,ZiO v k⟩:=by unfold Zbe;rw[if_pos c1]
   have hE:Ztv c n s v k=(decide (0≤toC c s k)&&(decide (n.signals[k].2=1)||Zq n v k)):=by unfold Ztv;rw[if_neg (by omega),hki]
   have hX:Zg9 c n s v k=((!decide (n.signals[k].2=1)&&decide (toC c s k<0))&&Zq n v k):=by unfold Zg9;rw[decide_eq_true c1,hki];rfl
   by_cases c3:0≤toC c s k
   ·have c3':decide (0≤toC c s k)=true:=decide_eq_true c3
    have c3'':decide (toC c s k<0)=false:=decide_eq_false (by omega)
    rw[c3'] at hE
    rw[c3''] at hX
    simp only[Bool.and_false,Bool.false_and,Bool.true_and] at hE hX
    have e2:Zaq c n s v (k+1)=Zaq c n s v k:=ZdH hX
    cases c2:decide (n.signals[k].2=1)<;>cases c4:Zq n v k<;>rw[c2,c4] at hE<;>rw[c4] at g1<;>simp only[Bool.or_true,Bool.or_false,Bool.true_or,Bool.false_or] at hE
    ·have e1:Zbf c n s v (k+1)=Zbf c n s v k:=ZdH hE
     simp only[ZD k2,hd,hsg,Zag,g3,g1,c2,c3',List.drop_succ_cons,List.drop_zero,Zm k2 hm,e1,e2,EVS]
    ·have e1:Zbf c n s v (k+1)=Zbf c n s v k++[k]:=ZeZ hE
     simp only[ZD k2,hd,hsg,Zag,g3,g2,g1,c2,c3',List.drop_succ_cons,List.drop_zero,if_pos hla,if_pos hlb,Zm k2 hm,e1,e2,hfl,ePs,List.map_append,List.map_cons,List.map_nil,eNn,EVS]
    ·have e1:Zbf c n s v (k+1)=Zbf c n s v k++[k]:=ZeZ hE
     simp only[ZD k2,hd,hsg,Zag,g3,g2,g1,c2,c3',List.drop_succ_cons,List.drop_zero,if_pos hla,if_pos hlb,Zm k2 hm,e1,e2,hfl,ePs,List.map_append,List.map_cons,List.map_nil,eNn,EVS]
    ·have e1:Zbf c n s v (k+1)=Zbf c n s v k++[k]:=ZeZ hE
     simp only[ZD k2,hd,hsg,Zag,g3,g2,g1,c2,c3',List.drop_succ_cons,List.drop_zero,if_pos hla,if_pos hlb,Zm k2 hm,e1,e2,hfl,ePs,List.map_append,List.map_cons,List.map_nil,eNn,EVS]
   ·have c3':decide (0≤toC c s k)=false:=decide_eq_false c3
    have c3'':decide (toC c s k<0)=true:=decide_eq_true (by omega)
    rw[c3'] at hE
    rw[c3''] at hX
    simp only[Bool.and_true,Bool.false_and,Bool.true_and] at hE hX
    have e1:Zbf c n s v (k+1)=Zbf c n s v k:=ZdH hE
    cases c2:decide (n.signals[k].2=1)<;>cases c4:Zq n v k<;>rw[c2,c4] at hX<;>rw[c4] at g1<;>simp only[Bool.not_true,Bool.not_false,Bool.and_true,Bool.and_false,Bool.true_and,Bool.false_and] at hX
    ·have e2:Zaq c n s v (k+1)=Zaq c n s v k:=ZdH hX
     simp only[ZD k2,hd,hsg,Zag,g3,g1,c2,c3',List.drop_succ_cons,List.drop_zero,Zm k2 hm,e1,e2,EVS]
    ·have e2:Zaq c n s v (k+1)=Zaq c n s v k++[k]:=ZeZ hX
     simp only[ZD k2,hd,hsg,Zag,g3,g1,c2,c3',List.drop_succ_cons,List.drop_zero,if_pos hlx,Zm k2 hm,e1,e2,List.map_append,List.map_cons,List.map_nil,eNn,EVS]
    ·have e2:Zaq c n s v (k+1)=Zaq c n s v k:=ZdH hX
     simp only[ZD k2,hd,hsg,Zag,g3,g1,c2,c3',List.drop_succ_cons,List.drop_zero,Zm k2 hm,e1,e2,EVS]
    ·have e2:Zaq c n s v (k+1)=Zaq c n s v k:=ZdH hX
     simp only[ZD k2,hd,hsg,Zag,g3,g1,c2,c3',List.drop_succ_cons,List.drop_zero,Zm k2 hm,e1,e2,EVS]
  ·have hd:decide ((k:Int)<(n.signals.length:Int))=false:=by simp only[decide_eq_false_iff_not];omega
   have hE:Ztv c n s v k=Zq n v k:=by unfold Ztv;rw[if_pos (by omega)]
   have hX:Zg9 c n s v k=false:=by unfold Zg9;rw[decide_eq_false c1];rfl
   have e2:Zaq c n s v (k+1)=Zaq c n s v k:=ZdH hX
   have hfl:Zbe c n s v k=⟨(s:Int),ZiO v k⟩:=by unfold Zbe;rw[if_neg c1]
   have hla:(Zbf c n s v k).length+[PV.agg [pI (s:Int),.str (ZiO v k)]].length≤4294967296∧[PV.agg [pI (s:Int),.str (ZiO v k)]].all (ZbB 2)=true:=⟨by simp;omega,rfl⟩
   have hge:decide (0≤(s:Int))=true:=decide_eq_true (by omega)
   cases c4:Zq n v k<;>rw[c4] at hE g1
   ·have e1:Zbf c n s v (k+1)=Zbf c n s v k:=ZdH hE
    simp only[ZD k2,hd,Zag,g1,hge,Zm k2 hm,e1,e2,EVS]
   ·have e1:Zbf c n s v (k+1)=Zbf c n s v k++[k]:=ZeZ hE
    simp only[ZD k2,hd,Zag,g2,g1,hge,if_pos hla,if_pos hlb,Zm k2 hm,e1,e2,hfl,ePs,List.map_append,List.map_cons,List.map_nil,eNn,EVS]
 ·simp only[Zac,EVS]
def Zkf (c:PSG) (n:PNet) (b:PSt):Bool:=(inR b.state 0 ((c.codes.length:Int) - 1)&&Zab b.values n.wires.length)&&decide (b.values.take n.signals.length=c.codes.getD b.state.toNat [])
theorem ZoV (v p:List UInt8) (hv:ZB v) (hp:ZB p):Z9 [.str v,.str p]=some (pB (decide (p.length≤v.length)&&decide (v.take p.length=p))):=by
 unfold ZB at hv hp
 show (fun x0 x1=>Z9 [x0,x1]) _ _=_
 rw[Zdt]
 by_cases c1:p.length≤v.length
 ·have h1:decide ((p.length:Int)≤(v.length:Int))=true:=by simp only[decide_eq_true_eq];omega
  have h2:ZfT (.str v) none (some (.int .i64 (p.length:Int)))=some (.str (v.take p.length)):=Zjy c1
  simp only[h1,h2,c1,EVS]
 ·have h1:decide ((p.length:Int)≤(v.length:Int))=false:=by simp only[decide_eq_false_iff_not];omega
  simp only[h1,c1,EVS]
theorem Zp3 (v p:List UInt8) (hv:ZB v) (hp:ZB p):Za2 [.str v,.str p]=some (pB (decide (p.length≤v.length)&&decide (v.take p.length=p))):=by
 have g:=ZoV v p hv hp
 show (fun x0 x1=>Za2 [x0,x1]) _ _=_
 rw[Zhk]
 simp only[g,EVS]
theorem Zty (c:PSG) (n:PNet) (h:Go1 c n) (b:PSt) (hv:ZB b.values):Zb8 [Zcl c n,ePs b]=some (pB (Zkf c n b)):=by
 have h1:=h.one
 have h2:=h.many
 have hw:IntKind.i64.wrap ((c.codes.length:Int) - 1)=(c.codes.length:Int) - 1:=Zaj (by omega) (by omega)
 have g1:=Zaz b.state 0 ((c.codes.length:Int) - 1)
 have g2:=Zo9 b.values n.wires.length hv
 show (fun x0 x1=>Zb8 [x0,x1]) _ _=_
 rw[ZjX]
 unfold Zkf
 cases c1:inR b.state 0 ((c.codes.length:Int) - 1)
 ·rw[c1] at g1
  simp only[Zcl,ePs,List.length_map,hw,g1,EVS]
 ·cases c2:Zab b.values n.wires.length
  ·rw[c1] at g1;rw[c2] at g2
   simp only[Zcl,ePs,List.length_map,hw,g1,g2,EVS]
  ·rw[c1] at g1;rw[c2] at g2
   have c1':=c1
   unfold inR at c1'
   simp only[Bool.and_eq_true,decide_eq_true_eq] at c1'
   obtain ⟨s,hs⟩:∃s:Nat,b.state=s:=⟨b.state.toNat,by omega⟩
   have hsl:s<c.codes.length:=by omega
   have hc:c.codes[s]?=some c.codes[s]:=List.getElem?_eq_getElem hsl
   have hi:Zl (.lst (c.codes.map PV.str)) (.int .i64 (s:Int))=some (.str c.codes[s]):=Zj hc
   have hcb:=(Zcr.1 (h.bits _ (List.getElem_mem hsl))).2
   obtain ⟨v1,v2,v3,v4,v5,v6⟩:=h.vals c2
   have g3:=Zp3 b.values c.codes[s] hv (by unfold ZB;omega)
   rw[hcb,←v6,decide_eq_true (show n.signals.length≤b.values.length by omega),Bool.true_and] at g3
   have hd:c.codes.getD s []=c.codes[s]:=by rw[List.getD_eq_getElem?_getD,hc];rfl
   simp only[hs] at g1
   rw[hs,Int.toNat_natCast,hd]
   simp only[Zcl,ePs,hs,List.length_map,hw,g1,g2,hi,g3,EVS]
theorem ZrP {c:PSG} {n:PNet} {b:PSt} (h:Zkf c n b=true):∃s:Nat,b=⟨(s:Int),b.values⟩∧s<c.codes.length∧Zab b.values n.wires.length=true:=by
 unfold Zkf inR at h
 simp only[Bool.and_eq_true,decide_eq_true_eq] at h
 obtain ⟨⟨h1,h2⟩,_⟩:=h
 refine ⟨b.state.toNat, ?_,by omega,h2⟩
 cases b
 simp only[PSt.mk.injEq,and_true]
 dsimp only at h1
 omega
def Ztz (k:Nat) (P:ProdG) (w:Nat) (b:PSt):ProdG:=
 if b∈P.states then ⟨P.states,P.flips++[⟨k,w,(P.states.idxOf b:Nat)⟩],P.extra⟩ else ⟨P.states++[b],P.flips++[⟨k,w,(P.states.length:Nat)⟩],P.extra⟩
def inU (c:PSG) (n:PNet) (k s:Nat) (v:List UInt8):List Nat→ProdG→ProdG
 |[],P=>P
 |w::r,P=>inU c n k s v r (Ztz k P w (Zbe c n s v w))
theorem Zzh (k:Nat) (P:ProdG) (w:Nat) (b:PSt):P.states.length≤(Ztz k P w b).states.length∧(Ztz k P w b).states.length≤P.states.length+1∧(Ztz k P w b).flips.length=P.flips.length+1∧(Ztz k P w b).extra=P.extra:=by
 unfold Ztz
 split<;>simp
theorem ZtA (c:PSG) (n:PNet) (s:Nat) (v:List UInt8) (N:Nat):(Zbf c n s v N).length≤N:=ZfI _ _
theorem Zzi (x y:PSt):eqV (some [(0,TD.int IntKind.i64),(1,TD.str)]) TD.struct (.agg [pI x.state,.str x.values]) (.agg [pI y.state,.str y.values])=some (decide (x=y)):=by
 have e:decide (x=y)=((x.state==y.state)&&((x.values==y.values)&&true)):=by
  rw[Bool.eq_iff_iff]
  cases x;cases y
  simp only[decide_eq_true_eq,Bool.and_eq_true,PSt.mk.injEq,beq_iff_eq,and_true]
 rw[e]
 show (some (x.state==y.state)).bind (fun b=>(some ((x.values==y.values)&&true)).map fun c=>b&&c)=_
 rfl
def ZrQ (g:Nat→PV):Nat→List PSt→List (PV×PV)
 |_,[]=>[]
 |k,b::r=>(ePs b,g k)::ZrQ g (k+1) r
theorem ZqY (g:Nat→PV) (a:PSt):∀(l:List PSt) (k:Nat),ZrQ g k (l++[a])=ZrQ g k l++[(ePs a,g (k+l.length))]
 |[],k=>rfl
 | x::r,k=>by
  show (ePs x,g k)::ZrQ g (k+1) (r++[a])=_
  rw[ZqY g a r (k+1)]
  simp only[ZrQ,List.length_cons,List.cons_append]
  rw[show k+1+r.length=k+(r.length+1) by omega]
theorem ZwY (g:Nat→PV) (s:PSt):∀(l:List PSt) (k i:Nat),ZeS (some [(0,TD.int IntKind.i64),(1,TD.str)]) TD.struct (ZrQ g k l) (.agg [pI s.state,.str s.values]) i=some (if s∈l then some (i+l.idxOf s,g (k+l.idxOf s)) else none)
 |[],k,i=>rfl
 | x::r,k,i=>by
  unfold ZrQ ZeS
  rw[show ePs x=.agg [pI x.state,.str x.values] from rfl,Zzi]
  by_cases c:x=s
  ·subst c
   simp
  ·have h:(x::r).idxOf s=r.idxOf s+1:=by rw[List.idxOf_cons,beq_eq_false_iff_ne.2 c];rfl
   have hm:s∈x::r↔s∈r:=by rw[List.mem_cons];exact ⟨fun h=>h.resolve_left (fun e=>c e.symm),.inr⟩
   simp only[obs,c,show ¬s=x from fun e=>c e.symm,decide_false,Bool.false_eq_true,if_false,ZwY g s r (k+1) (i+1),hm,h]
   by_cases c2:s∈r
   ·rw[if_pos c2,if_pos c2,show i+1+r.idxOf s=i+(r.idxOf s+1) by omega,show k+1+r.idxOf s=k+(r.idxOf s+1) by omega]
   ·rw[if_neg c2,if_neg c2]
theorem keyP (a:PSt):((eqV (some [(0,TD.int IntKind.i64),(1,TD.str)]) TD.struct (.agg [pI a.state,.str a.values]) (.agg [pI a.state,.str a.values])).elim false fun x=>true)=true:=by rw[Zzi];rfl
theorem ZoW (l:List (PV×PV)):Zrs (.map l)=some l:=rfl
structure Pj (n:PNet) (P:ProdG):Prop where
 fl:∀f∈P.flips,0≤f.from_∧f.from_<P.states.length∧0≤f.to∧f.to<P.states.length∧0≤f.wire∧f.wire<n.wires.length
 xl:∀f∈P.extra,0≤f.from_∧f.from_<P.states.length∧f.to= -1∧0≤f.wire∧f.wire<n.wires.length
theorem Pj.add {n:PNet} {P:ProdG} (h:Pj n P) {k w:Nat} {b:PSt} (hk:k<P.states.length) (hw:w<n.wires.length):Pj n (Ztz k P w b):=by
 unfold Ztz
 split
 ·rename_i hm
  refine ⟨fun f hf=> ?_,h.xl⟩
  rcases List.mem_append.1 hf with hf|hf
  ·exact h.fl f hf
  ·rw[List.mem_singleton] at hf
   subst hf
   have:=List.idxOf_lt_length_of_mem hm
   dsimp only
   omega
 ·refine ⟨fun f hf=> ?_,fun f hf=> ?_⟩
  ·rcases List.mem_append.1 hf with hf|hf
   ·have:=h.fl f hf
    simp only[List.length_append,List.length_singleton]
    omega
   ·rw[List.mem_singleton] at hf
    subst hf
    simp only[List.length_append,List.length_singleton]
    omega
  ·have:=h.xl f hf
   simp only[List.length_append,List.length_singleton]
   omega
theorem Pj.ins {c:PSG} {n:PNet} {k s:Nat} {v:List UInt8}:∀(l:List Nat) (P:ProdG),Pj n P→k<P.states.length→(∀w∈l,w<n.wires.length)→Pj n (inU c n k s v l P)
 |[],P,h,_,_=>h
 | w::r,P,h,hk,hl=>by
  unfold inU
  refine Pj.ins r _ (h.add hk (hl w List.mem_cons_self)) ?_ fun x hx=>hl x (List.mem_cons_of_mem _ hx)
  have:=(Zzh k P w (Zbe c n s v w)).1
  omega
theorem capsAB (a b:List PV):ZbL 2 (.tup [.agg a,.agg b])=some [.agg a,.agg b]:=by simp[ZbL,PV.parts,PV.isU]
def ZlR (c:PSG) (s:Nat):Bool:=(List.range c.signals.length).any fun k=> !inAt' c k&&decide (0≤toC c s k)
where inAt' (c:PSG) (k:Nat):Bool:=match c.signals[k]? with|some x=>decide (x.2=1)|none=>false
def Zvw (n:PNet) (v:List UInt8):Bool:=decide (((ZaW (Zq n v) n.wires.length).length:Int)=0)
def Zha (c:PSG) (n:PNet) (b:PSt):Bool:=Zvw n b.values&&ZlR c b.state.toNat
def ZmP (c:PSG) (s:Nat) (a:PArc):Bool:=decide (a.from_=(s:Int))&& !ZlR.inAt' c a.sig.toNat
theorem Zzj {c:PSG} {n:PNet} (h:Go1 c n) {s:Nat} (hs:s<c.codes.length):(c.arcs.any (ZmP c s))=ZlR c s:=by
 rw[Bool.eq_iff_iff,List.any_eq_true]
 unfold ZlR
 rw[List.any_eq_true]
 constructor
 ·rintro ⟨a,ha,hq⟩
  unfold ZmP at hq
  rw[Bool.and_eq_true,decide_eq_true_eq] at hq
  obtain ⟨b1,b2,b3,b4,b5,b6⟩:=h.arcs a ha
  refine ⟨a.sig.toNat,List.mem_range.2 (by omega), ?_⟩
  rw[hq.2,Bool.true_and,decide_eq_true_eq]
  rcases ZlP h hs (show a.sig.toNat<c.signals.length by omega) with ⟨b,hb,h1,h2⟩|⟨h1,h2⟩
  ·have:=h.arcs b hb;omega
  ·exact absurd ⟨hq.1,by omega⟩ (h2 a ha)
 ·rintro ⟨k,hk,hq⟩
  rw[Bool.and_eq_true,decide_eq_true_eq] at hq
  have hkl:=List.mem_range.1 hk
  rcases ZlP h hs hkl with ⟨b,hb,h1,h2⟩|⟨h1,h2⟩
  ·refine ⟨b,hb, ?_⟩
   unfold ZmP
   rw[h1.1,h1.2,Int.toNat_natCast,hq.1,Bool.and_true,decide_eq_true_eq]
  ·omega
theorem Zvx (c:PSG) (n:PNet) (h:Go1 c n) (s:Nat) (hs:s<c.codes.length):Zhg [eSG c,pI (s:Int)]=some (pB (ZlR c s)):=by
 have hl:=h.few
 show (fun x0 x1=>Zhg [x0,x1]) _ _=_
 rw[ZtU]
 simp only[eSG,List.length_map,EVS]
 refine (congrArg (fun m:Option PV=>m.bind fun r=>if r.sc=true then some r else none) (ZM (R:=PV) c.arcs (fun _ a=> !ZmP c s a) (some (pB true)) (some (pB false)) _ (by omega) (fun again j a ha=> ?_) (fun again=> ?_))).trans ?_
 ·have hj:=Ze ha
  have hi:Zl (.lst (c.arcs.map Z4)) (.int .i64 (j:Int))=some (Z4 a):=Zj ha
  obtain ⟨b1,b2,b3,b4,b5,b6⟩:=h.arcs a (List.mem_of_getElem? ha)
  obtain ⟨g,hg⟩:∃g:Nat,a.sig=g:=⟨a.sig.toNat,by omega⟩
  have hgl:g<c.signals.length:=by omega
  have hsg:Zl (.lst (c.signals.map ZE)) (.int .i64 (g:Int))=some (ZE c.signals[g]):=Zj (List.getElem?_eq_getElem hgl)
  have hin:ZlR.inAt' c g=decide (c.signals[g].2=1):=by unfold ZlR.inAt';rw[List.getElem?_eq_getElem hgl]
  unfold ZmP
  rw[hg,Int.toNat_natCast,hin]
  simp only[Z4,hg] at hi
  cases c1:decide (a.from_=(s:Int))<;>cases c2:decide (c.signals[g].2=1)<;>simp only[ZD hj,Zm hj (show c.arcs.length≤9223372036854775807 by omega),hi,hg,Z4,c1,c2,hsg,List.drop_succ_cons,List.drop_zero,Bool.false_eq_true,if_false,if_true,EVS]
 ·simp only[Zac,EVS]
 ·rw[Zak,←Zzj h hs,List.any_eq_not_all_not]
  cases (c.arcs.all fun a=> !ZmP c s a)<;>rfl
theorem ZrR (c:PSG) (n:PNet) (h:Go1 c n) (s:Nat) (v:List UInt8) (hs:s<c.codes.length) (hb:Zab v n.wires.length=true):Zfh [eSG c,ZP n,ePs ⟨s,v⟩]=some (pB (Zha c n ⟨s,v⟩)):=by
 obtain ⟨h1,h2,h3,h4,h5,h6⟩:=h.vals hb
 have g1:=ZiM n v h.fitn h2 h1 (by omega)
 have g2:=Zvx c n h s hs
 show (fun x0 x1 x2=>Zfh [x0,x1,x2]) _ _ _=_
 rw[Zqe]
 unfold Zha Zvw
 rw[Int.toNat_natCast]
 simp only[eSG,ZP] at g1 g2
 cases c1:decide (((ZaW (Zq n v) n.wires.length).length:Int)=0)<;>simp only[eSG,ZP,ePs,ZW,Zag,g1,g2,List.length_map,c1,EVS]
def ZkH (c:PSG) (k:Nat):List Nat:=(List.range k).filter fun k=> !ZlR.inAt' c k
theorem ZtB (c:PSG) (hl:c.signals.length≤8):Zf6 [eSG c]=some (.lst ((ZkH c c.signals.length).map eNn)):=by
 show (fun x0=>Zf6 [x0]) _=_
 rw[Zr7]
 simp only[eSG,List.length_map,EVS]
 refine (Zep (R:=PV) 0 c.signals.length (fun k=>[.lst ((ZkH c k).map eNn),pI (Int.ofNat k)]) (some (.lst ((ZkH c c.signals.length).map eNn))) _ (by omega) (fun again k k1 k2=> ?_) (fun again=> ?_) (Nat.zero_le _) _ (by simp[ZkH]))
 ·have hsg:Zl (.lst (c.signals.map ZE)) (.int .i64 (k:Int))=some (ZE c.signals[k]):=Zj (List.getElem?_eq_getElem k2)
  have hin:ZlR.inAt' c k=decide (c.signals[k].2=1):=by unfold ZlR.inAt';rw[List.getElem?_eq_getElem k2]
  have hcl:(ZkH c k).length≤k:=ZfI _ k
  have hlb:(ZkH c k).length+[pI (k:Int)].length≤4294967296∧[pI (k:Int)].all (ZbB 1)=true:=⟨by simp;omega,rfl⟩
  have hm:c.signals.length≤9223372036854775807:=by omega
  cases c1:decide (c.signals[k].2=1)<;>rw[c1] at hin
  ·have e1:ZkH c (k+1)=ZkH c k++[k]:=ZeZ (by rw[hin];rfl)
   simp only[ZD k2,hsg,sp2,ZW,c1,if_pos hlb,Zm k2 hm,e1,List.map_append,List.map_cons,List.map_nil,eNn,EVS]
  ·have e1:ZkH c (k+1)=ZkH c k:=ZdH (by rw[hin];rfl)
   simp only[ZD k2,hsg,sp2,ZW,c1,Zm k2 hm,e1,EVS]
 ·simp only[Zac,EVS]
theorem drop5 (a b c d e f:PV):List.drop 5 [a,b,c,d,e,f]=[f]:=rfl
theorem ZrS (c:PSG) (n:PNet) (k s:Nat) (v:List UInt8) (hs:s<c.codes.length) (hk:k<c.signals.length) (A:PV) (hA:A=Zcl c n):ZbF [pI (k:Int),A,ePs ⟨s,v⟩]=some (pB (decide (0≤toC c s k))):=by
 subst hA
 obtain ⟨row,r1,r2⟩:=ZlQ c hs hk
 show (fun x0 x1 x2=>ZbF [x0,x1,x2]) _ _ _=_
 rw[Zi8]
 simp only[Zcl,ePs,drop5,List.drop_zero,r1,r2,EVS]
theorem ZiP (c:PSG) (n:PNet) (s:Nat) (v:List UInt8) (hs:s<c.codes.length) (l:List Nat) (hl:∀k∈l,k<c.signals.length) (h8:l.length≤8):
 ZF [.lst (l.map eNn),.tup [Zcl c n,ePs ⟨s,v⟩]]=some (pI (ixf (fun k=>decide (0≤toC c s k)) 0 l)):=by
 show (fun x0 x1=>ZF [x0,x1]) _ _=_
 rw[ZbN]
 simp only[EVS]
 refine (congrArg (fun m:Option PV=>m.bind fun r=>if r.sc=true then some r else none) (Zd2 l (fun k=>decide (0≤toC c s k)) _ (by omega) (fun again j k hx=> ?_) (fun again=> ?_))).trans ?_
 ·have hj:=Ze hx
  have hi:Zl (.lst (l.map eNn)) (.int .i64 (j:Int))=some (pI (k:Int)):=Zj (enc:=eNn) hx
  have g:=ZrS c n k s v hs (hl k (List.mem_of_getElem? hx)) _ rfl
  simp only[Zcl,ePs] at g
  cases c1:decide (0≤toC c s k)<;>rw[c1] at g<;>simp only[Zcl,ePs,List.length_map,ZD hj,Zm hj (show l.length≤9223372036854775807 by omega),hi,capsAB,g,List.append_nil,List.cons_append,List.nil_append,Bool.false_eq_true,if_false,if_true,EVS]
 ·simp only[List.length_map,Zac,EVS]
  rfl
 ·simp only[EVS]
theorem ZgL (c:PSG) (n:PNet) (s:Nat) (v:List UInt8) (hs:s<c.codes.length) (l:List Nat) (hl:∀k∈l,k<c.signals.length) (h8:l.length≤8):
 Zw [.lst (l.map eNn),.tup [Zcl c n,ePs ⟨s,v⟩]]=some (pB (l.any fun k=>decide (0≤toC c s k))):=by
 have g:=ZiP c n s v hs l hl h8
 show (fun x0 x1=>Zw [x0,x1]) _ _=_
 rw[Zbj]
 simp only[g,Ze5 (fun k=>decide (0≤toC c s k)) l 0,EVS]
 rw[Zak,List.any_eq_not_all_not]
theorem Zvy (c:PSG) (n:PNet) (h:Go1 c n) (s:Nat) (v:List UInt8) (hs:s<c.codes.length) (hb:Zab v n.wires.length=true):ZcH [Zcl c n,ePs ⟨s,v⟩]=some (pB (Zha c n ⟨s,v⟩)):=by
 obtain ⟨h1,h2,h3,h4,h5,h6⟩:=h.vals hb
 have hsm:=h.smany
 have g1:=ZmN n v h.fitn h2 h1 (by omega)
 have g2:=ZtB c hsm
 have hol:(ZkH c c.signals.length).length≤8:=by have:=ZfI (fun k=> !ZlR.inAt' c k) c.signals.length;unfold ZkH;omega
 have g3:=ZgL c n s v hs (ZkH c c.signals.length) (fun k hk=>List.mem_range.1 (List.mem_filter.1 hk).1) hol
 have hany:((ZkH c c.signals.length).any fun k=>decide (0≤toC c s k))=ZlR c s:=by
  unfold ZkH ZlR
  rw[List.any_filter]
 rw[hany] at g3
 show (fun x0 x1=>ZcH [x0,x1]) _ _=_
 rw[ZkX]
 unfold Zha Zvw
 rw[Int.toNat_natCast]
 have hpv:Zb true 0 3 [PV.lst (c.signals.map ZE),.lst (c.codes.map PV.str),.lst (c.arcs.map Z4),.lst (n.signals.map ZE),.lst (n.wires.map Zu),.lst ((Znl c).map Zsz)]=some (.agg [.lst (c.signals.map ZE),.lst (c.codes.map PV.str),.lst (c.arcs.map Z4)]):=rfl
 simp only[eSG,ZP,Zcl,ePs] at g1 g2 g3
 cases c1:ZlR c s<;>rw[c1] at g3<;>cases c2:decide (((ZaW (Zq n v) n.wires.length).length:Int)=0)<;>simp only[Zcl,ePs,hpv,ZmO,g1,g2,g3,c2,List.drop_zero,List.length_map,EVS]
theorem ZiQ :∀(x y:List UInt8),Op.bytesLess x y=decide (x<y)
 |[],[]=>by simp[Op.bytesLess]
 |_::_,[]=>by simp[Op.bytesLess]
 |[],_::_=>by simp[Op.bytesLess]
 | a::x,b::y=>by
  unfold Op.bytesLess
  rw[ZiQ x y]
  simp only[List.cons_lt_cons_iff]
  by_cases h1:a<b<;>by_cases h2:a=b<;>by_cases h3:x<y<;>simp[h1,h2,h3]
def Zdd (a b:PSt):Bool:=decide (a.state<b.state)||(decide (a.state=b.state)&&decide (a.values<b.values))
theorem ZqZ (a b:PSt):Zdd a b=true↔a.state<b.state∨(a.state=b.state∧a.values<b.values):=by
 unfold Zdd
 simp
theorem ZiR {a b c:PSt} (h1:Zdd a b=true) (h2:Zdd b c=true):Zdd a c=true:=by
 rw[ZqZ] at *
 rcases h1 with h1|⟨h1,h3⟩<;>rcases h2 with h2|⟨h2,h4⟩
 ·left;omega
 ·left;omega
 ·left;omega
 ·exact .inr ⟨by omega,List.lt_trans h3 h4⟩
theorem ZlS (a:PSt):Zdd a a=false:=by
 cases h:Zdd a a with
 |false=>rfl
 | true=>
  rw[ZqZ] at h
  rcases h with h|⟨_,h⟩
  ·omega
  ·exact absurd h (List.lt_irrefl _)
def ZoX (l:List PSt):Prop:=∀(i j:Nat) (x y:PSt),i<j→l[i]?=some x→l[j]?=some y→Zdd x y=true
theorem Zzk {l:List PSt} (h:∀(i:Nat) (x y:PSt),l[i]?=some x→l[i+1]?=some y→Zdd x y=true):ZoX l:=by
 intro i j x y hij hx hy
 obtain ⟨d,rfl⟩:∃d,j=i+1+d:=⟨j - (i+1),by omega⟩
 clear hij
 induction d generalizing y with
 |zero=>exact h i x y hx hy
 | succ d ih=>
  have hlt:i+1+d<l.length:=by have:=Ze hy;omega
  obtain ⟨z,hz⟩:∃z,l[i+1+d]?=some z:=⟨l[i+1+d],List.getElem?_eq_getElem hlt⟩
  exact ZiR (ih z hz) (h (i+1+d) z y hz hy)
structure Hlv (l:List PSt) (b:PSt) (lo hi:Nat):Prop where
 le:lo≤hi
 top:hi≤l.length
 low:∀(i:Nat) (x:PSt),i<lo→l[i]?=some x→Zdd x b=true
 high:∀(i:Nat) (x:PSt),hi≤i→l[i]?=some x→Zdd x b=false
theorem Hlv.mem {l:List PSt} {b:PSt} {k:Nat} (h:Hlv l b k k) (hr:ZoX l):b∈l↔l[k]?=some b:=by
 constructor
 ·intro hm
  obtain ⟨j,hj⟩:=List.getElem?_of_mem hm
  have h1:k≤j:=by
   by_cases hc:j<k
   ·have:=h.low j b hc hj;rw[ZlS] at this;cases this
   ·omega
  by_cases hc:k<j
  ·have hkl:k<l.length:=by have:=Ze hj;omega
   obtain ⟨x,hx⟩:∃x,l[k]?=some x:=⟨l[k],List.getElem?_eq_getElem hkl⟩
   have:=hr k j x b hc hx hj
   rw[h.high k x (Nat.le_refl _) hx] at this
   cases this
  ·rw[show k=j by omega];exact hj
 ·intro hk;exact List.mem_of_getElem? hk
theorem Hlv.up {l:List PSt} {b:PSt} {lo hi m:Nat} {x:PSt} (h:Hlv l b lo hi) (hr:ZoX l) (h1:lo≤m) (h2:m<hi) (hx:l[m]?=some x) (hl:Zdd x b=true):Hlv l b (m+1) hi:=
 ⟨h2,h.top,fun i y hi' hy=>by
  by_cases e:i=m
  ·rw[e,hx] at hy;cases hy;exact hl
  ·exact ZiR (hr i m y x (by omega) hy hx) hl,h.high⟩
theorem Hlv.down {l:List PSt} {b:PSt} {lo hi m:Nat} {x:PSt} (h:Hlv l b lo hi) (hr:ZoX l) (h1:lo≤m) (h2:m<hi) (hx:l[m]?=some x) (hl:Zdd x b=false):Hlv l b lo m:=
 ⟨h1,by have:=h.top;omega,h.low,fun i y hi' hy=>by
  by_cases e:i=m
  ·rw[e,hx] at hy;cases hy;exact hl
  ·cases hc:Zdd y b with
   |false=>rfl
   | true=>
    have:=ZiR (hr m i x y (by omega) hx hy) hc
    rw[hl] at this;cases this⟩
theorem Hlv.start (l:List PSt) (b:PSt):Hlv l b 0 l.length:=⟨Nat.zero_le _,Nat.le_refl _,fun i x h _=>by omega,fun i x h hx=>by have:=Ze hx;omega⟩
def ZkI (c:PSG) (n:PNet) (l:List PSt) (k:Nat) (x:PSt):Bool:=(decide (k=0)||Zdd (l.getD (k - 1) ⟨0,[]⟩) x)&&Zkf c n x
def ZoY (c:PSG) (n:PNet) (l:List PSt):Bool:=ZS (ZkI c n l) 0 l&&decide (l.length≤600)
theorem Zzl {c:PSG} {n:PNet} {l:List PSt} (h:ZoY c n l=true):ZoX l∧(∀x∈l,Zkf c n x=true)∧l.length≤600:=by
 unfold ZoY at h
 simp only[Bool.and_eq_true,decide_eq_true_eq] at h
 have h1:∀(i:Nat) (x:PSt),l[i]?=some x→ZkI c n l i x=true:=fun i x hx=>by
  have:=ZjE _ _ _ h.1 i x hx
  rwa[Nat.zero_add] at this
 refine ⟨Zzk fun i x y hx hy=> ?_,fun x hx=> ?_,h.2⟩
 ·have:=h1 (i+1) y hy
  unfold ZkI at this
  simp only[Bool.and_eq_true,Bool.or_eq_true,decide_eq_true_eq,Nat.add_sub_cancel] at this
  rcases this.1 with h|h
  ·omega
  ·rw[List.getD_eq_getElem?_getD,hx] at h;exact h
 ·obtain ⟨i,hi⟩:=List.getElem?_of_mem hx
  have:=h1 i x hi
  unfold ZkI at this
  simp only[Bool.and_eq_true] at this
  exact this.2
def Zvz (c:PSG) (n:PNet) (l:List PSt) (b:PSt):Bool:=
 decide (0<(Zaq c n b.state.toNat b.values n.wires.length).length)||(Zha c n b||(Zbf c n b.state.toNat b.values n.wires.length).any fun k=> !decide (Zbe c n b.state.toNat b.values k∈l))
def wrGo (c:PSG) (n:PNet) (L:List PSt):Nat→List PSt→Int
 |_,[]=> -1
 |k,x::r=>if Zvz c n L x=true then ((k+1:Nat):Int) else wrGo c n L (k+1) r
def ZoZ (c:PSG) (n:PNet) (l:List PSt):Int:=if ZkG c n∈l then wrGo c n l 0 l else 0
theorem ZvA (c:PSG) (n:PNet) (L:List PSt):∀(l:List PSt) (k:Nat),rgo (R:=PV) (fun k x=>if Zvz c n L x=true then some (some (pI ((k+1:Nat):Int))) else none) (some (pI (-1))) k l=some (pI (wrGo c n L k l))
 |[],k=>rfl
 | x::r,k=>by
  unfold rgo wrGo
  by_cases h:Zvz c n L x=true
  ·rw[if_pos h,if_pos h]
  ·rw[if_neg h,if_neg h];exact ZvA c n L r (k+1)
theorem Znm (a b:PSt):Ze0 [ePs a,ePs b]=some (pB (Zdd a b)):=by
 show (fun x0 x1=>Ze0 [x0,x1]) _ _=_
 rw[Zr5]
 unfold Zdd
 cases c1:decide (a.state<b.state)<;>cases c2:decide (a.state=b.state)<;>simp only[ePs,ZW,c1,c2,ZiQ,EVS]
theorem quo2 (k:Nat) (h:k≤1000000):Zd .quo (TD.int .i64) (.int .i64 (k:Int)) (.int .i64 2)=some (.int .i64 ((k / 2:Nat):Int)):=by
 show (if (2:Int)=0 then none else some (PV.int .i64 (IntKind.i64.wrap ((k:Int).tdiv 2))))=_
 have e:(k:Int).tdiv 2=((k / 2:Nat):Int):=rfl
 rw[if_neg (by omega),e,Zaj (by omega) (by omega)]
theorem Zo0 (l:List PSt) (b:PSt) (hr:ZoX l) (hl:l.length≤600):ZfL [.lst (l.map ePs),ePs b]=some (pB (decide (b∈l))):=by
 show (fun x0 x1=>ZfL [x0,x1]) _ _=_
 rw[ZtS]
 simp only[ePs,List.length_map,EVS]
 refine (congrArg (fun m:Option PV=>m.bind fun r=>if r.sc=true then some r else none) (Zcj (R:=PV) (fun q:{q:Nat×Nat // Hlv l b q.1 q.2}=>[pI (Int.ofNat q.1.2),pI (Int.ofNat q.1.1)]) (fun q=>q.1.2 - q.1.1) (fun _=>some (pB (decide (b∈l)))) _ (fun again q ih=> ?_) _ ⟨(0,l.length),Hlv.start l b⟩ (by simp only;omega))).trans ?_
 ·obtain ⟨⟨lo,hi⟩,hq⟩:=q
  dsimp only at ih hq⊢
  have htop:=hq.top
  by_cases c:lo<hi
  ·obtain ⟨m,hm⟩:∃m,(lo+hi) / 2=m:=⟨_,rfl⟩
   have hml:m<l.length:=by omega
   obtain ⟨x,hx⟩:∃x,l[m]?=some x:=⟨l[m],List.getElem?_eq_getElem hml⟩
   have hwa:IntKind.i64.wrap ((lo:Int)+(hi:Int))=((lo+hi:Nat):Int):=by rw[Zaj (by omega) (by omega)];omega
   have hqu:=quo2 (lo+hi) (by omega)
   rw[hm] at hqu
   have him:Zl (.lst (l.map ePs)) (.int .i64 (m:Int))=some (ePs x):=Zj hx
   have hnm:=Zm (k:=m) (n:=l.length) hml (by omega)
   have g:=Znm x b
   cases hls:Zdd x b<;>rw[hls] at g<;>simp only[ePs] at g him
   ·simp only[ZD c,hwa,hqu,him,g,ePs,ZW,EVS]
    exact ih ⟨(lo,m),hq.down hr (by omega) (by omega) hx hls⟩ (by simp only;omega)
   ·simp only[ZD c,hwa,hqu,him,g,ePs,ZW,hnm,EVS]
    exact ih ⟨(m+1,hi),hq.up hr (by omega) (by omega) hx hls⟩ (by simp only;omega)
  ·have hle:=hq.le
   obtain rfl:lo=hi:=by omega
   have hmem:=hq.mem hr
   by_cases c2:lo<l.length
   ·obtain ⟨x,hx⟩:∃x,l[lo]?=some x:=⟨l[lo],List.getElem?_eq_getElem c2⟩
    have him:Zl (.lst (l.map ePs)) (.int .i64 (lo:Int))=some (ePs x):=Zj hx
    have hdm:decide (b∈l)=decide (x=b):=by
     rw[hx,Option.some.injEq] at hmem
     by_cases e:x=b
     ·rw[decide_eq_true e,decide_eq_true (hmem.2 e)]
     ·rw[decide_eq_false e,decide_eq_false (fun hc=>e (hmem.1 hc))]
    have heq:=Zzi x b
    simp only[ePs] at him
    simp only[Zac,ZD c2,him,heq,hdm,ePs,ZW,List.length_map,EVS]
   ·have hdm:decide (b∈l)=false:=decide_eq_false (fun hc=>by have:=hmem.1 hc;have:=Ze this;omega)
    have hge:decide ((lo:Int)<(l.length:Int))=false:=by simp only[decide_eq_false_iff_not];omega
    simp only[Zac,hge,hdm,List.length_map,EVS]
 ·rfl
theorem ZrT (c:PSG) (n:PNet) (l:List PSt) (hc:SGFit c) (hn:n.Fit) (hl:ZB l) (hv:∀b∈l,ZB b.values):Zfg [eSG c,ZP n,.lst (l.map ePs)]=some (pB (goP c n&&ZoY c n l)):=by
 have g0:=ZxZ c n hc hn
 have hcl:=hc.codes
 unfold ZB at hcl hl
 have hw:IntKind.i64.wrap ((c.codes.length:Int) - 1)=(c.codes.length:Int) - 1:=Zaj (by omega) (by omega)
 simp only[eSG,ZP] at g0
 show (fun x0 x1 x2=>Zfg [x0,x1,x2]) _ _ _=_
 rw[Zqc]
 cases c0:goP c n
 ·rw[c0] at g0
  simp only[eSG,ZP,ZW,Zag,g0,EVS]
 rw[c0] at g0
 have h:=ZrM c0 hc hn
 unfold ZoY
 by_cases c6:l.length≤600
 case neg=>
  have h6:decide ((600:Int)<(l.length:Int))=true:=by simp only[decide_eq_true_eq];omega
  simp only[eSG,ZP,ZW,Zag,g0,h6,c6,List.length_map,EVS]
 have h6:decide ((600:Int)<(l.length:Int))=false:=by simp only[decide_eq_false_iff_not];omega
 simp only[eSG,ZP,ZW,Zag,g0,h6,c6,List.length_map,EVS]
 refine (congrArg (fun m:Option PV=>m.bind fun r=>if r.sc=true then some r else none) (ZM (R:=PV) l (ZkI c n l) (some (pB false)) (some (pB true)) _ (by omega) (fun again k b hk=> ?_) (fun again=> ?_))).trans ?_
 ·have hkl:=Ze hk
  have hib:Zl (.lst (l.map ePs)) (.int .i64 (k:Int))=some (ePs b):=Zj hk
  have hnw:=Zm hkl (show l.length≤9223372036854775807 by omega)
  have hvb:=hv b (List.mem_of_getElem? hk)
  have g1:=Zbh b.state 0 ((c.codes.length:Int) - 1)
  have g2:=Zo8 b.values n.wires.length hvb
  simp only[ePs] at hib
  have tail:∀(o:Bool),(∀R:Option PV,True)→True:=fun _ _=>trivial
  unfold ZkI Zkf
  have hst:∀(hi1:inR b.state 0 ((c.codes.length:Int) - 1)=true) (c2:Zab b.values n.wires.length=true),∃s:Nat,b.state=s∧s<c.codes.length∧∃code,c.codes.getD s []=code∧Zl (.lst (c.codes.map PV.str)) (.int .i64 (s:Int))=some (.str code)∧ZfT (.str b.values) none (some (.int .i64 (n.signals.length:Int)))=some (.str (b.values.take n.signals.length)):=fun hi1 c2=>by
   unfold inR at hi1
   simp only[Bool.and_eq_true,decide_eq_true_eq] at hi1
   obtain ⟨s,hs⟩:∃s:Nat,b.state=s:=⟨b.state.toNat,by omega⟩
   have hsl:s<c.codes.length:=by omega
   have hcs:c.codes[s]?=some c.codes[s]:=List.getElem?_eq_getElem hsl
   obtain ⟨v1,v2,v3,v4,v5,v6⟩:=h.vals c2
   exact ⟨s,hs,hsl,c.codes[s],by rw[List.getD_eq_getElem?_getD,hcs];rfl,Zj hcs,Zjy (by omega)⟩
  rcases k with _|k
  ·have h0l:decide ((0:Int)<(l.length:Int))=true:=ZD hkl
   have hib0:Zl (.lst (l.map ePs)) (.int .i64 0)=some (.agg [pI b.state,.str b.values]):=hib
   have hnw0:IntKind.i64.wrap ((0:Int)+1)=((0+1:Nat):Int):=hnw
   cases c1:inR b.state 0 ((c.codes.length:Int) - 1)
   ·have c1':=c1
    unfold inR at c1'
    rw[c1'] at g1
    simp only[h0l,hib0,hnw0,ePs,ZW,Zag,List.length_map,hw,g1,show decide ((0:Int)<0)=false from rfl,decide_true,Int.natCast_zero,EVS]
    try rfl
   ·have c1':=c1
    unfold inR at c1'
    rw[c1'] at g1
    cases c2:Zab b.values n.wires.length
    ·rw[c2] at g2
     simp only[h0l,hib0,hnw0,ePs,ZW,Zag,List.length_map,hw,g1,g2,show decide ((0:Int)<0)=false from rfl,decide_true,Int.natCast_zero,EVS]
     try rfl
    ·rw[c2] at g2
     obtain ⟨s,hs,hsl,code,hd,hi,hcut⟩:=hst c1 c2
     simp only[hs] at g1
     rw[hs,Int.toNat_natCast,hd]
     by_cases ce:b.values.take n.signals.length=code
     ·simp only[h0l,hib0,hnw0,ePs,hs,ZW,Zag,List.length_map,hw,g1,g2,hcut,hi,ce,hnw,show decide ((0:Int)<0)=false from rfl,decide_true,Int.natCast_zero,EVS]
      try rfl
     ·simp only[h0l,hib0,hnw0,ePs,hs,ZW,Zag,List.length_map,hw,g1,g2,hcut,hi,ce,hnw,show decide ((0:Int)<0)=false from rfl,decide_true,decide_false,Int.natCast_zero,EVS]
      try rfl
  ·have hkp:k<l.length:=by omega
   obtain ⟨p,hp⟩:∃p,l[k]?=some p:=⟨l[k],List.getElem?_eq_getElem hkp⟩
   have hpd:l.getD (k+1 - 1) ⟨0,[]⟩=p:=by rw[Nat.add_sub_cancel,List.getD_eq_getElem?_getD,hp];rfl
   have hip:Zl (.lst (l.map ePs)) (.int .i64 (k:Int))=some (ePs p):=Zj hp
   have hsub:IntKind.i64.wrap (((k+1:Nat):Int) - 1)=(k:Int):=by rw[Zaj (by omega) (by omega)];omega
   have hpos:decide ((0:Int)<((k+1:Nat):Int))=true:=by simp only[decide_eq_true_eq];omega
   have hk0:decide (k+1=0)=false:=by simp
   have gl:=Znm p b
   simp only[ePs] at hip gl
   rw[hpd]
   cases c5:Zdd p b
   ·rw[c5] at gl
    simp only[ZD hkl,hib,hip,hsub,hpos,hk0,gl,ePs,ZW,Zag,List.length_map,hw,EVS]
    try rfl
   rw[c5] at gl
   cases c1:inR b.state 0 ((c.codes.length:Int) - 1)
   ·have c1':=c1
    unfold inR at c1'
    rw[c1'] at g1
    simp only[ZD hkl,hib,hip,hsub,hpos,hk0,gl,ePs,ZW,Zag,List.length_map,hw,g1,EVS]
    try rfl
   ·have c1':=c1
    unfold inR at c1'
    rw[c1'] at g1
    cases c2:Zab b.values n.wires.length
    ·rw[c2] at g2
     simp only[ZD hkl,hib,hip,hsub,hpos,hk0,gl,ePs,ZW,Zag,List.length_map,hw,g1,g2,EVS]
     try rfl
    ·rw[c2] at g2
     obtain ⟨s,hs,hsl,code,hd,hi,hcut⟩:=hst c1 c2
     simp only[hs] at g1 gl
     rw[hs,Int.toNat_natCast,hd]
     by_cases ce:b.values.take n.signals.length=code
     ·simp only[ZD hkl,hib,hip,hsub,hpos,hk0,gl,ePs,hs,ZW,Zag,List.length_map,hw,g1,g2,hcut,hi,ce,hnw,decide_true,EVS]
      try rfl
     ·simp only[ZD hkl,hib,hip,hsub,hpos,hk0,gl,ePs,hs,ZW,Zag,List.length_map,hw,g1,g2,hcut,hi,ce,hnw,decide_true,decide_false,EVS]
      try rfl
 ·simp only[Zac,EVS]
 ·cases ZS (ZkI c n l) 0 l<;>rfl
theorem Zz7 {α:Type} (q:α→Bool) (l:List α):(l.any fun x=> !q x)= !(l.all q):=by
 rw[List.any_eq_not_all_not];simp
theorem ZrU (c:PSG) (n:PNet) (l:List PSt) (h:Go1 c n) (hrel:ZoY c n l=true):Zfi [eSG c,ZP n,.lst (l.map ePs)]=some (pI (ZoZ c n l)):=by
 obtain ⟨hr,hst,hl⟩:=Zzl hrel
 have g0:=ZrN c n h
 obtain ⟨f0,hf0⟩:∃f0,ZkG c n=f0:=⟨_,rfl⟩
 rw[hf0] at g0
 have g1:=Zo0 l f0 hr hl
 simp only[eSG,ZP,ePs] at g0 g1
 show (fun x0 x1 x2=>Zfi [x0,x1,x2]) _ _ _=_
 rw[Zqg]
 unfold ZoZ
 rw[hf0]
 by_cases c0:f0∈l
 case neg=>
  rw[decide_eq_false c0] at g1
  simp only[eSG,ZP,ePs,ZW,Zag,g0,g1,c0,if_false,EVS]
 rw[decide_eq_true c0] at g1
 simp only[eSG,ZP,ePs,ZW,Zag,g0,g1,c0,if_true,List.length_map,EVS]
 refine (congrArg (fun m:Option PV=>m.bind fun r=>if r.sc=true then some r else none) ((Zoe (R:=PV) l (fun k x=>if Zvz c n l x=true then some (some (pI ((k+1:Nat):Int))) else none) (some (pI (-1))) _ (by omega) (fun again k b hk=> ?_) (fun again=> ?_)).trans (ZvA c n l l 0))).trans ?_
 ·have hkl:=Ze hk
  obtain ⟨s,hbe,hs,hbits⟩:=ZrP (hst b (List.mem_of_getElem? hk))
  obtain ⟨v,hv⟩:∃v,b.values=v:=⟨_,rfl⟩
  rw[hv] at hbe hbits
  subst hbe
  have hib:Zl (.lst (l.map ePs)) (.int .i64 (k:Int))=some (ePs ⟨(s:Int),v⟩):=Zj hk
  have g2:=Ztx c n h s v hs hbits
  have g3:=ZrR c n h s v hs hbits
  have hnw:=Zm hkl (show l.length≤9223372036854775807 by omega)
  have hcl:=ZtA c n s v n.wires.length
  have hn24:=(Zen h.net).2
  obtain ⟨L,hL⟩:∃L,Zbf c n s v n.wires.length=L:=⟨_,rfl⟩
  obtain ⟨X,hX⟩:∃X,Zaq c n s v n.wires.length=X:=⟨_,rfl⟩
  rw[hL] at g2 hcl
  rw[hX] at g2
  simp only[eSG,ZP,ePs] at g2 g3 hib
  simp only[ZD hkl,hib,ePs,ZW,Zag,g2,hnw,List.length_map,EVS]
  refine (ZM (R:=PV) L (fun _ w=>decide (Zbe c n s v w∈l)) (some (pI ((k+1:Nat):Int))) (if (decide (0<X.length)||Zha c n ⟨(s:Int),v⟩)=true then some (pI ((k+1:Nat):Int)) else again [pI (Int.ofNat (k+1))]) _ (by omega) (fun again2 j w hj=> ?_) (fun again2=> ?_)).trans ?_
  ·have hjl:=Ze hj
   have hpl:ZeY (L.map fun k=>PV.agg [pI (Zbe c n s v k).state,.str (Zbe c n s v k).values]) (.int .i64 (j:Int))=some (.int .i64 (j:Int)):=Ze3 (by rw[List.length_map];exact hjl)
   have hat:(L.map fun k=>PV.agg [pI (Zbe c n s v k).state,.str (Zbe c n s v k).values])[j]?=some (.agg [pI (Zbe c n s v w).state,.str (Zbe c n s v w).values]):=by rw[List.getElem?_map,hj];rfl
   have hnj:=Zm hjl (show L.length≤9223372036854775807 by omega)
   have g4:=Zo0 l (Zbe c n s v w) hr hl
   simp only[ePs] at g4
   cases c4:decide (Zbe c n s v w∈l)<;>rw[c4] at g4<;>simp only[ZD hjl,hpl,hat,g4,ZW,Zag,hnj,hnw,Bool.false_eq_true,if_false,if_true,EVS]
  ·by_cases cx:0<X.length
   ·have hcx:decide ((0:Int)<(X.length:Int))=true:=by simp only[decide_eq_true_eq];omega
    simp only[Zac,hcx,cx,ZW,Zag,hnw,List.length_map,decide_true,Bool.true_or,if_true,EVS]
   ·have hcx:decide ((0:Int)<(X.length:Int))=false:=by simp only[decide_eq_false_iff_not];omega
    cases c3:Zha c n ⟨(s:Int),v⟩<;>rw[c3] at g3<;>simp only[Zac,hcx,cx,g3,ZW,Zag,hnw,List.length_map,decide_false,Bool.false_or,Bool.false_eq_true,if_true,if_false,EVS]
  ·unfold Zvz
   dsimp only
   rw[Int.toNat_natCast,hL,hX,Zz7,Zak]
   cases L.all (fun w=>decide (Zbe c n s v w∈l))<;>cases decide (0<X.length)<;>cases Zha c n ⟨(s:Int),v⟩<;>rfl
 ·simp only[Zac,EVS]
  rfl
 ·rfl
theorem ZxQ (a b:PSt) (ha:0≤a.state∧a.state≤1000) (hb:0≤b.state∧b.state≤1000):∃d:Int,Zc8 [ePs a,ePs b]=some (pI d)∧decide (0≤d)= !Zdd a b:=by
 have hw:IntKind.i64.wrap (a.state - b.state)=a.state - b.state:=Zaj (by omega) (by omega)
 show ∃d:Int,(fun x0 x1=>Zc8 [x0,x1]) _ _=some (pI d)∧_
 rw[Zl6]
 unfold Zdd
 by_cases c1:a.state=b.state
 ·have hd:decide (a.state=b.state)=true:=decide_eq_true c1
  have hlt:decide (a.state<b.state)=false:=by simp only[decide_eq_false_iff_not];omega
  by_cases c2:a.values<b.values
  ·refine ⟨-1, ?_, ?_⟩
   ·have e2:decide (a.values<b.values)=true:=decide_eq_true c2
    simp only[ePs,hd,ZiQ,e2,EVS]
    rfl
   ·simp[c1,c2]
  ·have e2:decide (a.values<b.values)=false:=decide_eq_false c2
   cases c3:(a.values==b.values)
   ·refine ⟨1, ?_,by simp[c1,c2]⟩
    simp only[ePs,hd,ZiQ,e2,show ∀x y:List UInt8,Zd .gtr .str (.str x) (.str y)=some (.bool (!(Op.bytesLess x y||x==y))) from fun _ _=>rfl,c3,EVS]
    try rfl
   ·refine ⟨0, ?_,by simp[c1,c2]⟩
    simp only[ePs,hd,ZiQ,e2,show ∀x y:List UInt8,Zd .gtr .str (.str x) (.str y)=some (.bool (!(Op.bytesLess x y||x==y))) from fun _ _=>rfl,c3,EVS]
    try rfl
 ·have hd:decide (a.state=b.state)=false:=decide_eq_false c1
  refine ⟨a.state - b.state, ?_, ?_⟩
  ·simp only[ePs,hd,hw,EVS]
   try rfl
  ·by_cases c4:a.state<b.state
   ·simp[c1,c4]<;>omega
   ·simp[c1,c4]<;>omega
theorem st_in {c:PSG} {n:PNet} (h:Go1 c n) {b:PSt} (hb:Zkf c n b=true):0≤b.state∧b.state≤1000:=by
 obtain ⟨s,hbe,hs,_⟩:=ZrP hb
 have:=h.many
 rw[hbe]
 dsimp only
 omega
def ZlT {R:Type} (c:PSG) (n:PNet) (l:List PSt) (z:Option R) (_:Unit) (k:Nat) (x:PSt):Sum Unit (Option R):=if ZkI c n l k x=true then .inl () else .inr z
theorem ZtC {R:Type} (c:PSG) (n:PNet) (L:List PSt) (z:Option R) (e:Option R):∀(l:List PSt) (k:Nat),ZbK (R:=R) (ZlT c n L z) (fun _=>e) k () l=if ZS (ZkI c n L) k l=true then e else z
 |[],k=>rfl
 | x::r,k=>by
  unfold ZbK ZlT ZS
  by_cases h:ZkI c n L k x=true
  ·rw[if_pos h,h,Bool.true_and];exact ZtC c n L z e r (k+1)
  ·rw[if_neg h]
   have:ZkI c n L k x=false:=by simpa using h
   rw[this];rfl
theorem Znn {R α β:Type} (f:β→Nat→α→Sum β (Option R)) (z:Option R) (h:∀b k x,∃b',f b k x=.inl b'):∀(q:List α) (k:Nat) (b:β),ZbK f (fun _=>z) k b q=z
 |[],k,b=>rfl
 | x::q,k,b=>by
  unfold ZbK
  obtain ⟨b',e⟩:=h b k x
  rw[e]
  exact Znn f z h q (k+1) b'
theorem lt2 {R:Type} (a:Bool) (y:PV) (l:List PV) (x:Option R):Za [.bool a,.tup (y::l)] x=x:=rfl
theorem Zo1 (c:PSG) (n:PNet) (l:List PSt) (h:Go1 c n) (hl:ZB l) (hv:∀b∈l,ZB b.values):Za3 [Zcl c n,.lst (l.map ePs)]=some (pB (ZoY c n l)):=by
 unfold ZB at hl
 show (fun x0 x1=>Za3 [x0,x1]) _ _=_
 rw[Zhm]
 simp only[Zcl,List.length_map,EVS]
 refine (congrArg (fun m:Option PV=>m.bind fun r=>if r.sc=true then some r else none) ((ZfA (R:=PV) l (fun (_:Unit) k=>[pI (Int.ofNat k)]) (fun k _=>∀(i:Nat) (x:PSt),i<k→l[i]?=some x→Zkf c n x=true) (ZlT c n l (some (pB false))) (fun _=>some (pB (decide (l.length≤600)))) _ (by omega) (fun b k x b' hi hx he=> ?_) (fun again b k x hi hx=> ?_) (fun again b hi=> ?_) (b:=()) (fun i x hi=>by omega)).trans (ZtC c n l _ _ l 0))).trans ?_
 ·intro i y hik hy
  have hx2:ZkI c n l k x=true:=by
   unfold ZlT at he
   split at he
   ·assumption
   ·cases he
  by_cases e:i=k
  ·rw[e,hx] at hy
   cases hy
   unfold ZkI at hx2
   simp only[Bool.and_eq_true] at hx2
   exact hx2.2
  ·exact hi i y (by omega) hy
 ·have hkl:=Ze hx
  have hib:Zl (.lst (l.map ePs)) (.int .i64 (k:Int))=some (ePs x):=Zj hx
  have hnw:=Zm hkl (show l.length≤9223372036854775807 by omega)
  have g1:=Zty c n h x (hv x (List.mem_of_getElem? hx))
  simp only[Zcl,ePs] at g1 hib
  unfold ZlT ZkI
  cases c1:Zkf c n x
  ·rw[c1] at g1
   simp only[ZD hkl,hib,ePs,ZoS,ZW,g1,Bool.and_false,Bool.false_eq_true,if_false,EVS]
   try rfl
  rw[c1] at g1
  rcases k with _|k
  ·have h0l:decide ((0:Int)<(l.length:Int))=true:=ZD hkl
   have hib0:Zl (.lst (l.map ePs)) (.int .i64 0)=some (.agg [pI x.state,.str x.values]):=hib
   have hnw0:IntKind.i64.wrap ((0:Int)+1)=((0+1:Nat):Int):=hnw
   simp only[h0l,hib0,hnw0,ePs,ZoS,ZW,g1,show decide ((0:Int)<0)=false from rfl,decide_true,Int.natCast_zero,Bool.true_or,Bool.true_and,if_true,EVS]
   try rfl
  ·have hkp:k<l.length:=by omega
   obtain ⟨p,hp⟩:∃p,l[k]?=some p:=⟨l[k],List.getElem?_eq_getElem hkp⟩
   have hpd:l.getD (k+1 - 1) ⟨0,[]⟩=p:=by rw[Nat.add_sub_cancel,List.getD_eq_getElem?_getD,hp];rfl
   have hip:Zl (.lst (l.map ePs)) (.int .i64 (k:Int))=some (ePs p):=Zj hp
   have hsub:IntKind.i64.wrap (((k+1:Nat):Int) - 1)=(k:Int):=by rw[Zaj (by omega) (by omega)];omega
   have hpos:decide ((0:Int)<((k+1:Nat):Int))=true:=by simp only[decide_eq_true_eq];omega
   have hk0:decide (k+1=0)=false:=by simp
   obtain ⟨d,gd,hd⟩:=ZxQ p x (st_in h (hi k p (by omega) hp)) (st_in h c1)
   simp only[ePs] at hip gd
   rw[hpd]
   cases c5:Zdd p x<;>rw[c5] at hd<;>simp only[ZD hkl,hib,hip,hsub,hpos,hk0,gd,hd,ePs,ZoS,ZW,g1,hnw,Bool.false_or,Bool.false_and,Bool.true_and,Bool.not_false,Bool.not_true,Bool.false_eq_true,if_false,if_true,EVS]
 ·have hd:decide ((l.length:Int)≤600)=decide (l.length≤600):=by congr 1;apply propext;omega
  simp only[Zac,hd,List.length_map,EVS]
 ·unfold ZoY
  cases ZS (ZkI c n l) 0 l<;>cases decide (l.length≤600)<;>rfl
def mpL (l:List PSt):PV:=.map (ZrQ (fun _=>.bool true) 0 l)
theorem ZxR (l:List PSt) {k:Nat} {b:PSt} (h:l[k]?=some b):PV.map (ZrQ (fun _=>.bool true) 0 (l.take k)++[(.agg [pI b.state,.str b.values],.bool true)])=mpL (l.take (k+1)):=by
 unfold mpL
 rw[List.take_add_one,h,Option.toList_some,ZqY]
 rfl
theorem ZxS {l:List PSt} (hr:ZoX l) {k:Nat} {b:PSt} (h:l[k]?=some b):b∉l.take k:=by
 intro hm
 obtain ⟨i,hi⟩:=List.getElem?_of_mem hm
 rw[List.getElem?_take] at hi
 split at hi
 ·rename_i hik
  have:=hr i k b b hik hi h
  rw[ZlS] at this
  cases this
 ·cases hi
theorem Zzn :ZaV (TI.mk 1 1 TD.bool [ZC.bool] [] false)=.bool false:=rfl
theorem Zp4 (l:List PSt) (b:PSt):Zbl [ePs b,.agg [mpL l]]=some (pB (!decide (b∈l))):=by
 have hk:=keyP b
 have hf:=ZwY (fun _=>.bool true) b l 0 0
 show (fun x0 x1=>Zbl [x0,x1]) _ _=_
 rw[Zik]
 by_cases c:b∈l
 ·rw[if_pos c] at hf
  simp only[ePs,mpL,ZoW,hk,hf,ZW,decide_eq_true c,if_true,EVS]
  try rfl
 ·rw[if_neg c] at hf
  simp only[ePs,mpL,ZoW,hk,hf,ZW,decide_eq_false c,if_true,Zzn,EVS]
  try rfl
theorem capsM (x:PV):ZbL 1 (.tup [.agg [x]])=some [.agg [x]]:=by simp[ZbL,PV.parts,PV.isU]
theorem ZlU (l:List PSt) (L:List Nat) (g:Nat→PSt) (hL:L.length≤1000):Zp [.lst (L.map fun k=>ePs (g k)),.tup [.agg [mpL l]]]=some (pI (ixf (fun k=> !decide (g k∈l)) 0 L)):=by
 show (fun x0 x1=>Zp [x0,x1]) _ _=_
 rw[ZaP]
 simp only[List.length_map,EVS]
 refine (congrArg (fun m:Option PV=>m.bind fun r=>if r.sc=true then some r else none) (Zd2 L (fun k=> !decide (g k∈l)) _ (by omega) (fun again j k hx=> ?_) (fun again=> ?_))).trans ?_
 ·have hj:=Ze hx
  have hi:Zl (.lst (L.map fun k=>ePs (g k))) (.int .i64 (j:Int))=some (ePs (g k)):=Zj (enc:=fun k=>ePs (g k)) hx
  have gb:=Zp4 l (g k)
  simp only[ePs] at gb hi
  cases c1:decide (g k∈l)<;>rw[c1] at gb<;>simp only[ePs,List.length_map,ZD hj,Zm hj (show L.length≤9223372036854775807 by omega),hi,ZW,capsM,gb,List.append_nil,List.cons_append,List.nil_append,Bool.not_false,Bool.not_true,Bool.false_eq_true,if_false,if_true,EVS]
 ·simp only[List.length_map,Zac,EVS]
  rfl
 ·simp only[EVS]
theorem ZiS (l:List PSt) (L:List Nat) (g:Nat→PSt) (hL:L.length≤1000):Zo [.lst (L.map fun k=>ePs (g k)),.tup [.agg [mpL l]]]=some (pB (L.any fun k=> !decide (g k∈l))):=by
 have g1:=ZlU l L g hL
 show (fun x0 x1=>Zo [x0,x1]) _ _=_
 rw[ZaH]
 simp only[g1,Ze5 (fun k=> !decide (g k∈l)) L 0,EVS]
 rw[Zak,List.any_eq_not_all_not]
theorem ZtD (c:PSG) (n:PNet) (l:List PSt) (h:Go1 c n) (hrel:ZoY c n l=true):Zb9 [Zcl c n,.lst (l.map ePs)]=some (pI (ZoZ c n l)):=by
 obtain ⟨hr,hst,hl⟩:=Zzl hrel
 have g0:=Ztu c n h
 obtain ⟨f0,hf0⟩:∃f0,ZkG c n=f0:=⟨_,rfl⟩
 rw[hf0] at g0
 simp only[Zcl,ePs] at g0
 show (fun x0 x1=>Zb9 [x0,x1]) _ _=_
 rw[ZjZ]
 unfold ZoZ
 rw[hf0]
 simp only[Zcl,List.length_map,EVS]
 refine (congrArg (fun m:Option PV=>m.bind fun r=>if r.sc=true then some r else none) ((ZfA (R:=PV) l (fun (_:Unit) k=>[mpL (l.take k),pI (Int.ofNat k)]) (fun _ _=>True) (fun _ _ _=>.inl ()) (fun _=>some (pI (if f0∈l then wrGo c n l 0 l else 0))) _ (by omega) (fun _ _ _ _ _ _ _=>trivial) (fun again b k x hi hx=> ?_) (fun again b hi=> ?_) (b:=()) trivial).trans (Znn _ _ (fun b k x=>⟨_,rfl⟩) _ _ _))).trans ?_
 ·have hkl:=Ze hx
  have hib:Zl (.lst (l.map ePs)) (.int .i64 (k:Int))=some (ePs x):=Zj hx
  have hnw:=Zm hkl (show l.length≤9223372036854775807 by omega)
  have hk:=keyP x
  have hf:=ZwY (fun _=>.bool true) x (l.take k) 0 0
  rw[if_neg (ZxS hr hx)] at hf
  have hmt:=ZxR l hx
  simp only[ePs] at hib
  simp only[ZD hkl,hib,ePs,ZW,mpL,ZoW,hk,hf,hnw,if_true,EVS]
  rw[←mpL,←hmt]
  try rfl
 ·rw [List.take_of_length_le (Nat.le_refl _)]
  have hk:=keyP f0
  have hf:=ZwY (fun _=>.bool true) f0 l 0 0
  by_cases c0:f0∈l
  case neg=>
   rw[if_neg c0] at hf
   simp only[Zac,ePs,ZoS,ZW,g0,mpL,ZoW,hk,hf,c0,Zzn,if_true,if_false,EVS]
   try rfl
  rw[if_pos c0] at hf
  simp only[Zac,ePs,ZoS,ZW,g0,mpL,ZoW,hk,hf,c0,if_true,List.length_map,EVS]
  refine (Zoe (R:=PV) l (fun k x=>if Zvz c n l x=true then some (some (pI ((k+1:Nat):Int))) else none) (some (pI (-1))) _ (by omega) (fun again k b hkx=> ?_) (fun again=> ?_)).trans (ZvA c n l l 0)
  ·have hkl:=Ze hkx
   obtain ⟨s,hbe,hs,hbits⟩:=ZrP (hst b (List.mem_of_getElem? hkx))
   obtain ⟨v,hv⟩:∃v,b.values=v:=⟨_,rfl⟩
   rw[hv] at hbe hbits
   subst hbe
   have hib:Zl (.lst (l.map ePs)) (.int .i64 (k:Int))=some (ePs ⟨(s:Int),v⟩):=Zj hkx
   have g1:=ZoT c n h s v hs hbits
   have g2:=ZoU c n h s v hs hbits
   have g3:=Zvy c n h s v hs hbits
   have hnw:=Zm hkl (show l.length≤9223372036854775807 by omega)
   have hcl:=ZtA c n s v n.wires.length
   have hn24:=(Zen h.net).2
   have g4:=ZiS l (Zbf c n s v n.wires.length) (Zbe c n s v) (by omega)
   unfold Zvz
   dsimp only
   rw[Int.toNat_natCast]
   obtain ⟨L,hL⟩:∃L,Zbf c n s v n.wires.length=L:=⟨_,rfl⟩
   obtain ⟨X,hX⟩:∃X,Zaq c n s v n.wires.length=X:=⟨_,rfl⟩
   rw[hL] at g1 hcl g4⊢
   rw[hX] at g2⊢
   simp only[mpL] at g4
   simp only[Zcl,ePs] at g1 g2 g3 g4 hib
   by_cases cx:0<X.length
   ·have hcx:decide ((0:Int)<(X.length:Int))=true:=by simp only[decide_eq_true_eq];omega
    simp only[ZD hkl,hib,ePs,ZoS,ZW,g1,g2,hnw,hcx,cx,List.length_map,decide_true,Bool.true_or,if_true,EVS]
    try rfl
   ·have hcx:decide ((0:Int)<(X.length:Int))=false:=by simp only[decide_eq_false_iff_not];omega
    cases c3:Zha c n ⟨(s:Int),v⟩<;>rw[c3] at g3<;>cases c4:(L.any fun k=> !decide (Zbe c n s v k∈l))<;>rw[c4] at g4<;>simp only[ZD hkl,hib,ePs,ZoS,ZW,g1,g2,g3,g4,hnw,hcx,cx,lt2,List.length_map,decide_false,Bool.false_or,Bool.true_or,Bool.false_eq_true,if_true,if_false,EVS]<;>try rfl
  ·simp only[Zac,EVS]
   rfl
 ·rfl
def Zv (m:Nat) (a:PSt):Prop:=(a.values).length≤m
theorem ZlV (a:PSt) (l:Int) (hb:Zv 9223372036854775807 a) (h0:0≤l) (h1:l≤1048576):Zaw (Zbt [ePs a,pI l]) l (Zv 1048576 a):=by
 have b0:=hb
 unfold Zv at b0
 unfold Zv
 show Zaw ((fun x0 x1=>Zbt [x0,x1]) _ _) _ _
 rw[Zio]
 simp only[ePs,EVS]
 have w0:IntKind.i64.wrap (l - (a.values.length:Int))=(l - (a.values.length:Int)):=Zaj (by omega) (by omega)
 simp only[w0,EVS]
 by_cases c0:(l - (a.values.length:Int))<0
 ·simp only[c0,EVS];exact Zaw.neg h0
 simp only[c0,EVS]
 have q0:0≤(l - (a.values.length:Int))∧(l - (a.values.length:Int))≤l:=by omega
 exact Zaw.pos (by omega) (by omega)
theorem ZlW (a:PSt) (hb:Zv 1048576 a):Zbu [ePs a]=some (ePs a):=by
 have b0:=hb
 unfold Zv at b0
 show (fun x0=>Zbu [x0]) _=_
 rw[Ziq]
 simp only[ePs,EVS]
theorem ZlX (a:PSt) (hb:Zv 9223372036854775807 a):Zbk [ePs a,ePs a]=some (pB true):=by
 have b0:=hb
 unfold Zv at b0
 show (fun x0 x1=>Zbk [x0,x1]) _ _=_
 rw[Zii]
 simp only[ePs,beq_self_eq_true,EVS]
theorem ZkJ (xs:List (PSt)) (l:Int) (hb:((xs).length≤9223372036854775807∧∀x∈xs,Zv 9223372036854775807 x)) (h0:0≤l) (h1:l≤1048576):Zaw (Za8 [.lst (xs.map ePs),pI l]) l (((xs).length≤1048576∧∀x∈xs,Zv 1048576 x)):=by
 have hx:xs.length≤9223372036854775807:=hb.1
 show Zaw ((fun x0 x1=>Za8 [x0,x1]) _ _) _ _
 rw[ZhK]
 have w1:IntKind.i64.wrap (l - (xs.length:Int))=l - (xs.length:Int):=Zaj (by omega) (by omega)
 simp only[w1,List.length_map,EVS]
 by_cases c:l - (xs.length:Int)<0
 ·simp only[c,EVS];exact Zaw.neg h0
 ·simp only[c,EVS]
  refine (Zaw.sc (Zrm xs (fun x=>Zv 1048576 x) _ hx (fun again k x l' hk h2 h3=> ?_) (fun again l'=> ?_) (by omega) (by omega))).mono (by omega) (fun h=>⟨by omega,h⟩)
  ·have hi:Zl (.lst (xs.map ePs)) (.int .i64 (k:Int))=some ((ePs x)):=Zj hk
   obtain ⟨r,g1,g2,g3⟩:=ZlV x l' (hb.2 x (List.mem_of_getElem? hk)) h2 h3
   refine ⟨r,g2,g3, ?_⟩
   simp only[ePs] at g1 hi
   simp only[ZD (Ze hk),Zm (Ze hk) hx,hi,g1,EVS]
   by_cases c2:r<0<;>simp only[c2,EVS]
  ·simp only[Zac,EVS]
theorem ZkK (xs:List (PSt)) (hb:((xs).length≤1048576∧∀x∈xs,Zv 1048576 x)):Zat [.lst (xs.map ePs)]=some (.lst (xs.map ePs)):=by
 have hx:xs.length≤1048576:=hb.1
 show (fun x0=>Zat [x0]) _=_
 rw[ZhM]
 simp only[Zu0 _ _ (show xs.length≤4294967296 by omega),List.length_map,EVS]
 refine Zmw xs ePs 2 _ _ (by omega) ?_ (fun _=> ?_) (fun _=> ?_) (fun again k x row el hk hl he hs=> ?_) (fun again row=> ?_)
 ·rfl
 ·rfl
 ·exact ⟨fun _=>⟨_,rfl⟩,fun _=>⟨_,rfl⟩⟩
 ·have hi:Zl (.lst (xs.map ePs)) (.int .i64 (k:Int))=some ((ePs x)):=Zj hk
  have hkr:k<row.length:=by rw[hl];exact Ze hk
  have g1:=ZlW x (hb.2 x (List.mem_of_getElem? hk))
  simp only[ePs] at g1 hi hs
  simp only[ePs,ZD (Ze hk),Zm (Ze hk) (show xs.length≤9223372036854775807 by omega),hi,g1,Ze3 hkr,he,hs,EVS]
 ·simp only[Zac,EVS]
theorem ZkL (xs:List (PSt)) (hb:((xs).length≤9223372036854775807∧∀x∈xs,Zv 9223372036854775807 x)):Za4 [.lst (xs.map ePs),.lst (xs.map ePs)]=some (pB true):=by
 have hx:xs.length≤9223372036854775807:=hb.1
 show (fun x0 x1=>Za4 [x0,x1]) _ _=_
 rw[Zho]
 simp only[List.length_map,EVS]
 refine (congrArg (fun m:Option PV=>m.bind fun r=>if r.sc=true then some r else none) (ZM (R:=PV) xs (fun _ _=>true) (some (pB false)) (some (pB true)) _ hx (fun again k x hk=> ?_) (fun again=> ?_))).trans ?_
 ·have hi:Zl (.lst (xs.map ePs)) (.int .i64 (k:Int))=some ((ePs x)):=Zj hk
  have g1:=ZlX x (hb.2 x (List.mem_of_getElem? hk))
  simp only[ePs] at g1 hi
  simp only[ZD (Ze hk),Zm (Ze hk) hx,hi,g1,EVS]
 ·simp only[Zac,EVS]
 ·rw[show ZS (fun (_:Nat) (_:PSt)=>true) 0 xs=true from Zek xs 0];rfl
theorem to_Arc (a:PArc):ZjK [Z4 a]=some (Z4 a):=by
 show (fun x0=>ZjK [x0]) _=_
 rw[ZvW]
 simp only[Z4,EVS]
theorem eq_Arc (a:PArc):ZjI [Z4 a,Z4 a]=some (pB true):=by
 show (fun x0 x1=>ZjI [x0,x1]) _ _=_
 rw[ZvS]
 simp only[Z4,beq_self_eq_true,EVS]
theorem Zz8 (xs:List (PArc)) (l:Int) (hb:(xs).length≤9223372036854775807) (h0:0≤l) (h1:l≤1048576):Zaw (ZhO [.lst (xs.map Z4),pI l]) l ((xs).length≤1048576):=by
 have hx:xs.length≤9223372036854775807:=hb
 show Zaw ((fun x0 x1=>ZhO [x0,x1]) _ _) _ _
 rw[Zui]
 have w1:IntKind.i64.wrap (l - (xs.length:Int))=l - (xs.length:Int):=Zaj (by omega) (by omega)
 simp only[w1,List.length_map,EVS]
 by_cases c:l - (xs.length:Int)<0
 ·simp only[c,EVS];exact Zaw.neg h0
 ·simp only[c,EVS];exact Zaw.pos (by omega) (by omega)
theorem Zz9 (xs:List (PArc)) (hb:(xs).length≤1048576):ZhS [.lst (xs.map Z4)]=some (.lst (xs.map Z4)):=by
 have hx:xs.length≤1048576:=hb
 show (fun x0=>ZhS [x0]) _=_
 rw[Zuo]
 simp only[Zu0 _ _ (show xs.length≤4294967296 by omega),List.length_map,EVS]
 refine Zmw xs Z4 4 _ _ (by omega) ?_ (fun _=> ?_) (fun _=> ?_) (fun again k x row el hk hl he hs=> ?_) (fun again row=> ?_)
 ·rfl
 ·rfl
 ·exact ⟨fun _=>⟨_,rfl⟩,fun _=>⟨_,rfl⟩⟩
 ·have hi:Zl (.lst (xs.map Z4)) (.int .i64 (k:Int))=some ((Z4 x)):=Zj hk
  have hkr:k<row.length:=by rw[hl];exact Ze hk
  have g1:=to_Arc x
  simp only[Z4] at g1 hi hs
  simp only[Z4,ZD (Ze hk),Zm (Ze hk) (show xs.length≤9223372036854775807 by omega),hi,g1,Ze3 hkr,he,hs,EVS]
 ·simp only[Zac,EVS]
theorem ZAa (xs:List (PArc)) (hb:(xs).length≤9223372036854775807):ZhG [.lst (xs.map Z4),.lst (xs.map Z4)]=some (pB true):=by
 have hx:xs.length≤9223372036854775807:=hb
 show (fun x0 x1=>ZhG [x0,x1]) _ _=_
 rw[Zuc]
 simp only[List.length_map,EVS]
 refine (congrArg (fun m:Option PV=>m.bind fun r=>if r.sc=true then some r else none) (ZM (R:=PV) xs (fun _ _=>true) (some (pB false)) (some (pB true)) _ hx (fun again k x hk=> ?_) (fun again=> ?_))).trans ?_
 ·have hi:Zl (.lst (xs.map Z4)) (.int .i64 (k:Int))=some ((Z4 x)):=Zj hk
  have g1:=eq_Arc x
  simp only[Z4] at g1 hi
  simp only[ZD (Ze hk),Zm (Ze hk) hx,hi,g1,EVS]
 ·simp only[Zac,EVS]
 ·rw[show ZS (fun (_:Nat) (_:PArc)=>true) 0 xs=true from Zek xs 0];rfl
def Zbg (m:Nat) (a:PSG):Prop:=((a.signals).length≤m∧∀x∈a.signals,ZaR m x)∧((a.codes).length≤m∧∀x∈a.codes,(x).length≤m)∧(a.arcs).length≤m
theorem Zp5 (a:PSG) (l:Int) (hb:Zbg 9223372036854775807 a) (h0:0≤l) (h1:l≤1048576):Zaw (Zdc [eSG a,pI l]) l (Zbg 1048576 a):=by
 obtain ⟨b0,b1,b2⟩:=hb
 unfold Zbg
 show Zaw ((fun x0 x1=>Zdc [x0,x1]) _ _) _ _
 rw[Zmj]
 simp only[eSG,EVS]
 obtain ⟨r0,g0,y0,z0⟩:=ZoK a.signals l b0 (by omega) (by omega)
 try simp only[g0,EVS]
 by_cases c0:r0<0
 ·simp only[g0,c0,EVS];exact Zaw.neg h0
 try simp only[g0,c0,EVS]
 have q0:0≤r0∧r0≤l:=by omega
 obtain ⟨r1,g1,y1,z1⟩:=ZoN a.codes r0 b1 (by omega) (by omega)
 try simp only[g1,EVS]
 by_cases c1:r1<0
 ·simp only[g1,c1,EVS];exact Zaw.neg h0
 try simp only[g1,c1,EVS]
 have q1:0≤r1∧r1≤l:=by omega
 obtain ⟨r2,g2,y2,z2⟩:=Zz8 a.arcs r1 b2 (by omega) (by omega)
 try simp only[g2,EVS]
 by_cases c2:r2<0
 ·simp only[g2,c2,EVS];exact Zaw.neg h0
 try simp only[g2,c2,EVS]
 have q2:0≤r2∧r2≤l:=by omega
 exact Zaw.pos (by omega) ⟨(z0 (by omega)),(z1 (by omega)),(z2 (by omega))⟩
theorem Zp6 (a:PSG) (hb:Zbg 1048576 a):ZaY [eSG a]=some (eSG a):=by
 obtain ⟨b0,b1,b2⟩:=hb
 have g0:=ZoL a.signals b0
 have g1:=ZoO a.codes b1
 have g2:=Zz9 a.arcs b2
 show (fun x0=>ZaY [x0]) _=_
 rw[Zml]
 simp only[eSG,g0,g1,g2,EVS]
theorem Zp7 (a:PSG) (hb:Zbg 9223372036854775807 a):Zdb [eSG a,eSG a]=some (pB true):=by
 obtain ⟨b0,b1,b2⟩:=hb
 have g0:=ZoM a.signals b0
 have g1:=ZoP a.codes b1
 have g2:=ZAa a.arcs b2
 show (fun x0 x1=>Zdb [x0,x1]) _ _=_
 rw[Zmh]
 simp only[eSG,g0,g1,g2,beq_self_eq_true,EVS]
theorem PSG.fit_of {c:PSG} (h:Zbg 9223372036854775807 c):SGFit c:=by
 obtain ⟨⟨h1,h2⟩,⟨h3,h4⟩,h5⟩:=h
 exact ⟨h1,fun s hs=>h2 s hs,h3,fun x hx=>h4 x hx,h5⟩
def fbP (c:PSG) (n:PNet) (l:List PSt):Int×Bool:=if (goP c n&&ZoY c n l)=true then (if ZoZ c n l<0 then (0,false) else (ZoZ c n l,true)) else (0,false)
theorem Zyh (c:PSG) (n:PNet) (l:List PSt) (hc:SGFit c) (hn:n.Fit) (hl:ZB l) (hv:∀b∈l,ZB b.values):Zxj [eSG c,ZP n,.lst (l.map ePs)]=some (.tup [pI (fbP c n l).1,pB (fbP c n l).2]):=by
 have g1:=ZrT c n l hc hn hl hv
 simp only[eSG,ZP] at g1
 show (fun x0 x1 x2=>Zxj [x0,x1,x2]) _ _ _=_
 rw[ZyW]
 unfold fbP
 cases c1:(goP c n&&ZoY c n l)
 ·rw[c1] at g1
  simp only[eSG,ZP,ZW,Zag,g1,Bool.false_eq_true,if_false,EVS]
  try rfl
 ·rw[c1] at g1
  rw[Bool.and_eq_true] at c1
  have g2:=ZrU c n l (ZrM c1.1 hc hn) c1.2
  simp only[eSG,ZP] at g2
  by_cases c2:ZoZ c n l<0
  ·simp only[eSG,ZP,ZW,Zag,g1,g2,c2,decide_true,if_true,EVS]
   try rfl
  ·simp only[eSG,ZP,ZW,Zag,g1,g2,c2,decide_false,if_true,if_false,EVS]
   try rfl
theorem mx0 (a:Int):mxV true (.int .i64 a) (.int .i64 0)=some (.int .i64 (max a 0)):=by
 unfold mxV
 simp only[if_true]
 try rfl
 all_goals (congr 2;try omega)
theorem ZyO (c:PSG) (n:PNet) (l:List PSt) (hc:SGFit c) (hn:n.Fit) (hl:ZB l) (hv:∀b∈l,ZB b.values):Zxq [eSG c,ZP n,.lst (l.map ePs)]=some (.tup [pI (fbP c n l).1,pB (fbP c n l).2]):=by
 have g0:=Zp2 c n hc hn
 simp only[eSG,ZP] at g0
 show (fun x0 x1 x2=>Zxq [x0,x1,x2]) _ _ _=_
 rw[Zzm]
 unfold fbP
 cases c0:goP c n
 ·rw[c0] at g0
  simp only[eSG,ZP,zSys,ZW,Zag,g0,Zzf,Bool.false_and,Bool.false_eq_true,if_false,EVS]
  try rfl
 rw[c0] at g0
 have h:=ZrM c0 hc hn
 have g1:=Zo1 c n l h hl hv
 simp only[Zcl] at g1
 simp only[if_true] at g0
 cases c1:ZoY c n l
 ·rw[c1] at g1
  simp only[eSG,ZP,Zcl,ZW,Zag,ZoS,g0,g1,Zzf,Bool.and_false,Bool.false_eq_true,if_false,EVS]
  try rfl
 ·rw[c1] at g1
  have g2:=ZtD c n l h c1
  simp only[Zcl] at g2
  by_cases c2:ZoZ c n l<0
  ·have hm:max (ZoZ c n l) 0=0:=by omega
   have hd:decide (0≤ZoZ c n l)=false:=by simp only[decide_eq_false_iff_not];omega
   simp only[eSG,ZP,Zcl,ZW,Zag,ZoS,g0,g1,g2,Zzf,mx0,hm,hd,c2,Bool.and_true,if_true,EVS]
   try rfl
  ·have hm:max (ZoZ c n l) 0=ZoZ c n l:=by omega
   have hd:decide (0≤ZoZ c n l)=true:=by simp only[decide_eq_true_eq];omega
   simp only[eSG,ZP,Zcl,ZW,Zag,ZoS,g0,g1,g2,Zzf,mx0,hm,hd,c2,Bool.and_true,if_true,if_false,EVS]
   try rfl
theorem ZzF (c:PSG) (n:PNet) (l:List PSt) (hc:Zbg 9223372036854775807 c) (hn:ZdX 9223372036854775807 n) (hl:l.length≤9223372036854775807∧∀x∈l,Zv 9223372036854775807 x):Zxi [eSG c,ZP n,.lst (l.map ePs)]=some (pB true):=by
 have a1:=Zyh c n l (PSG.fit_of hc) (PNet.fit_of hn) hl.1 hl.2
 have a2:=ZyO c n l (PSG.fit_of hc) (PNet.fit_of hn) hl.1 hl.2
 have b3:=Zp7 c hc
 have a3:=Zvs n hn
 have d3:=ZkL l hl
 obtain ⟨r,b4,hr,bz⟩:=Zp5 c 1048576 hc (by omega) (by omega)
 simp only[eSG,ZP] at a1 a2 a3 b3 b4
 show (fun x0 x1 x2=>Zxi [x0,x1,x2]) _ _ _=_
 rw[Zx9]
 simp only[eSG,ZP,ZW,Zag,b4,EVS]
 by_cases c1:r<0<;>simp only[c1,EVS]
 have b5:=Zp6 c (bz (by omega))
 obtain ⟨r2,a4,_,az⟩:=Zvq n r hn (by omega) (by omega)
 simp only[ZP] at a4
 simp only[a4,EVS]
 by_cases c2:r2<0<;>simp only[c2,EVS]
 have a5:=Zvr n (az (by omega))
 obtain ⟨r3,d4,_,dz⟩:=ZkJ l r2 hl (by omega) (by omega)
 simp only[d4,EVS]
 by_cases c3:r3<0<;>simp only[c3,EVS]
 have d5:=ZkK l (dz (by omega))
 simp only[eSG,ZP] at a5 b5
 simp only[ZW,Zag,a1,a2,a3,b3,a5,b5,d3,d5,beq_self_eq_true,bne_self_eq_false,Option.map_some,EVS]
 try rfl
end Go.Proofs.YthobodfbjjjiiaaGreat
