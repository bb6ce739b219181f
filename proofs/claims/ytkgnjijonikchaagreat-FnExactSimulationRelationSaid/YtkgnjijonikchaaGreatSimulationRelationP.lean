import Derived.Test.YtkgnjijonikchaaGreatSimulationRelationP1
import Derived.Test.YtkgnjijonikchaaGreatCmpPairs
import Derived.Test.YtkgnjijonikchaaGreatData
import Derived.Test.YtkgnjijonikchaaGreatDistPure
import Derived.Test.YtkgnjijonikchaaGreatSysPure
namespace Go.Proofs.YtkgnjijonikchaaGreat
open Go.RowKit
set_option linter.unusedVariables false
set_option linter.unusedSimpArgs false
theorem ZdX {R:Type} (a b:Nat) (st:Nat→List PV) (e:Option R) (f:(List PV→Option R)→List PV→Option R) (hm:b≤9223372036854775807)
 (h1:∀again k,a≤k→k<b→f again (st k)=again (st (k+1)))
 (h2:∀again,f again (st b)=e) (hab:a≤b) (J:List PV) (hJ:st a=J):Zp f 18446744073709551616 J=e:=by
 subst hJ
 have key:=Zbb (R:=R) (fun k:{k:Nat // a≤k∧k≤b}=>st k.1) (fun k=>b+1 - k.1) (fun _=>e) f (fun again k ih=> ?_) 18446744073709551616 ⟨a,Nat.le_refl _,hab⟩ (by simp only;omega)
 ·exact key
 ·obtain ⟨k,hk,hk2⟩:=k
  dsimp only at ih⊢
  by_cases c:k<b
  ·rw[h1 again k hk c]
   exact ih ⟨k+1,by omega,c⟩ (by simp only;omega)
  ·obtain rfl:k=b:=by omega
   exact h2 again
def ZaO (good:Nat→Bool) (k:Nat):List Int:=((List.range k).filter good).map fun (i:Nat)=>Int.ofNat i
theorem Zju (good:Nat→Bool) (k:Nat):(ZaO good k).length≤k:=by
 unfold ZaO
 rw[List.length_map]
 exact Nat.le_trans (List.length_filter_le _ _) (by simp)
theorem Znn {good:Nat→Bool} {k:Nat} (h:good k=true):ZaO good (k+1)=ZaO good k++[(k:Int)]:=by
 unfold ZaO
 rw[List.range_succ,List.filter_append]
 simp[h]
theorem Zph {good:Nat→Bool} {k:Nat} (h:good k=false):ZaO good (k+1)=ZaO good k:=by
 unfold ZaO
 rw[List.range_succ,List.filter_append]
 simp[h]
def Zr (n:PNet) (s:List UInt8) (k:Nat):Bool:=match n.wires[k]? with|some w=>Zh1 n s k w !=Zl3 s k|none=>false
theorem ZhU (n:PNet) (s:List UInt8) (hn:n.Fit) (hs:ZH s) (hv:ZeC n s=true) (hb:n.wires.length≤1048576):ZcJ [Zz n,.str s]=some (.lst ((ZaO (Zr n s) n.wires.length).map pI)):=by
 show (fun x0 x1=>ZcJ [x0,x1]) _ _=_
 rw[Zl5]
 simp only[Zz,EVS]
 refine (congrArg (fun m:Option PV=>m) (ZdX (R:=PV) 0 n.wires.length (fun k=>[.lst ((ZaO (Zr n s) k).map pI),pI (Int.ofNat k)]) (some (.lst ((ZaO (Zr n s) n.wires.length).map pI))) _ (by omega) (fun again k h1 h2=> ?_) (fun again=> ?_) (Nat.zero_le _) _ (by simp[ZaO]))).trans ?_
 ·have ha:=ZxT n s k hn hs hv h2
  have a1:=ZlT n s k _ ha
  simp only[Zz] at a1
  have hk:k<s.length:=ha.lt
  have hby:=Zs (k:=.i64) (List.getElem?_eq_getElem hk)
  have ho:Zl3 s k=decide ((s[k].toNat:Int)=49):=by unfold Zl3;rw[List.getElem?_eq_getElem hk]
  have he:Zr n s k=(Zh1 n s k n.wires[k] !=Zl3 s k):=by unfold Zr;rw[List.getElem?_eq_getElem h2]
  have hl:(ZaO (Zr n s) k).length+[pI (k:Int)].length≤4294967296∧[pI (k:Int)].all (Zau 1)=true:=⟨by have:=Zju (Zr n s) k;simp;omega,rfl⟩
  have he':(!Zh1 n s k n.wires[k]==decide ((s[k].toNat:Int)=49))=Zr n s k:=by rw[he,ho];rfl
  have hm:n.wires.length≤9223372036854775807:=by omega
  simp only[ZY h2,hby,a1,he',EVS]
  cases hE:Zr n s k
  ·simp only[Zk h2 hm,Zph hE,EVS]
  ·simp only[if_pos hl,Zk h2 hm,Znn hE,List.map_append,List.map_cons,List.map_nil,EVS]
 ·simp only[Zav,EVS]
 ·rfl
theorem ZdA (n:PNet) (s:List UInt8) (k:Nat) (hn:n.Fit) (hs:ZH s) (hv:ZeC n s=true) (h2:k<n.wires.length):ZaC [Zz n,.str s,pI k]=some (pB (Zr n s k)):=by
 have ha:=ZxT n s k hn hs hv h2
 have a1:=ZkD n s k _ ha
 simp only[Zz] at a1
 have hk:k<s.length:=ha.lt
 have hby:=Zs (k:=.i64) (List.getElem?_eq_getElem hk)
 have he:Zr n s k=(Zh1 n s k n.wires[k] !=decide ((s[k].toNat:Int)=49)):=by unfold Zr Zl3;rw[List.getElem?_eq_getElem h2,List.getElem?_eq_getElem hk]
 have hbit:ZgL s[k]=true:=by
  unfold ZeC ZZ at hv
  simp only[Bool.and_eq_true] at hv
  exact ZkE _ _ _ hv.2.1 k _ (List.getElem?_eq_getElem hk)
 unfold ZgL at hbit
 simp only[Bool.or_eq_true,decide_eq_true_eq] at hbit
 show (fun x0 x1 x2=>ZaC [x0,x1,x2]) _ _ _=_
 rw[Zj3]
 simp only[Zz,a1,hby,Zvi,he,EVS]
 cases Zh1 n s k n.wires[k]<;>rcases hbit with h|h<;>rw[h]<;>rfl
theorem Zlj (n:PNet) (s:List UInt8) (hn:n.Fit) (hs:ZH s) (hv:ZeC n s=true) (hb:n.wires.length≤1048576):ZcS [Zz n,.str s]=some (.lst ((ZaO (Zr n s) n.wires.length).map pI)):=by
 show (fun x0 x1=>ZcS [x0,x1]) _ _=_
 rw[ZkQ]
 simp only[Zz,EVS]
 refine (congrArg (fun m:Option PV=>m) (ZdX (R:=PV) 0 n.wires.length (fun k=>[.lst ((ZaO (Zr n s) k).map pI),pI (Int.ofNat k)]) (some (.lst ((ZaO (Zr n s) n.wires.length).map pI))) _ (by omega) (fun again k h1 h2=> ?_) (fun again=> ?_) (Nat.zero_le _) _ (by simp[ZaO]))).trans ?_
 ·have a1:=ZdA n s k hn hs hv h2
  simp only[Zz] at a1
  have hl:(ZaO (Zr n s) k).length+[pI (k:Int)].length≤4294967296∧[pI (k:Int)].all (Zau 1)=true:=⟨by have:=Zju (Zr n s) k;simp;omega,rfl⟩
  have hm:n.wires.length≤9223372036854775807:=by omega
  simp only[ZY h2,a1,EVS]
  cases hE:Zr n s k
  ·simp only[Zk h2 hm,Zph hE,EVS]
  ·simp only[if_pos hl,Zk h2 hm,Znn hE,List.map_append,List.map_cons,List.map_nil,EVS]
 ·simp only[Zav,EVS]
 ·rfl
def ZfO (n:PNet) (v:List UInt8) (k:Nat):Bool:=match n.wires[k]? with|some w=>Zh1 n v k w|none=>false
def Zf7 (n:PNet):Nat→Nat→List UInt8→List UInt8
 |0,_,v=>v
 |c+1,k,v=>Zf7 n c (k+1) (v.set k (Zfg (ZfO n v k)))
def Zd9 (n:PNet) (code:List UInt8):List UInt8:=Zf7 n (n.wires.length - n.signals.length) n.signals.length (code++List.replicate (n.wires.length - n.signals.length) 48)
theorem Zcg {n:PNet} (h:ZfP n=true):n.signals.length≤n.wires.length∧n.wires.length≤24:=by
 unfold ZfP at h
 simp only[Bool.and_eq_true,Bool.not_eq_true',decide_eq_false_iff_not] at h
 omega
theorem Zvb {n:PNet} {v:List UInt8} {k:Nat} (hn:n.Fit) (hv:ZfP n=true) (hb:ZZ v n.wires.length=true) (hk:k<n.wires.length):At n v k n.wires[k]∧Zh1 n v k n.wires[k]=ZfO n v k:=by
 have hl:=(Zch.1 hb).2
 refine ⟨ZxT n v k hn (by unfold ZH;have:=(Zcg hv).2;omega) (by unfold ZeC;rw[hv,hb];rfl) hk, ?_⟩
 unfold ZfO
 rw[List.getElem?_eq_getElem hk]
theorem Zor (n:PNet) (code:List UInt8) (hn:n.Fit) (hv:ZfP n=true) (hc:ZZ code n.signals.length=true):Zee [Zz n,.str code]=some (.str (Zd9 n code)):=by
 obtain ⟨hs1,hs2⟩:=Zcg hv
 have hcl:=(Zch.1 hc).2
 obtain ⟨N,hN⟩:∃N,n.wires.length=N:=⟨_,rfl⟩
 obtain ⟨m,hm⟩:∃m,n.signals.length=m:=⟨_,rfl⟩
 show (fun x0 x1=>Zee [x0,x1]) _ _=_
 rw[Zn0]
 simp only[Zz,EVS]
 have key:=Zbb (R:=PV) (fun j:{j:Nat // j≤N - m}=>[.str (code++List.replicate j.1 48)]) (fun j=>N - m+1 - j.1) (fun _=>some (.str (Zd9 n code)))
 have key':∀f:(List PV→Option PV)→List PV→Option PV,(∀again (a:{j:Nat // j≤N - m}),(∀a':{j:Nat // j≤N - m},N - m+1 - a'.1<N - m+1 - a.1→again [.str (code++List.replicate a'.1 48)]=some (.str (Zd9 n code)))→f again [.str (code++List.replicate a.1 48)]=some (.str (Zd9 n code)))→Zp f 18446744073709551616 [.str code]=some (.str (Zd9 n code)):=fun f hf=>by
  have:=key f hf 18446744073709551616 ⟨0,Nat.zero_le _⟩ (by simp only;omega)
  simpa using this
 refine (congrArg (fun m:Option PV=>m.bind fun r=>if r.sc=true then some r else none) (key' _ (fun again j ih=> ?_))).trans rfl
 obtain ⟨j,hj⟩:=j
 dsimp only at ih⊢
 have hlen:(code++List.replicate j (48:UInt8)).length=m+j:=by simp;omega
 by_cases c1:m+j<N
 ·have h1:decide (((m+j:Nat):Int)<(N:Int))=true:=by simp;omega
  have h0:Ze .add TD.str (.str (code++List.replicate j (48:UInt8))) (.str [48])=some (.str (code++List.replicate (j+1) (48:UInt8))):=by
   rw[Zk2 (by simp at hlen⊢;omega),List.append_assoc,←List.replicate_succ']
  have h5:Ze .add TD.str (.str (code++List.replicate j (48:UInt8))) (.str [(48:UInt8)])=some (.str (code++List.replicate (j+1) (48:UInt8))):=h0
  simp only[hN,hlen,h1,h0,h5,List.length_map,EVS]
  exact ih ⟨j+1,by omega⟩ (by simp only;omega)
 ·obtain rfl:j=N - m:=by omega
  have h1:decide (((m+(N - m):Nat):Int)<(N:Int))=false:=by simp;omega
  simp only[hN,hm,hlen,h1,List.length_map,EVS]
  have key2:=Zbb (R:=PV) (fun q:{q:List UInt8×Nat // ZZ q.1 N=true∧q.2≤N}=>[.str q.1.1,pI (Int.ofNat q.1.2)]) (fun q=>N+1 - q.1.2) (fun q=>some (.str (Zf7 n (N - q.1.2) q.1.2 q.1.1)))
  have hb0:ZZ (code++List.replicate (N - m) (48:UInt8)) N=true:=ZnM (by rw[←hm];exact hc) (by omega)
  refine (key2 _ (fun again q ih=> ?_) 18446744073709551616 ⟨(code++List.replicate (N - m) 48,m),hb0,by omega⟩ (by simp only;omega)).trans ?_
  ·obtain ⟨⟨v,k⟩,hb,hk⟩:=q
   dsimp only at ih hb hk⊢
   have hvl:=(Zch.1 hb).2
   by_cases c2:k<N
   ·obtain ⟨a1,a2⟩:=Zvb (k:=k) hn hv (by rw[hN];exact hb) (by omega)
    have a3:=ZlT n v k _ a1
    rw[a2] at a3
    simp only[Zz] at a3
    have a4:=ZiB v k (Zfg (ZfO n v k)) (by omega) (by unfold ZH;omega)
    have h3:decide ((k:Int)<(N:Int))=true:=by simpa using c2
    have hw:IntKind.i64.wrap ((k:Int)+1)=((k+1:Nat):Int):=by rw[Zda (by omega) (by omega)];omega
    simp only[hN,h3,a3,ZiA,a4,hw,List.length_map,EVS]
    have h4:=ih ⟨(v.set k (Zfg (ZfO n v k)),k+1),ZnL hb _,by omega⟩ (by simp only;omega)
    rw[show N - k=(N - (k+1))+1 by omega]
    exact h4
   ·obtain rfl:k=N:=by omega
    have h3:decide ((k:Int)<(k:Int))=false:=by simp
    simp only[hN,h3,List.length_map,EVS]
    rw[Nat.sub_self]
    rfl
  ·unfold Zd9
   rw[hN,hm]
theorem ZrV (c:UInt8):∀k,Lib.repeatL [c] k=List.replicate k c
 |0=>rfl
 |k+1=>by rw[Lib.repeatL,ZrV c k];rfl
theorem Zjv (c:UInt8) (k:Nat) (h:k≤1048576):ZaZ [.str [c],pI k]=some (.str (List.replicate k c)):=by
 have h1:(0:Int)≤(k:Int)∧(k:Int)≤9223372036854775807∧(([c]:List UInt8).length:Int) * (k:Int)≤140737488355328:=by simp;omega
 show (if (0:Int)≤(k:Int)∧(k:Int)≤9223372036854775807∧(([c]:List UInt8).length:Int) * (k:Int)≤140737488355328 then some (PV.str (Lib.repeatL [c] (Int.toNat (k:Int)))) else none)=_
 rw[if_pos h1,Int.toNat_natCast,ZrV]
theorem ZtJ (n:PNet) (code:List UInt8) (hn:n.Fit) (hv:ZfP n=true) (hc:ZZ code n.signals.length=true):Zhf [Zz n,.str code]=some (.str (Zd9 n code)):=by
 obtain ⟨hs1,hs2⟩:=Zcg hv
 have hcl:=(Zch.1 hc).2
 obtain ⟨N,hN⟩:∃N,n.wires.length=N:=⟨_,rfl⟩
 obtain ⟨m,hm⟩:∃m,n.signals.length=m:=⟨_,rfl⟩
 have hb0:ZZ (code++List.replicate (N - m) (48:UInt8)) N=true:=ZnM (by rw[←hm];exact hc) (by omega)
 show (fun x0 x1=>Zhf [x0,x1]) _ _=_
 rw[ZsQ]
 have hw1:IntKind.i64.wrap ((N:Int) - (m:Int))=((N - m:Nat):Int):=by rw[Zda (by omega) (by omega)];omega
 have hr:ZaZ [.str [(48:UInt8)],pI ((N - m:Nat):Int)]=some (.str (List.replicate (N - m) 48)):=Zjv 48 (N - m) (by omega)
 have hcl':code.length=m:=by omega
 have h0:Ze .add TD.str (.str code) (.str (List.replicate (N - m) (48:UInt8)))=some (.str (code++List.replicate (N - m) (48:UInt8))):=Zk2 (by simp;omega)
 simp only[Zz,hN,hcl',hw1,hr,h0,List.length_map,EVS]
 have key2:=Zbb (R:=PV) (fun q:{q:List UInt8×Nat // ZZ q.1 N=true∧q.2≤N}=>[.str q.1.1,pI (Int.ofNat q.1.2)]) (fun q=>N+1 - q.1.2) (fun q=>some (.str (Zf7 n (N - q.1.2) q.1.2 q.1.1)))
 refine (congrArg (fun m:Option PV=>m.bind fun r=>if r.sc=true then some r else none) (key2 _ (fun again q ih=> ?_) 18446744073709551616 ⟨(code++List.replicate (N - m) 48,m),hb0,by omega⟩ (by simp only;omega))).trans ?_
 ·obtain ⟨⟨v,k⟩,hb,hk⟩:=q
  dsimp only at ih hb hk⊢
  have hvl:=(Zch.1 hb).2
  by_cases c2:k<N
  ·obtain ⟨a1,a2⟩:=Zvb (k:=k) hn hv (by rw[hN];exact hb) (by omega)
   have a3:=ZkD n v k _ a1
   rw[a2] at a3
   simp only[Zz] at a3
   have h3:decide ((k:Int)<(N:Int))=true:=by simpa using c2
   have hw:IntKind.i64.wrap ((k:Int)+1)=((k+1:Nat):Int):=by rw[Zda (by omega) (by omega)];omega
   have h4:Zhs (.str v) none (some (.int .i64 (k:Int)))=some (.str (v.take k)):=Zo1 (by omega)
   have h5:Zhs (.str v) (some (.int .i64 ((k+1:Nat):Int))) none=some (.str (v.drop (k+1))):=Zo2 (by omega)
   have h6:Ze .add TD.str (.str (v.take k)) (.str [Zfg (ZfO n v k)])=some (.str (v.take k++[Zfg (ZfO n v k)])):=Zk2 (by simp;omega)
   have h7:Ze .add TD.str (.str (v.take k++[Zfg (ZfO n v k)])) (.str (v.drop (k+1)))=some (.str (v.take k++[Zfg (ZfO n v k)]++v.drop (k+1))):=Zk2 (by simp;omega)
   simp only[hvl,h3,h4,a3,Zvi,h6,hw,h5,h7,Zvj v k _ (show k<v.length by omega),EVS]
   have h8:=ih ⟨(v.set k (Zfg (ZfO n v k)),k+1),ZnL hb _,by omega⟩ (by simp only;omega)
   rw[show N - k=(N - (k+1))+1 by omega]
   exact h8
  ·obtain rfl:k=N:=by omega
   have h3:decide ((k:Int)<(k:Int))=false:=by simp
   simp only[hvl,h3,EVS]
   rw[Nat.sub_self]
   rfl
 ·unfold Zd9
  rw[hN,hm]
  rfl
def ZrW (a:PArc):ZeR:=(a.from_,a.sig,a.up,a.to_)
def ZlN (c:PSG):List (List Int):=Zdq c.codes.length c.signals.length (c.arcs.map ZrW)
def toC (c:PSG) (k s:Nat):Int:=Zex (ZlN c) k s
structure Go1 (c:PSG) (n:PNet):Prop where
 net:ZfP n=true
 one:1≤c.codes.length
 many:c.codes.length≤300
 sone:1≤c.signals.length
 smany:c.signals.length≤8
 few:c.arcs.length≤4000
 bits:∀x∈c.codes,ZZ x c.signals.length=true
 arcs:∀a∈c.arcs,0≤a.from_∧a.from_<c.codes.length∧0≤a.to_∧a.to_<c.codes.length∧0≤a.sig∧a.sig<c.signals.length
 det:∀a∈c.arcs,∀b∈c.arcs,a.from_=b.from_→a.sig=b.sig→a.to_=b.to_
 same:c.signals=n.signals
 fitc:SGFit c
 fitn:n.Fit
theorem Zno (w:PArc→PArc→Bool) (i:Nat) (a:PArc):∀(l:List PArc) (k:Nat) (acc:List (Nat×Nat)),Zdj w i a k acc l=[]→acc=[]∧∀b∈l,w a b=false
 |[],k,acc,h=>⟨h,by simp⟩
 | b::l,k,acc,h=>by
  unfold Zdj at h
  obtain ⟨h1,h2⟩:=Zno w i a l (k+1) _ h
  cases c:w a b
  ·rw[c] at h1
   simp only[Bool.false_eq_true,if_false] at h1
   refine ⟨h1,fun x hx=> ?_⟩
   rcases List.mem_cons.1 hx with rfl|hx
   ·exact c
   ·exact h2 x hx
  ·rw[c] at h1
   simp at h1
theorem Znp (w:PArc→PArc→Bool) (arcs:List PArc):∀(l:List PArc) (k:Nat) (acc:List (Nat×Nat)),ZgP w arcs k acc l=[]→acc=[]∧∀(i:Nat) (a:PArc),l[i]?=some a→∀b∈arcs.drop (k+i+1),w a b=false
 |[],k,acc,h=>⟨h,by simp⟩
 | a::l,k,acc,h=>by
  unfold ZgP at h
  obtain ⟨h1,h2⟩:=Znp w arcs l (k+1) _ h
  obtain ⟨h3,h4⟩:=Zno w _ a _ _ _ h1
  refine ⟨h3,fun i x hx=> ?_⟩
  cases i with
  |zero=>simp at hx;subst hx;exact h4
  | succ i=>
   have:=h2 i x (by simpa using hx)
   rwa[show k+1+i+1=k+(i+1)+1 by omega] at this
theorem Zv7 {c:PSG} (h:Zgf c=true):1≤c.signals.length∧c.signals.length≤8:=by
 unfold Zgf Zi4 inR at h
 simp only[Bool.and_eq_true,decide_eq_true_eq] at h
 omega
theorem ZhV {c:PSG} {n:PNet} (h:goP c n=true) (hc:SGFit c) (hn:n.Fit):Go1 c n:=by
 unfold goP Zvo at h
 simp only[Bool.and_eq_true,Bool.not_eq_true',decide_eq_true_eq] at h
 obtain ⟨⟨hs,hnet⟩,⟨hh,hw⟩,hsame⟩:=h
 obtain ⟨h1,h2,h3,h4⟩:=ZiC hs
 have hp:=Zh3 h1 h2
 have hsg:=Zv7 h1
 have harc:∀a∈c.arcs,0≤a.from_∧a.from_<c.codes.length∧0≤a.to_∧a.to_<c.codes.length∧0≤a.sig∧a.sig<c.signals.length:=fun a ha=>by
  have h5:=List.all_eq_true.1 h3 a ha
  have h6:a.sig≠ -1:=fun e=>by
   have:ZgN c.arcs=true:=List.any_eq_true.2 ⟨a,ha,decide_eq_true e⟩
   rw[this] at hh;cases hh
  unfold ZjE ZcQ Zft inR at h5
  simp only[Bool.and_eq_true,Bool.or_eq_true,decide_eq_true_eq] at h5
  omega
 refine ⟨hnet,hp.one,hp.many,hsg.1,hsg.2,hp.arcs,hp.bits,harc, ?_,hsame,hc,hn⟩
 have hways:Zh8 ZjF c=[]:=List.length_eq_zero_iff.1 (by omega)
 have hkey:=(Znp ZjF c.arcs c.arcs 0 [] hways).2
 have hlt:∀(i j:Nat) (a b:PArc),i<j→c.arcs[i]?=some a→c.arcs[j]?=some b→a.from_=b.from_→a.sig=b.sig→a.to_=b.to_:=fun i j a b hij hi hj e1 e2=>by
  have:=hkey i a hi b (by
   rw[Nat.zero_add]
   refine List.mem_of_getElem? (i:=j - (i+1)) ?_
   rw[List.getElem?_drop,show i+1+(j - (i+1))=j by omega]
   exact hj)
  have h6:=(harc a (List.mem_of_getElem? hi)).2.2.2.2.1
  unfold ZjF at this
  simp only[e1,e2,decide_true,Bool.and_true,Bool.true_and] at this
  have hn1:decide (b.sig= -1)=false:=by simp only[decide_eq_false_iff_not];omega
  rw[hn1] at this
  simp only[Bool.not_false,Bool.true_and,Bool.not_eq_false',decide_eq_true_eq] at this
  exact this.symm
 intro a ha b hb e1 e2
 obtain ⟨i,hi⟩:=List.getElem?_of_mem ha
 obtain ⟨j,hj⟩:=List.getElem?_of_mem hb
 rcases Nat.lt_trichotomy i j with h|h|h
 ·exact hlt i j a b h hi hj e1 e2
 ·subst h;rw[hi] at hj;cases hj;rfl
 ·exact (hlt j i b a h hj hi e1.symm e2.symm).symm
theorem ZhW {c:PSG} {n:PNet} (h:Go1 c n) {k s:Nat} (hk:k<c.codes.length) (hs:s<c.signals.length):
 (∃a∈c.arcs,(a.from_=(k:Int)∧a.sig=(s:Int))∧toC c k s=a.to_)∨(toC c k s= -1∧∀a∈c.arcs,¬(a.from_=(k:Int)∧a.sig=(s:Int))):=by
 rcases ZsY hk hs (c.arcs.map ZrW) with ⟨q,hq,h1,h2⟩|⟨h1,h2⟩
 ·obtain ⟨a,ha,rfl⟩:=List.mem_map.1 hq
  have:=h.arcs a ha
  refine .inl ⟨a,ha, ?_,h2⟩
  unfold ZrW at h1
  dsimp only at h1
  omega
 ·refine .inr ⟨h1,fun a ha hc=> ?_⟩
  have:=h.arcs a ha
  refine h2 (ZrW a) (List.mem_map.2 ⟨a,ha,rfl⟩) ?_
  unfold ZrW
  dsimp only
  omega
theorem toC_in {c:PSG} {n:PNet} (h:Go1 c n) {k s:Nat} (hk:k<c.codes.length) (hs:s<c.signals.length): -1≤toC c k s∧toC c k s<c.codes.length:=by
 rcases ZhW h hk hs with ⟨a,ha,_,h2⟩|⟨h1,_⟩
 ·have:=h.arcs a ha;omega
 ·have:=h.one;omega
theorem ZrX {R:Type} (q:PArc→Bool) (z:PArc→Option R) (e:Option R):∀(l:List PArc) (k:Nat),rgo (fun _ a=>if q a=true then some (z a) else none) e k l=match l.find? q with|some a=>z a|none=>e
 |[],k=>rfl
 | a::l,k=>by
  unfold rgo
  rw[List.find?_cons]
  cases c:q a
  ·simp only[Bool.false_eq_true,if_false]
   exact ZrX q z e l (k+1)
  ·simp
theorem Zv8 (c:PSG) (n:PNet) (k s:Nat) (h:Go1 c n) (hk:k<c.codes.length) (hs:s<c.signals.length):ZiH [eSG c,pI (k:Int),pI (s:Int)]=some (pI (toC c k s)):=by
 have hl:=h.few
 show (fun x0 x1 x2=>ZiH [x0,x1,x2]) _ _ _=_
 rw[Zui]
 simp only[eSG,List.length_map,EVS]
 refine (congrArg (fun m:Option PV=>m.bind fun r=>if r.sc=true then some r else none) ((Ztf (R:=PV) c.arcs (fun _ a=>if (decide (a.from_=(k:Int))&&decide (a.sig=(s:Int)))=true then some (some (pI a.to_)) else none) (some (pI (-1))) _ (by omega) (fun again j a ha=> ?_) (fun again=> ?_)).trans (ZrX _ _ _ _ _))).trans ?_
 ·have hj:=Zg ha
  have hi:Zm (.lst (c.arcs.map Zap)) (.int .i64 (j:Int))=some (Zap a):=Zl ha
  cases c1:decide (a.from_=(k:Int))<;>cases c2:decide (a.sig=(s:Int))<;>simp only[ZY hj,Zk hj (show c.arcs.length≤9223372036854775807 by omega),hi,Zap,c1,c2,Bool.false_eq_true,if_false,if_true,EVS]
 ·simp only[Zav,EVS]
  rfl
 ·cases hf:c.arcs.find? (fun a=>decide (a.from_=(k:Int))&&decide (a.sig=(s:Int))) with
  | none=>
   have hno:=List.find?_eq_none.1 hf
   rcases ZhW h hk hs with ⟨a,ha,h1,h2⟩|⟨h1,h2⟩
   ·exact absurd (by simp[h1]) (hno a ha)
   ·rw[h1];rfl
  | some a=>
   have ha:=List.mem_of_find?_eq_some hf
   have hq:=List.find?_some hf
   simp only[Bool.and_eq_true,decide_eq_true_eq] at hq
   rcases ZhW h hk hs with ⟨b,hb,h1,h2⟩|⟨h1,h2⟩
   ·rw[h2,h.det b hb a ha (by omega) (by omega)];rfl
   ·exact absurd hq (h2 a ha)
def Zck (c:PSG) (n:PNet):PV:=.agg [.lst (c.signals.map Z6),.lst (c.codes.map PV.str),.lst (c.arcs.map Zap),.lst (n.signals.map Z6),.lst (n.wires.map Z9),.lst ((ZlN c).map Zq1)]
def zSys :PV:=.agg [.lst [],.lst [],.lst [],.lst [],.lst [],.lst []]
set_option maxRecDepth 20000 in
theorem Zos (c:PSG) (n:PNet) (hc:SGFit c) (hn:n.Fit):ZeG [eSG c,Zz n]=some (.tup [if goP c n=true then Zck c n else zSys,pB (goP c n)]):=by
 have g:=ZjH c n hc hn
 show (match Zbj [eSG c,Zz n] with
  | some (.tup [.bool is,.bool ok])=>
   match ok&&is with
   | true=>match Zhl (c.arcs.map Zap) with
    |some ars=>if 1≤(c.signals.map Z6).length∧(c.signals.map Z6).length≤1048576∧(c.codes.map PV.str).length≤1000000∧(ars.all (ZkW (c.codes.map PV.str).length (c.signals.map Z6).length))=true then some (PV.tup [.agg [.lst (c.signals.map Z6),.lst (c.codes.map PV.str),.lst (c.arcs.map Zap),.lst (n.signals.map Z6),.lst (n.wires.map Z9),.lst ((Zdq (c.codes.map PV.str).length (c.signals.map Z6).length ars).map Zq1)],.bool true]) else none
    |none=>none
   |false=>some (PV.tup [.agg [.lst [],.lst [],.lst [],.lst [],.lst [],.lst []],.bool false])
  |_=>none)=_
 rw[g]
 have hgo:((sgV c&&ZfP n)&&goP c n)=goP c n:=by
  unfold goP
  cases sgV c<;>cases ZfP n<;>simp
 show (match ((sgV c&&ZfP n)&&goP c n) with
  | true=>match Zhl (c.arcs.map Zap) with
   |some ars=>if 1≤(c.signals.map Z6).length∧(c.signals.map Z6).length≤1048576∧(c.codes.map PV.str).length≤1000000∧(ars.all (ZkW (c.codes.map PV.str).length (c.signals.map Z6).length))=true then some (PV.tup [.agg [.lst (c.signals.map Z6),.lst (c.codes.map PV.str),.lst (c.arcs.map Zap),.lst (n.signals.map Z6),.lst (n.wires.map Z9),.lst ((Zdq (c.codes.map PV.str).length (c.signals.map Z6).length ars).map Zq1)],.bool true]) else none
   |none=>none
  |false=>some (PV.tup [.agg [.lst [],.lst [],.lst [],.lst [],.lst [],.lst []],.bool false]))=_
 rw[hgo]
 cases hg:goP c n
 ·rfl
 ·have h:=ZhV hg hc hn
  have ha:Zhl (c.arcs.map Zap)=some (c.arcs.map ZrW):=by
   have:c.arcs.map Zap=(c.arcs.map ZrW).map pArc:=by rw[List.map_map];rfl
   rw[this,Zn9]
  dsimp only
  rw[ha]
  dsimp only
  rw[if_pos]
  ·simp only[if_true,List.length_map];rfl
  ·simp only[List.length_map]
   have h1:=h.sone
   have h2:=h.smany
   have h3:=h.many
   refine ⟨h1,by omega,by omega,List.all_eq_true.2 fun q hq=> ?_⟩
   obtain ⟨a,ha,rfl⟩:=List.mem_map.1 hq
   have:=h.arcs a ha
   unfold ZkW ZrW
   simp only[decide_eq_true_eq]
   omega
def ePs (b:PSt):PV:=.agg [pI b.state,.str b.values]
def eFl (f:Flip):PV:=.agg [pI f.from_,pI f.wire,pI f.to]
def ePr (p:ProdG):PV:=.agg [.lst (p.states.map ePs),.lst (p.flips.map eFl),.lst (p.extra.map eFl)]
theorem Zlk (a b c d e f:PV):Zb true 3 2 [a,b,c,d,e,f]=some (.agg [d,e]):=rfl
theorem Zpi (a b c d e f a' b' c' d' e' f':PV):splice [a,b,c,d,e,f] 0 [a',b',c',d',e',f']=[a',b',c',d',e',f']:=rfl
theorem Znq (a b c d e f:PV):Zb true 0 6 [a,b,c,d,e,f]=some (.agg [a,b,c,d,e,f]):=rfl
theorem Go1.vals {c:PSG} {n:PNet} (h:Go1 c n) {v:List UInt8} (hb:ZZ v n.wires.length=true):ZeC n v=true∧ZH v∧v.length=n.wires.length∧n.wires.length≤24∧n.signals.length≤n.wires.length∧n.signals.length=c.signals.length:=by
 have h1:=Zcg h.net
 have h2:=(Zch.1 hb).2
 refine ⟨by unfold ZeC;rw[h.net,hb];rfl,by unfold ZH;omega,h2,h1.2,h1.1,by rw[h.same]⟩
theorem Go1.code {c:PSG} {n:PNet} (h:Go1 c n):∃x,c.codes[0]?=some x∧ZZ x n.signals.length=true:=by
 have h1:=h.one
 refine ⟨c.codes[0],List.getElem?_eq_getElem (by omega), ?_⟩
 rw[←h.same]
 exact h.bits _ (List.getElem_mem _)
def ZgH (c:PSG) (n:PNet):PSt:=⟨0,Zd9 n (c.codes.getD 0 [])⟩
theorem Zqe (c:PSG) (n:PNet) (h:Go1 c n):ZeJ [eSG c,Zz n]=some (ePs (ZgH c n)):=by
 obtain ⟨x,hx,hb⟩:=h.code
 have g:=Zor n x h.fitn h.net hb
 have hi:Zm (.lst (c.codes.map PV.str)) (.int .i64 ((0:Nat):Int))=some (.str x):=Zl hx
 show (fun x0 x1=>ZeJ [x0,x1]) _ _=_
 rw[ZoJ]
 unfold ZgH
 rw[List.getD_eq_getElem?_getD,hx]
 simp only[Int.natCast_zero] at hi
 simp only[Zz] at g
 simp only[eSG,Zz,Z5,hi,g,EVS]
 rfl
theorem ZrY (c:PSG) (n:PNet) (h:Go1 c n):Zb7 [Zck c n]=some (ePs (ZgH c n)):=by
 obtain ⟨x,hx,hb⟩:=h.code
 have g:=ZtJ n x h.fitn h.net hb
 have hi:Zm (.lst (c.codes.map PV.str)) (.int .i64 ((0:Nat):Int))=some (.str x):=Zl hx
 show (fun x0=>Zb7 [x0]) _=_
 rw[ZiT]
 unfold ZgH
 rw[List.getD_eq_getElem?_getD,hx]
 simp only[Int.natCast_zero] at hi
 simp only[Zz] at g
 simp only[Zck,Zlk,hi,g,EVS]
 rfl
theorem Zyu (c:PSG) {k:Nat} (hk:k<c.codes.length):∃row,(ZlN c)[k]?=some row∧row.length=c.signals.length∧∀s,toC c k s=row.getD s (-1):=by
 have hl:(ZlN c).length=c.codes.length:=Zuo _ _ _
 refine ⟨(ZlN c)[k]'(by omega),List.getElem?_eq_getElem _,Zup _ _ _ _ (List.getElem_mem _),fun s=> ?_⟩
 unfold toC Zex
 rw[List.getD_eq_getElem?_getD (l:=ZlN c),List.getElem?_eq_getElem (by omega)]
 rfl
theorem Zkv (c:PSG) {k s:Nat} (hk:k<c.codes.length) (hs:s<c.signals.length):∃row:List PV,Zm (.lst ((ZlN c).map Zq1)) (.int .i64 (k:Int))=some (.lst row)∧Zm (.lst row) (.int .i64 (s:Int))=some (pI (toC c k s)):=by
 obtain ⟨row,h1,h2,h3⟩:=Zyu c hk
 refine ⟨row.map pI,Zl h1, ?_⟩
 refine ZuB ?_
 rw[h3 s,List.getElem?_map,List.getElem?_eq_getElem (by omega),List.getD_eq_getElem?_getD,List.getElem?_eq_getElem (by omega)]
 rfl
def ZhX (n:PNet) (k:Nat):Int:=match n.wires[k]? with|some w=>w.kind|none=>0
def inAt (n:PNet) (k:Nat):Bool:=match n.signals[k]? with|some s=>decide (s.2=1)|none=>false
theorem Zyw {n:PNet} (hv:ZfP n=true) {k:Nat} (hk:k<n.signals.length):decide (ZhX n k=1)=inAt n k:=by
 have hs:=(Zcg hv).1
 have hw:n.wires[k]?=some n.wires[k]:=List.getElem?_eq_getElem (by omega)
 have hsg:n.signals[k]?=some n.signals[k]:=List.getElem?_eq_getElem hk
 unfold ZhX inAt
 rw[hw,hsg]
 unfold ZfP at hv
 simp only[Bool.and_eq_true] at hv
 have h1:=ZkE _ _ _ hv.2 k _ hw
 rw[Nat.zero_add] at h1
 unfold ZcO ZnF Zgd at h1
 have hd:decide ((k:Int)<(n.signals.length:Int))=true:=by simp only[decide_eq_true_eq];omega
 rw[hd,hsg] at h1
 simp only[Bool.and_eq_true,Bool.not_true,Bool.false_or,beq_iff_eq] at h1
 exact h1.1.1.1.2.2
def Zkw (c:PSG) (n:PNet) (s:Nat) (v:List UInt8) (k:Nat):Bool:=if n.signals.length≤k then Zr n v k else decide (0≤toC c s k)&&(decide (ZhX n k=1)||Zr n v k)
theorem ZrZ (c:PSG) (n:PNet) (h:Go1 c n) (s:Nat) (v:List UInt8) (k:Nat) (hs:s<c.codes.length) (hb:ZZ v n.wires.length=true) (hk:k<n.wires.length):Zb8 [Zck c n,ePs ⟨s,v⟩,pI (k:Int)]=some (pB (Zkw c n s v k)):=by
 obtain ⟨h1,h2,h3,h4,h5,h6⟩:=h.vals hb
 have g:=ZdA n v k h.fitn h2 h1 hk
 simp only[Zz] at g
 show (fun x0 x1 x2=>Zb8 [x0,x1,x2]) _ _ _=_
 rw[ZiV]
 unfold Zkw
 by_cases c1:n.signals.length≤k
 ·have hd:decide ((n.signals.length:Int)≤(k:Int))=true:=by simp only[decide_eq_true_eq];omega
  rw[if_pos c1]
  simp only[Zck,ePs,List.length_map,hd,Zlk,g,EVS]
 ·have hd:decide ((n.signals.length:Int)≤(k:Int))=false:=by simp only[decide_eq_false_iff_not];omega
  obtain ⟨row,r1,r2⟩:=Zkv c hs (show k<c.signals.length by omega)
  have hw:Zm (.lst (n.wires.map Z9)) (.int .i64 (k:Int))=some (Z9 n.wires[k]):=Zl (List.getElem?_eq_getElem hk)
  have hkd:ZhX n k=n.wires[k].kind:=by unfold ZhX;rw[List.getElem?_eq_getElem hk]
  rw[if_neg c1,hkd]
  cases c2:decide (0≤toC c s k)<;>cases c3:decide (n.wires[k].kind=1)<;>simp only[Zck,ePs,List.length_map,hd,Zlk,r1,r2,c2,c3,hw,Z9,List.drop_succ_cons,List.drop_zero,g,EVS]
def flB (b:UInt8):UInt8:=if b=48 then 49 else 48
def Zfq (v:List UInt8) (k:Nat):List UInt8:=v.set k (flB (v.getD k 48))
def ZaA (c:PSG) (n:PNet) (s:Nat) (v:List UInt8) (k:Nat):PSt:=⟨if k<n.signals.length then toC c s k else s,Zfq v k⟩
theorem Zyx (b:UInt8):ZgL (flB b)=true:=by unfold flB;split<;>decide
theorem Znr {v:List UInt8} {N k:Nat} (h:ZZ v N=true):ZZ (Zfq v k) N=true:=by
 rw[Zch] at h⊢
 refine ⟨fun b hb=> ?_,by unfold Zfq;rw[List.length_set];exact h.2⟩
 unfold Zfq at hb
 rcases List.mem_or_eq_of_mem_set hb with hb|rfl
 ·exact h.1 b hb
 ·exact Zyx _
theorem Zyy {b:UInt8} (h:ZgL b=true):Ze .xor (TD.int .u8) (pU b) (.int .u8 1)=some (pU (flB b)):=by
 rcases (ZxS b).1 h with rfl|rfl<;>rfl
theorem ZxC (c:PSG) (n:PNet) (h:Go1 c n) (s:Nat) (v:List UInt8) (k:Nat) (hs:s<c.codes.length) (hb:ZZ v n.wires.length=true) (hk:k<n.wires.length):Zdf [Zck c n,ePs ⟨s,v⟩,pI (k:Int)]=some (ePs (ZaA c n s v k)):=by
 obtain ⟨h1,h2,h3,h4,h5,h6⟩:=h.vals hb
 have hc:=ZyH v h2
 have hvk:v[k]?=some v[k]:=List.getElem?_eq_getElem (by omega)
 have p1:ZcN (v.map pU) (.int .i64 (k:Int))=some (.int .i64 (k:Int)):=Zet (by rw[List.length_map];omega)
 have q1:(v.map pU)[k]?=some (pU v[k]):=by rw[List.getElem?_map,hvk];rfl
 have hx:=Zyy ((Zch.1 hb).1 v[k] (List.getElem_mem _))
 have hse:Za1 0 1 [pU v[k]] (pU v[k]) (pU (flB v[k]))=some (pU (flB v[k])):=rfl
 have st:(v.map pU).set k (pU (flB v[k]))=(v.set k (flB v[k])).map pU:=Zqp pU v k _
 have hbo:=ZhG (v.set k (flB v[k]))
 have hfv:Zfq v k=v.set k (flB v[k]):=by unfold Zfq;rw[List.getD_eq_getElem?_getD,hvk];rfl
 show (fun x0 x1 x2=>Zdf [x0,x1,x2]) _ _ _=_
 rw[ZlA]
 unfold ZaA
 rw[hfv]
 by_cases c1:k<n.signals.length
 ·have hd:decide ((k:Int)<(n.signals.length:Int))=true:=by simp only[decide_eq_true_eq];omega
  obtain ⟨row,r1,r2⟩:=Zkv c hs (show k<c.signals.length by omega)
  rw[if_pos c1]
  simp only[Zck,ePs,List.length_map,hc,p1,q1,Int.toNat_natCast,hx,hse,st,hbo,hd,r1,r2,EVS]
 ·have hd:decide ((k:Int)<(n.signals.length:Int))=false:=by simp only[decide_eq_false_iff_not];omega
  rw[if_neg c1]
  simp only[Zck,ePs,List.length_map,hc,p1,q1,Int.toNat_natCast,hx,hse,st,hbo,hd,EVS]
theorem Zqf (v:List UInt8) (k:Nat) (hk:k<v.length) (hv:ZH v):ZeK [.str v,pI (k:Int)]=some (.str (Zfq v k)):=by
 have hvk:v[k]?=some v[k]:=List.getElem?_eq_getElem hk
 have hb:Zaq (.str v) (.int .i64 (k:Int))=some (pU v[k]):=Zs hvk
 have g1:=ZiA (decide ((v[k].toNat:Int)=48))
 have g2:=ZiB v k (Zfg (decide ((v[k].toNat:Int)=48))) hk hv
 have hfb:Zfg (decide ((v[k].toNat:Int)=48))=flB v[k]:=by
  unfold flB
  have:((v[k].toNat:Int)=48)↔v[k]=48:=by rw[←UInt8.toNat_inj];exact Int.ofNat_inj
  by_cases c:v[k]=48
  ·rw[if_pos c,decide_eq_true (this.2 c)];rfl
  ·rw[if_neg c,decide_eq_false (fun e=>c (this.1 e))];rfl
 show (fun x0 x1=>ZeK [x0,x1]) _ _=_
 rw[ZoL]
 unfold Zfq
 rw[List.getD_eq_getElem?_getD,hvk,Option.getD_some,←hfb]
 simp only[hb,g1,g2,EVS]
theorem Zv9 (l:List Int) (x:Int) (hl:ZH l):ZiI [.lst (l.map pI),pI x]=some (pB (decide (x∈l))):=by
 unfold ZH at hl
 show (fun x0 x1=>ZiI [x0,x1]) _ _=_
 rw[Zuk]
 simp only[EVS]
 refine (congrArg (fun m:Option PV=>m.bind fun r=>if r.sc=true then some r else none) (Zab (R:=PV) l (fun _ y=> !decide (x=y)) (some (pB true)) (some (pB false)) _ hl (fun again k y hx=> ?_) (fun again=> ?_))).trans ?_
 ·have hk:=Zg hx
  have hi:Zm (.lst (l.map pI)) (.int .i64 (k:Int))=some (pI y):=Zl hx
  have he:decide (y=x)=decide (x=y):=by rw[Bool.eq_iff_iff,decide_eq_true_eq,decide_eq_true_eq];exact eq_comm
  simp only[ZY hk,Zk hk hl,hi,he,EVS]
  cases decide (x=y)<;>simp only[EVS]
 ·simp only[Zav,EVS]
 ·rw[Zh5]
  cases decide (x∈l)<;>rfl
theorem ZtK (good:Nat→Bool) (N k:Nat) (hk:k<N):decide ((k:Int)∈ZaO good N)=good k:=by
 unfold ZaO
 rw[Bool.eq_iff_iff,decide_eq_true_eq,List.mem_map]
 constructor
 ·rintro ⟨i,hi,he⟩
  rw[List.mem_filter] at hi
  have:i=k:=by have:(i:Int)=(k:Int):=he;omega
  rw[←this]
  exact hi.2
 ·intro h
  exact ⟨k,List.mem_filter.2 ⟨List.mem_range.2 hk,h⟩,rfl⟩
def ZaK (c:PSG) (n:PNet) (s:Nat) (v:List UInt8) (k:Nat):List Nat:=(List.range k).filter (Zkw c n s v)
def ZgI (c:PSG) (n:PNet) (s:Nat) (v:List UInt8) (k:Nat):Bool:=decide (k<n.signals.length)&&((!decide (ZhX n k=1)&&decide (toC c s k<0))&&Zr n v k)
def Zag (c:PSG) (n:PNet) (s:Nat) (v:List UInt8) (k:Nat):List Nat:=(List.range k).filter (ZgI c n s v)
def eNn (i:Nat):PV:=pI (i:Int)
theorem Zel {good:Nat→Bool} {k:Nat} (h:good k=true):(List.range (k+1)).filter good=(List.range k).filter good++[k]:=by
 rw[List.range_succ,List.filter_append];simp[h]
theorem Zde {good:Nat→Bool} {k:Nat} (h:good k=false):(List.range (k+1)).filter good=(List.range k).filter good:=by
 rw[List.range_succ,List.filter_append];simp[h]
theorem Zem (good:Nat→Bool) (k:Nat):((List.range k).filter good).length≤k:=by
 have:=List.length_filter_le good (List.range k)
 simpa using this
theorem Zns (c:PSG) (n:PNet) (h:Go1 c n) (s:Nat) (v:List UInt8) (hs:s<c.codes.length) (hb:ZZ v n.wires.length=true):
 Za3 [Zck c n,ePs ⟨s,v⟩]=some (.tup [.lst ((ZaK c n s v n.wires.length).map fun k=>ePs (ZaA c n s v k)),.lst ((ZaK c n s v n.wires.length).map eNn)]):=by
 obtain ⟨h1,h2,h3,h4,h5,h6⟩:=h.vals hb
 show (fun x0 x1=>Za3 [x0,x1]) _ _=_
 rw[Zhh]
 simp only[Zck,ePs,List.length_map,EVS]
 refine (ZdX (R:=PV) 0 n.wires.length (fun k=>[.lst ((ZaK c n s v k).map eNn),.lst ((ZaK c n s v k).map fun k=>ePs (ZaA c n s v k)),pI (Int.ofNat k)]) (some (.tup [.lst ((ZaK c n s v n.wires.length).map fun k=>ePs (ZaA c n s v k)),.lst ((ZaK c n s v n.wires.length).map eNn)])) _ (by omega) (fun again k k1 k2=> ?_) (fun again=> ?_) (Nat.zero_le _) _ (by simp[ZaK]))
 ·have a1:=ZrZ c n h s v k hs hb k2
  have a2:=ZxC c n h s v k hs hb k2
  have hcl:(ZaK c n s v k).length≤k:=Zem _ k
  simp only[Zck,ePs] at a1 a2
  have hm:n.wires.length≤9223372036854775807:=by omega
  have hla:(ZaK c n s v k).length+[ePs (ZaA c n s v k)].length≤4294967296∧[ePs (ZaA c n s v k)].all (Zau 2)=true:=⟨by simp;omega,rfl⟩
  have hlb:(ZaK c n s v k).length+[pI (k:Int)].length≤4294967296∧[pI (k:Int)].all (Zau 1)=true:=⟨by simp;omega,rfl⟩
  simp only[ePs] at hla
  simp only[ZY k2,Znq,a1,EVS]
  cases hE:Zkw c n s v k
  ·have e1:ZaK c n s v (k+1)=ZaK c n s v k:=Zde hE
   simp only[Zk k2 hm,e1,EVS]
  ·have e1:ZaK c n s v (k+1)=ZaK c n s v k++[k]:=Zel hE
   simp only[a2,if_pos hla,if_pos hlb,Zk k2 hm,e1,Znq,List.map_append,List.map_cons,List.map_nil,eNn,EVS]
   rfl
 ·simp only[Zav,EVS]
theorem ZtL (c:PSG) (n:PNet) (s:Nat) (v:List UInt8):∀(k:Nat),n.signals.length≤k→Zag c n s v k=Zag c n s v n.signals.length:=by
 intro k hk
 induction k with
 | zero => have:n.signals.length=0:=by omega
           rw[this]
 | succ k ih=>
  by_cases c1:n.signals.length≤k
  ·have:ZgI c n s v k=false:=by unfold ZgI;rw[decide_eq_false (by omega)];rfl
   rw[←ih c1]
   exact Zde this
  ·rw[show n.signals.length=k+1 by omega]
theorem Znt (c:PSG) (n:PNet) (h:Go1 c n) (s:Nat) (v:List UInt8) (hs:s<c.codes.length) (hb:ZZ v n.wires.length=true):
 Za4 [Zck c n,ePs ⟨s,v⟩]=some (.lst ((Zag c n s v n.wires.length).map eNn)):=by
 obtain ⟨h1,h2,h3,h4,h5,h6⟩:=h.vals hb
 rw[ZtL c n s v _ h5]
 show (fun x0 x1=>Za4 [x0,x1]) _ _=_
 rw[Zhj]
 simp only[Zck,ePs,List.length_map,EVS]
 refine (ZdX (R:=PV) 0 n.signals.length (fun k=>[.lst ((Zag c n s v k).map eNn),pI (Int.ofNat k)]) (some (.lst ((Zag c n s v n.signals.length).map eNn))) _ (by omega) (fun again k k1 k2=> ?_) (fun again=> ?_) (Nat.zero_le _) _ (by simp[Zag]))
 ·have hkw:k<n.wires.length:=by omega
  have g:=ZdA n v k h.fitn h2 h1 hkw
  simp only[Zz] at g
  have hcl:(Zag c n s v k).length≤k:=Zem _ k
  have hm:n.signals.length≤9223372036854775807:=by omega
  have hlb:(Zag c n s v k).length+[pI (k:Int)].length≤4294967296∧[pI (k:Int)].all (Zau 1)=true:=⟨by simp;omega,rfl⟩
  obtain ⟨row,r1,r2⟩:=Zkv c hs (show k<c.signals.length by omega)
  have hw:Zm (.lst (n.wires.map Z9)) (.int .i64 (k:Int))=some (Z9 n.wires[k]):=Zl (List.getElem?_eq_getElem hkw)
  have hkd:ZhX n k=n.wires[k].kind:=by unfold ZhX;rw[List.getElem?_eq_getElem hkw]
  have hE:ZgI c n s v k=((!decide (n.wires[k].kind=1)&&decide (toC c s k<0))&&Zr n v k):=by unfold ZgI;rw[decide_eq_true k2,hkd];rfl
  cases c2:decide (n.wires[k].kind=1)<;>cases c3:decide (toC c s k<0)<;>cases c4:Zr n v k<;>rw[c2,c3,c4] at hE<;>
   simp only[Bool.not_true,Bool.not_false,Bool.and_true,Bool.and_false,Bool.true_and,Bool.false_and] at hE
  all_goals first
   | (have e1:Zag c n s v (k+1)=Zag c n s v k:=Zde hE
      simp only[ZY k2,hw,Z9,List.drop_succ_cons,List.drop_zero,c2,c3,c4,r1,r2,Zlk,g,Zk k2 hm,e1,EVS])
   | (have e1:Zag c n s v (k+1)=Zag c n s v k++[k]:=Zel hE
      simp only[ZY k2,hw,Z9,List.drop_succ_cons,List.drop_zero,c2,c3,c4,r1,r2,Zlk,g,if_pos hlb,Zk k2 hm,e1,List.map_append,List.map_cons,List.map_nil,eNn,EVS])
 ·simp only[Zav,EVS]
theorem Zr0 (c:PSG) (n:PNet) (h:Go1 c n) (s:Nat) (v:List UInt8) (hs:s<c.codes.length) (hb:ZZ v n.wires.length=true):
 ZfE [eSG c,Zz n,ePs ⟨s,v⟩]=some (.tup [.lst ((ZaK c n s v n.wires.length).map fun k=>ePs (ZaA c n s v k)),.lst ((ZaK c n s v n.wires.length).map eNn),.lst ((Zag c n s v n.wires.length).map eNn)]):=by
 obtain ⟨h1,h2,h3,h4,h5,h6⟩:=h.vals hb
 have g0:=ZhU n v h.fitn h2 h1 (by omega)
 simp only[Zz] at g0
 show (fun x0 x1 x2=>ZfE [x0,x1,x2]) _ _ _=_
 rw[ZqP]
 simp only[eSG,Zz,ePs,Z5,g0,List.length_map,EVS]
 refine (ZdX (R:=PV) 0 n.wires.length (fun k=>[.lst ((ZaK c n s v k).map fun k=>ePs (ZaA c n s v k)),.lst ((ZaK c n s v k).map eNn),.lst ((Zag c n s v k).map eNn),pI (Int.ofNat k)]) (some (.tup [.lst ((ZaK c n s v n.wires.length).map fun k=>ePs (ZaA c n s v k)),.lst ((ZaK c n s v n.wires.length).map eNn),.lst ((Zag c n s v n.wires.length).map eNn)])) _ (by omega) (fun again k k1 k2=> ?_) (fun again=> ?_) (Nat.zero_le _) _ (by simp[ZaK,Zag]))
 ·have g1:=Zv9 (ZaO (Zr n v) n.wires.length) k (by unfold ZH;have:=Zju (Zr n v) n.wires.length;omega)
  rw[ZtK _ _ _ k2] at g1
  have g2:=Zqf v k (by omega) h2
  have hcl:(ZaK c n s v k).length≤k:=Zem _ k
  have hcx:(Zag c n s v k).length≤k:=Zem _ k
  have hm:n.wires.length≤9223372036854775807:=by omega
  have hlb:(ZaK c n s v k).length+[pI (k:Int)].length≤4294967296∧[pI (k:Int)].all (Zau 1)=true:=⟨by simp;omega,rfl⟩
  have hlx:(Zag c n s v k).length+[pI (k:Int)].length≤4294967296∧[pI (k:Int)].all (Zau 1)=true:=⟨by simp;omega,rfl⟩
  by_cases c1:k<n.signals.length
  ·have hd:=ZY c1
   have hsg:Zm (.lst (n.signals.map Z6)) (.int .i64 (k:Int))=some (Z6 n.signals[k]):=Zl (List.getElem?_eq_getElem c1)
   have hin:inAt n k=decide (n.signals[k].2=1):=by unfold inAt;rw[List.getElem?_eq_getElem c1]
   have hki:=Zyw h.net c1
   rw[hin] at hki
   have g3:=Zv8 c n s k h hs (by omega)
   simp only[eSG] at g3
   have hla:(ZaK c n s v k).length+[PV.agg [pI (toC c s k),.str (Zfq v k)]].length≤4294967296∧[PV.agg [pI (toC c s k),.str (Zfq v k)]].all (Zau 2)=true:=⟨by simp;omega,rfl⟩
   have hfl:ZaA c n s v k=⟨toC c s k,Zfq v k⟩:=by unfold ZaA;rw[if_pos c1]
   have hE:Zkw c n s v k=(decide (0≤toC c s k)&&(decide (n.signals[k].2=1)||Zr n v k)):=by unfold Zkw;rw[if_neg (by omega),hki]
   have hX:ZgI c n s v k=((!decide (n.signals[k].2=1)&&decide (toC c s k<0))&&Zr n v k):=by unfold ZgI;rw[decide_eq_true c1,hki];rfl
   by_cases c3:0≤toC c s k
   ·have c3':decide (0≤toC c s k)=true:=decide_eq_true c3
    have c3'':decide (toC c s k<0)=false:=decide_eq_false (by omega)
    rw[c3'] at hE
    rw[c3''] at hX
    simp only[Bool.and_false,Bool.false_and,Bool.true_and] at hE hX
    have e2:Zag c n s v (k+1)=Zag c n s v k:=Zde hX
    cases c2:decide (n.signals[k].2=1)<;>cases c4:Zr n v k<;>rw[c2,c4] at hE<;>rw[c4] at g1<;>simp only[Bool.or_true,Bool.or_false,Bool.true_or,Bool.false_or] at hE
    ·have e1:ZaK c n s v (k+1)=ZaK c n s v k:=Zde hE
     simp only[ZY k2,hd,hsg,Zak,g3,g1,c2,c3',List.drop_succ_cons,List.drop_zero,Zk k2 hm,e1,e2,EVS]
    ·have e1:ZaK c n s v (k+1)=ZaK c n s v k++[k]:=Zel hE
     simp only[ZY k2,hd,hsg,Zak,g3,g2,g1,c2,c3',List.drop_succ_cons,List.drop_zero,if_pos hla,if_pos hlb,Zk k2 hm,e1,e2,hfl,ePs,List.map_append,List.map_cons,List.map_nil,eNn,EVS]
    ·have e1:ZaK c n s v (k+1)=ZaK c n s v k++[k]:=Zel hE
     simp only[ZY k2,hd,hsg,Zak,g3,g2,g1,c2,c3',List.drop_succ_cons,List.drop_zero,if_pos hla,if_pos hlb,Zk k2 hm,e1,e2,hfl,ePs,List.map_append,List.map_cons,List.map_nil,eNn,EVS]
    ·have e1:ZaK c n s v (k+1)=ZaK c n s v k++[k]:=Zel hE
     simp only[ZY k2,hd,hsg,Zak,g3,g2,g1,c2,c3',List.drop_succ_cons,List.drop_zero,if_pos hla,if_pos hlb,Zk k2 hm,e1,e2,hfl,ePs,List.map_append,List.map_cons,List.map_nil,eNn,EVS]
   ·have c3':decide (0≤toC c s k)=false:=decide_eq_false c3
    have c3'':decide (toC c s k<0)=true:=decide_eq_true (by omega)
    rw[c3'] at hE
    rw[c3''] at hX
    simp only[Bool.and_true,Bool.false_and,Bool.true_and] at hE hX
    have e1:ZaK c n s v (k+1)=ZaK c n s v k:=Zde hE
    cases c2:decide (n.signals[k].2=1)<;>cases c4:Zr n v k<;>rw[c2,c4] at hX<;>rw[c4] at g1<;>simp only[Bool.not_true,Bool.not_false,Bool.and_true,Bool.and_false,Bool.true_and,Bool.false_and] at hX
    ·have e2:Zag c n s v (k+1)=Zag c n s v k:=Zde hX
     simp only[ZY k2,hd,hsg,Zak,g3,g1,c2,c3',List.drop_succ_cons,List.drop_zero,Zk k2 hm,e1,e2,EVS]
    ·have e2:Zag c n s v (k+1)=Zag c n s v k++[k]:=Zel hX
     simp only[ZY k2,hd,hsg,Zak,g3,g1,c2,c3',List.drop_succ_cons,List.drop_zero,if_pos hlx,Zk k2 hm,e1,e2,List.map_append,List.map_cons,List.map_nil,eNn,EVS]
    ·have e2:Zag c n s v (k+1)=Zag c n s v k:=Zde hX
     simp only[ZY k2,hd,hsg,Zak,g3,g1,c2,c3',List.drop_succ_cons,List.drop_zero,Zk k2 hm,e1,e2,EVS]
    ·have e2:Zag c n s v (k+1)=Zag c n s v k:=Zde hX
     simp only[ZY k2,hd,hsg,Zak,g3,g1,c2,c3',List.drop_succ_cons,List.drop_zero,Zk k2 hm,e1,e2,EVS]
  ·have hd:decide ((k:Int)<(n.signals.length:Int))=false:=by simp only[decide_eq_false_iff_not];omega
   have hE:Zkw c n s v k=Zr n v k:=by unfold Zkw;rw[if_pos (by omega)]
   have hX:ZgI c n s v k=false:=by unfold ZgI;rw[decide_eq_false c1];rfl
   have e2:Zag c n s v (k+1)=Zag c n s v k:=Zde hX
   have hfl:ZaA c n s v k=⟨(s:Int),Zfq v k⟩:=by unfold ZaA;rw[if_neg c1]
   have hla:(ZaK c n s v k).length+[PV.agg [pI (s:Int),.str (Zfq v k)]].length≤4294967296∧[PV.agg [pI (s:Int),.str (Zfq v k)]].all (Zau 2)=true:=⟨by simp;omega,rfl⟩
   have hge:decide (0≤(s:Int))=true:=decide_eq_true (by omega)
   cases c4:Zr n v k<;>rw[c4] at hE g1
   ·have e1:ZaK c n s v (k+1)=ZaK c n s v k:=Zde hE
    simp only[ZY k2,hd,Zak,g1,hge,Zk k2 hm,e1,e2,EVS]
   ·have e1:ZaK c n s v (k+1)=ZaK c n s v k++[k]:=Zel hE
    simp only[ZY k2,hd,Zak,g2,g1,hge,if_pos hla,if_pos hlb,Zk k2 hm,e1,e2,hfl,ePs,List.map_append,List.map_cons,List.map_nil,eNn,EVS]
 ·simp only[Zav,EVS]
def StB (c:PSG) (n:PNet) (b:PSt):Prop:=∃s:Nat,b.state=s∧s<c.codes.length∧ZZ b.values n.wires.length=true
def Zen (k:Nat) (P:ProdG) (w:Nat) (b:PSt):ProdG:=
 if b∈P.states then ⟨P.states,P.flips++[⟨k,w,(P.states.idxOf b:Nat)⟩],P.extra⟩ else ⟨P.states++[b],P.flips++[⟨k,w,(P.states.length:Nat)⟩],P.extra⟩
def inU (c:PSG) (n:PNet) (k s:Nat) (v:List UInt8):List Nat→ProdG→ProdG
 |[],P=>P
 |w::r,P=>inU c n k s v r (Zen k P w (ZaA c n s v w))
def exU (k:Nat) (l:List Nat) (P:ProdG):ProdG:=⟨P.states,P.flips,P.extra++l.map fun w:Nat=>⟨(k:Int),(w:Int), -1⟩⟩
def rdU (c:PSG) (n:PNet) (k:Nat) (b:PSt) (P:ProdG):ProdG:=
 exU k (Zag c n b.state.toNat b.values n.wires.length) (inU c n k b.state.toNat b.values (ZaK c n b.state.toNat b.values n.wires.length) P)
def Zkx (c:PSG) (n:PNet):Nat→Nat→ProdG→Option ProdG
 |0,_,P=>some P
 | f+1,k,P=>match P.states[k]? with
  |none=>some P
  |some b=>if 600<(rdU c n k b P).states.length then none else Zkx c n f (k+1) (rdU c n k b P)
def Zky (c:PSG) (n:PNet):Option ProdG:=Zkx c n 601 0 ⟨[ZgH c n],[],[]⟩
theorem Zkz (k:Nat) (P:ProdG) (w:Nat) (b:PSt):P.states.length≤(Zen k P w b).states.length∧(Zen k P w b).states.length≤P.states.length+1∧(Zen k P w b).flips.length=P.flips.length+1∧(Zen k P w b).extra=P.extra:=by
 unfold Zen
 split<;>simp
theorem ZgJ (c:PSG) (n:PNet) (k s:Nat) (v:List UInt8):∀(l:List Nat) (P:ProdG),P.states.length≤(inU c n k s v l P).states.length∧(inU c n k s v l P).states.length≤P.states.length+l.length∧(inU c n k s v l P).flips.length=P.flips.length+l.length∧(inU c n k s v l P).extra=P.extra
 |[],P=>by simp[inU]
 | w::r,P=>by
  unfold inU
  obtain ⟨h1,h2,h3,h4⟩:=Zkz k P w (ZaA c n s v w)
  obtain ⟨g1,g2,g3,g4⟩:=ZgJ c n k s v r (Zen k P w (ZaA c n s v w))
  simp only[List.length_cons]
  refine ⟨by omega,by omega,by omega,g4.trans h4⟩
theorem Zyz {k:Nat} {P:ProdG} {w:Nat} {b x:PSt} {i:Nat} (h:P.states[i]?=some x):(Zen k P w b).states[i]?=some x:=by
 unfold Zen
 split
 ·exact h
 ·have:=(List.getElem?_eq_some_iff.1 h).1
  show (P.states++[b])[i]?=_
  rw[List.getElem?_append_left this]
  exact h
theorem Zms {c:PSG} {n:PNet} {s:Nat} {v:List UInt8} {N w:Nat} (h:w∈ZaK c n s v N):w<N∧Zkw c n s v w=true:=by
 unfold ZaK at h
 rw[List.mem_filter] at h
 exact ⟨List.mem_range.1 h.1,h.2⟩
theorem ZxD {c:PSG} {n:PNet} (h:Go1 c n) {s:Nat} {v:List UInt8} {w:Nat} (hs:s<c.codes.length) (hb:ZZ v n.wires.length=true) (hw:Zkw c n s v w=true):StB c n (ZaA c n s v w):=by
 unfold ZaA
 by_cases c1:w<n.signals.length
 ·rw[if_pos c1]
  unfold Zkw at hw
  rw[if_neg (by omega),Bool.and_eq_true,decide_eq_true_eq] at hw
  have hsl:w<c.signals.length:=by rw[h.same];exact c1
  have:=toC_in h hs hsl
  exact ⟨(toC c s w).toNat,by show toC c s w=_;omega,by omega,Znr hb⟩
 ·rw[if_neg c1]
  exact ⟨s,rfl,hs,Znr hb⟩
theorem ZyA {c:PSG} {n:PNet} {k:Nat} {P:ProdG} {w:Nat} {b:PSt} (hP:∀x∈P.states,StB c n x) (hb:StB c n b):∀x∈(Zen k P w b).states,StB c n x:=by
 unfold Zen
 split
 ·exact hP
 ·intro x hx
  rcases List.mem_append.1 hx with hx|hx
  ·exact hP x hx
  ·rw[List.mem_singleton] at hx;subst hx;exact hb
theorem ZxE {c:PSG} {n:PNet} (h:Go1 c n) {k s:Nat} {v:List UInt8} (hs:s<c.codes.length) (hb:ZZ v n.wires.length=true):∀(l:List Nat) (P:ProdG),(∀w∈l,Zkw c n s v w=true)→(∀x∈P.states,StB c n x)→∀x∈(inU c n k s v l P).states,StB c n x
 |[],P,_,hP=>hP
 |w::r,P,hl,hP=>ZxE h hs hb r _ (fun x hx=>hl x (List.mem_cons_of_mem _ hx)) (ZyA hP (ZxD h hs hb (hl w List.mem_cons_self)))
theorem rdU_ok {c:PSG} {n:PNet} (h:Go1 c n) {k:Nat} {b:PSt} {P:ProdG} (hb:StB c n b) (hP:∀x∈P.states,StB c n x):∀x∈(rdU c n k b P).states,StB c n x:=by
 obtain ⟨s,h1,h2,h3⟩:=hb
 unfold rdU exU
 rw[h1,Int.toNat_natCast]
 exact ZxE h h2 h3 _ _ (fun w hw=>(Zms hw).2) hP
theorem Zi2 {n:PNet} {N:Nat}:∀(f k:Nat) (v:List UInt8),ZZ v N=true→ZZ (Zf7 n f k v) N=true
 |0,k,v,h=>h
 | f+1,k,v,h=>by
  unfold Zf7
  exact Zi2 f _ _ (ZnL h _)
theorem Zll {c:PSG} {n:PNet} (h:Go1 c n):StB c n (ZgH c n):=by
 obtain ⟨x,hx,hb⟩:=h.code
 refine ⟨0,rfl,by have:=h.one;omega, ?_⟩
 unfold ZgH Zd9
 rw[List.getD_eq_getElem?_getD,hx]
 exact Zi2 _ _ _ (ZnM hb (Zcg h.net).1)
theorem StB.mk' {c:PSG} {n:PNet} {b:PSt} (h:StB c n b):∃s:Nat,b=⟨(s:Int),b.values⟩∧s<c.codes.length∧ZZ b.values n.wires.length=true:=by
 obtain ⟨s,h1,h2,h3⟩:=h
 refine ⟨s, ?_,h2,h3⟩
 cases b
 simp only at h1
 rw[h1]
structure Pi (c:PSG) (n:PNet) (k:Nat) (P:ProdG):Prop where
 ok:∀x∈P.states,StB c n x
 len:P.states.length≤600
 fl:P.flips.length≤24 * k
 ex:P.extra.length≤24 * k
theorem Zjw (c:PSG) (n:PNet) (s:Nat) (v:List UInt8) (N:Nat):(Zag c n s v N).length≤N:=Zem _ _
theorem Znu (c:PSG) (n:PNet) (s:Nat) (v:List UInt8) (N:Nat):(ZaK c n s v N).length≤N:=Zem _ _
theorem Pi.next {c:PSG} {n:PNet} (h:Go1 c n) {k:Nat} {P:ProdG} (hP:Pi c n k P) {b:PSt} (hb:P.states[k]?=some b) (hl:¬600<(rdU c n k b P).states.length):Pi c n (k+1) (rdU c n k b P):=by
 have hbs:=hP.ok b (List.mem_of_getElem? hb)
 have hn:=(Zcg h.net).2
 have h1:=Znu c n b.state.toNat b.values n.wires.length
 have h2:=Zjw c n b.state.toNat b.values n.wires.length
 obtain ⟨g1,g2,g3,g4⟩:=ZgJ c n k b.state.toNat b.values (ZaK c n b.state.toNat b.values n.wires.length) P
 have h3:=hP.fl
 have h4:=hP.ex
 refine ⟨rdU_ok h hbs hP.ok,by omega, ?_, ?_⟩
 ·show (inU c n k b.state.toNat b.values _ P).flips.length≤_
  omega
 ·show ((inU c n k b.state.toNat b.values _ P).extra++List.map _ _).length≤_
  rw[g4,List.length_append,List.length_map]
  omega
theorem ZxF (x y:PSt):eqV (some [(0,TD.int IntKind.i64),(1,TD.str)]) TD.struct (.agg [pI x.state,.str x.values]) (.agg [pI y.state,.str y.values])=some (decide (x=y)):=by
 have e:decide (x=y)=((x.state==y.state)&&((x.values==y.values)&&true)):=by
  rw[Bool.eq_iff_iff]
  cases x;cases y
  simp only[decide_eq_true_eq,Bool.and_eq_true,PSt.mk.injEq,beq_iff_eq,and_true]
 rw[e]
 show (some (x.state==y.state)).bind (fun b=>(some ((x.values==y.values)&&true)).map fun c=>b&&c)=_
 rfl
theorem Zpj (b:PSt):∀(l:List PSt) (k:Nat),ixf (fun x=>decide (x=b)) k l=if b∈l then ((k+l.idxOf b:Nat):Int) else -1
 |[],k=>by simp[ixf]
 | x::r,k=>by
  unfold ixf
  by_cases c:x=b
  ·subst c
   simp
  ·have h:(x::r).idxOf b=r.idxOf b+1:=by rw[List.idxOf_cons,beq_eq_false_iff_ne.2 c];rfl
   have hm:b∈x::r↔b∈r:=by rw[List.mem_cons];exact ⟨fun h=>h.resolve_left (fun e=>c e.symm),.inr⟩
   rw[decide_eq_false c,if_neg (by simp),Zpj b r (k+1),h]
   simp only[hm]
   rw[show k+1+r.idxOf b=k+(r.idxOf b+1) by omega]
theorem Zr1 (l:List PSt) (b:PSt) (hl:ZH l):ZfF [.lst (l.map ePs),ePs b]=some (pI (if b∈l then (l.idxOf b:Nat) else -1)):=by
 unfold ZH at hl
 show (fun x0 x1=>ZfF [x0,x1]) _ _=_
 rw[ZqR]
 simp only[ePs,EVS]
 refine (congrArg (fun m:Option PV=>m.bind fun r=>if r.sc=true then some r else none) (ZdC l (fun x=>decide (x=b)) _ hl (fun again k x hx=> ?_) (fun again=> ?_))).trans ?_
 ·have hk:=Zg hx
  have hi:Zm (.lst (l.map ePs)) (.int .i64 (k:Int))=some (ePs x):=Zl hx
  have he:=ZxF x b
  have hf:(fun b:PSt=>PV.agg [pI b.state,PV.str b.values])=ePs:=rfl
  simp only[ePs] at hi
  cases c:decide (x=b)<;>rw[c] at he<;>simp only[ZY hk,Zk hk hl,hi,Z5,sp2,he,Bool.false_eq_true,if_false,if_true,EVS]
 ·simp only[Zav,EVS]
  rfl
 ·rw[Zpj,Nat.zero_add]
  rfl
def Zi3 :PV:=.agg [.lst [],.lst [],.lst []]
def Zr2 {R:Type} (c:PSG) (n:PNet) (k s:Nat) (v:List UInt8) (z:Option R) (P:ProdG) (_:Nat) (w:Nat):Sum ProdG (Option R):=
 if ZaA c n s v w∉P.states∧P.states.length=600 then .inr z else .inl (Zen k P w (ZaA c n s v w))
theorem Znv {R:Type} (c:PSG) (n:PNet) (k s:Nat) (v:List UInt8) (z:Option R) (e:ProdG→Option R):∀(l:List Nat) (i:Nat) (P:ProdG),P.states.length≤600→
 Zax (Zr2 c n k s v z) e i P l=if (inU c n k s v l P).states.length≤600 then e (inU c n k s v l P) else z
 |[],i,P,h=>by rw[show inU c n k s v [] P=P from rfl,if_pos h];rfl
 | w ::r,i,P,h=>by
  unfold Zax Zr2 inU
  by_cases c1:ZaA c n s v w∉P.states∧P.states.length=600
  ·rw[if_pos c1]
   have h1:(Zen k P w (ZaA c n s v w)).states.length=601:=by unfold Zen;rw[if_neg c1.1];simp[c1.2]
   have h2:=(ZgJ c n k s v r (Zen k P w (ZaA c n s v w))).1
   rw[if_neg (by omega)]
  ·rw [if_neg c1]
   have h1:(Zen k P w (ZaA c n s v w)).states.length≤600:=by
    unfold Zen
    split
    ·exact h
    ·rename_i hm
     have:P.states.length≠600:=fun e=>c1 ⟨hm,e⟩
     simp
     omega
   exact Znv c n k s v z e r (i+1) _ h1
theorem Zqg {R:Type} (k:Nat) (e:ProdG→Option R):∀(l:List Nat) (i:Nat) (P:ProdG),Zax (fun (P:ProdG) (_:Nat) (w:Nat)=>.inl ⟨P.states,P.flips,P.extra++[⟨(k:Int),(w:Int), -1⟩]⟩) e i P l=e (exU k l P)
 |[],i,P=>by cases P;simp[Zax,exU]
 | w::r,i,P=>by
  show Zax _ e (i+1) _ r=_
  rw[Zqg k e r]
  unfold exU
  simp[List.append_assoc]
theorem Zpk (a b c x y z:PV):splice (splice (splice [a,b,c] 0 [x]) 1 [y]) 2 [z]=[x,y,z]:=rfl
theorem grp3 (a b c x y z:PV):ZrS [a,b,c] 0 (.agg [x,y,z])=some (.agg [x,y,z]):=rfl
theorem ZgK (a b c x y z:PV):splice [a,b,c] 0 [x,y,z]=[x,y,z]:=rfl
def prR (r:Option ProdG):PV:=match r with|some P=>.tup [ePr P,pB true]|none=>.tup [Zi3,pB false]
theorem Znw (c:PSG) (n:PNet) (h:Go1 c n):ZdI [eSG c,Zz n]=some (prR (Zky c n)):=by
 have g0:=Zqe c n h
 have hn24:=(Zcg h.net).2
 show (fun x0 x1=>ZdI [x0,x1]) _ _=_
 rw[Zl7]
 simp only[eSG,Zz,ePs] at g0
 simp only[eSG,Zz,Z5,Zak,g0,ZgK,grp3,EVS]
 unfold Zky
 refine (Zbb (R:=PV) (fun q:{q:ProdG×Nat // Pi c n q.2 q.1∧q.2≤q.1.states.length}=>[ePr q.1.1,pI (Int.ofNat q.1.2)]) (fun q=>601 - q.1.2) (fun q=>some (prR (Zkx c n (601 - q.1.2) q.1.2 q.1.1))) _ (fun again q ih=> ?_) _ ⟨(⟨[ZgH c n],[],[]⟩,0),⟨fun x hx=>by rw[List.mem_singleton] at hx;subst hx;exact Zll h,by simp,by simp,by simp⟩,by simp⟩ (by simp only;omega))
 obtain ⟨⟨P,k⟩,hP,hk⟩:=q
 dsimp only at ih hP hk⊢
 have hlen:=hP.len
 by_cases ck:k<P.states.length
 ·obtain ⟨b,hb⟩:∃b,P.states[k]?=some b:=⟨P.states[k],List.getElem?_eq_getElem ck⟩
  obtain ⟨s,hbe,hs,hbits⟩:=(hP.ok b (List.mem_of_getElem? hb)).mk'
  obtain ⟨v,hv⟩:∃v,b.values=v:=⟨_,rfl⟩
  rw[hv] at hbe hbits
  subst hbe
  have g1:=Zr0 c n h s v hs hbits
  have p1:ZcN (P.states.map ePs) (.int .i64 (k:Int))=some (.int .i64 (k:Int)):=Zet (by rw[List.length_map];exact ck)
  have q1:(P.states.map ePs)[k]?=some (.agg [pI (s:Int),.str v]):=by rw[List.getElem?_map,hb];rfl
  have hcl:=Znu c n s v n.wires.length
  have hxl:=Zjw c n s v n.wires.length
  simp only[eSG,Zz,ePs] at g1
  simp only[ePr,List.length_map,ZY ck,p1,q1,Int.toNat_natCast,Z5,Zak,g1,EVS]
  have hst:Zkx c n (601 - k) k P=if 600<(rdU c n k ⟨(s:Int),v⟩ P).states.length then none else Zkx c n (600 - k) (k+1) (rdU c n k ⟨(s:Int),v⟩ P):=by
   rw[show 601 - k=(600 - k)+1 by omega]
   show (match P.states[k]? with|none=>some P|some b=>_)=_
   rw[hb]
  rw[hst]
  obtain ⟨L,hL⟩:∃L,ZaK c n s v n.wires.length=L:=⟨_,rfl⟩
  obtain ⟨X,hX⟩:∃X,Zag c n s v n.wires.length=X:=⟨_,rfl⟩
  have hrd:rdU c n k ⟨(s:Int),v⟩ P=exU k X (inU c n k s v L P):=by unfold rdU;rw[Int.toNat_natCast,hL,hX]
  have hLok:∀w∈L,Zkw c n s v w=true:=fun w hw=>by rw[←hL] at hw;exact (Zms hw).2
  rw[hrd,hL,hX]
  rw[hL] at hcl
  rw[hX] at hxl
  refine (ZbD (R:=PV) L (fun (P:ProdG) i=>[ePr P,pI (Int.ofNat i)]) (fun i Q=>Q.states.length≤600∧Q.flips.length=P.flips.length+i∧Q.extra=P.extra) (Zr2 c n k s v (some (.tup [Zi3,pB false]))) (fun Q=>again [ePr (exU k X Q),pI (Int.ofNat (k+1))]) _ (by omega) (fun Q i w Q' hi hw he=> ?_) (fun again1 Q i w hi hw=> ?_) (fun again1 Q hi=> ?_) (b:=P) ⟨hlen,rfl,rfl⟩).trans ((Znv c n k s v _ _ L 0 P hlen).trans ?_)
  ·unfold Zr2 at he
   split at he
   ·cases he
   ·rename_i c1
    cases he
    obtain ⟨a1,a2,a3,a4⟩:=Zkz k Q w (ZaA c n s v w)
    refine ⟨?_,by omega,a4.trans hi.2.2⟩
    unfold Zen
    split
    ·exact hi.1
    ·rename_i hm
     have:Q.states.length≠600:=fun e=>c1 ⟨hm,e⟩
     have:=hi.1
     simp
     omega
  ·have hil:=Zg hw
   obtain ⟨i1,i2,i3⟩:=hi
   have hPf:=hP.fl
   have hix:Zm (.lst (L.map fun k=>ePs (ZaA c n s v k))) (.int .i64 (i:Int))=some (ePs (ZaA c n s v w)):=Zl (enc:=fun k=>ePs (ZaA c n s v k)) hw
   have hiw:Zm (.lst (L.map eNn)) (.int .i64 (i:Int))=some (pI (w:Int)):=Zl (enc:=eNn) hw
   have g2:=Zr1 Q.states (ZaA c n s v w) (by unfold ZH;omega)
   obtain ⟨bb,hbb⟩:∃bb,ZaA c n s v w=bb:=⟨_,rfl⟩
   rw[hbb] at hix g2
   have hnx:=Zk hil (show L.length≤9223372036854775807 by omega)
   have hlb:Q.states.length+[PV.agg [pI bb.state,.str bb.values]].length≤4294967296∧[PV.agg [pI bb.state,.str bb.values]].all (Zau 2)=true:=⟨by simp;omega,rfl⟩
   have hla:∀t:Int,Q.flips.length+[PV.agg [pI (k:Int),pI (w:Int),pI t]].length≤4294967296∧[PV.agg [pI (k:Int),pI (w:Int),pI t]].all (Zau 3)=true:=fun t=>⟨by simp;omega,rfl⟩
   unfold Zr2 Zen
   rw[hbb]
   simp only[ePs] at hix g2
   by_cases c1:bb∈Q.states
   ·rw[if_neg (fun h=>h.1 c1),if_pos c1]
    rw[if_pos c1] at g2
    have hneg:decide (((Q.states.idxOf bb:Nat):Int)<0)=false:=by simp only[decide_eq_false_iff_not];omega
    simp only[ePr,List.length_map,ZY hil,hix,Z5,sp2,g2,hneg,hiw,Zpk,if_pos (hla _),hnx,List.map_append,List.map_cons,List.map_nil,eFl,EVS]
   ·rw[if_neg c1] at g2
    have hneg:decide ((-1:Int)<0)=true:=rfl
    by_cases c2:Q.states.length=600
    ·rw[if_pos ⟨c1,c2⟩]
     have h6:decide ((Q.states.length:Int)=600)=true:=by simp only[decide_eq_true_eq];omega
     simp only[ePr,List.length_map,ZY hil,hix,Z5,sp2,g2,hneg,h6,ZgK,EVS]
     rfl
    ·rw[if_neg (fun h=>c2 h.2),if_neg c1]
     have h6:decide ((Q.states.length:Int)=600)=false:=by simp only[decide_eq_false_iff_not];omega
     simp only[ePr,List.length_map,ZY hil,hix,Z5,sp2,g2,hneg,h6,hiw,Zpk,if_pos hlb,if_pos (hla _),hnx,List.map_append,List.map_cons,List.map_nil,eFl,EVS]
     rfl
  ·have hxx:X.length≤9223372036854775807:=by omega
   have hPe:=hP.ex
   simp only[List.length_map,Zav,EVS]
   refine (ZbD (R:=PV) X (fun (P:ProdG) i=>[ePr P,pI (Int.ofNat i)]) (fun i Q'=>Q'.states.length≤600∧Q'.extra.length=P.extra.length+i) (fun (P:ProdG) (_:Nat) (w:Nat)=>.inl ⟨P.states,P.flips,P.extra++[⟨(k:Int),(w:Int), -1⟩]⟩) (fun Q=>again [ePr Q,pI (Int.ofNat (k+1))]) _ hxx (fun Q' i w Q2 hi' hw he=> ?_) (fun again2 Q' i w hi' hw=> ?_) (fun again2 Q' hi'=> ?_) (b:=Q) ⟨hi.1,by rw[hi.2.2];rfl⟩).trans (Zqg k _ X 0 Q)
   ·cases he
    exact ⟨hi'.1,by simp;omega⟩
   ·have hil:=Zg hw
    have hiw:Zm (.lst (X.map eNn)) (.int .i64 (i:Int))=some (pI (w:Int)):=Zl (enc:=eNn) hw
    have hla:Q'.extra.length+[PV.agg [pI (k:Int),pI (w:Int),pI (-1)]].length≤4294967296∧[PV.agg [pI (k:Int),pI (w:Int),pI (-1)]].all (Zau 3)=true:=⟨by simp;omega,rfl⟩
    have hneg:(Int.negSucc 0)=(-1:Int):=rfl
    simp only[ePr,List.length_map,ZY hil,hiw,Zpk,hneg,if_pos hla,Zk hil hxx,List.map_append,List.map_cons,List.map_nil,eFl,EVS]
   ·simp only[Zav,Zk ck (show P.states.length≤9223372036854775807 by omega),EVS]
  ·by_cases c6:(inU c n k s v L P).states.length≤600
   ·have hx6:¬600<(exU k X (inU c n k s v L P)).states.length:=by show ¬600<(inU c n k s v L P).states.length;omega
    rw[if_pos c6,if_neg hx6]
    have hnx:=Pi.next h hP hb (by rw[hrd];exact hx6)
    rw[hrd] at hnx
    have hkl:k+1≤(exU k X (inU c n k s v L P)).states.length:=by
     have:=(ZgJ c n k s v L P).1
     show k+1≤(inU c n k s v L P).states.length
     omega
    have:=ih ⟨(exU k X (inU c n k s v L P),k+1),hnx,hkl⟩ (by simp only;omega)
    rw[show 601 - (k+1)=600 - k by omega] at this
    exact this
   ·rw[if_neg c6,if_pos (show 600<(exU k X (inU c n k s v L P)).states.length by show 600<(inU c n k s v L P).states.length;omega)]
    rfl
 ·obtain rfl:k=P.states.length:=by omega
  have hst:Zkx c n (601 - P.states.length) P.states.length P=some P:=by
   rw[show 601 - P.states.length=(600 - P.states.length)+1 by omega]
   show (match P.states[P.states.length]? with|none=>some P|some b=>_)=_
   rw[List.getElem?_eq_none (by omega)]
  rw[hst]
  simp only[ePr,List.length_map,Zav,Zak,ZgK,EVS]
  rfl
def Zqh (g:Nat→PV):Nat→List PSt→List (PV×PV)
 |_,[]=>[]
 |k,b::r=>(ePs b,g k)::Zqh g (k+1) r
theorem Zpl (g:Nat→PV) (a:PSt):∀(l:List PSt) (k:Nat),Zqh g k (l++[a])=Zqh g k l++[(ePs a,g (k+l.length))]
 |[],k=>rfl
 | x::r,k=>by
  show (ePs x,g k)::Zqh g (k+1) (r++[a])=_
  rw[Zpl g a r (k+1)]
  simp only[Zqh,List.length_cons,List.cons_append]
  rw[show k+1+r.length=k+(r.length+1) by omega]
theorem findP (g:Nat→PV) (s:PSt):∀(l:List PSt) (k i:Nat),Zey (some [(0,TD.int IntKind.i64),(1,TD.str)]) TD.struct (Zqh g k l) (.agg [pI s.state,.str s.values]) i=some (if s∈l then some (i+l.idxOf s,g (k+l.idxOf s)) else none)
 |[],k,i=>rfl
 | x::r,k,i=>by
  unfold Zqh Zey
  rw[show ePs x=.agg [pI x.state,.str x.values] from rfl,ZxF]
  by_cases c:x=s
  ·subst c
   simp
  ·have h:(x::r).idxOf s=r.idxOf s+1:=by rw[List.idxOf_cons,beq_eq_false_iff_ne.2 c];rfl
   have hm:s∈x::r↔s∈r:=by rw[List.mem_cons];exact ⟨fun h=>h.resolve_left (fun e=>c e.symm),.inr⟩
   simp only[obs,c,show ¬s=x from fun e=>c e.symm,decide_false,Bool.false_eq_true,if_false,findP g s r (k+1) (i+1),hm,h]
   by_cases c2:s∈r
   ·rw[if_pos c2,if_pos c2,show i+1+r.idxOf s=i+(r.idxOf s+1) by omega,show k+1+r.idxOf s=k+(r.idxOf s+1) by omega]
   ·rw[if_neg c2,if_neg c2]
theorem keyP (a:PSt):((eqV (some [(0,TD.int IntKind.i64),(1,TD.str)]) TD.struct (.agg [pI a.state,.str a.values]) (.agg [pI a.state,.str a.values])).elim false fun x=>true)=true:=by rw[ZxF];rfl
theorem ZxH (l:List (PV×PV)):Zrx (.map l)=some l:=rfl
theorem zpInt' :ZaW (TI.mk 1 8 (TD.int .i64) [ZC.int .i64] [] false)=.int .i64 0:=rfl
def ixP (l:List PSt):PV:=.map (Zqh (fun i=>pI i) 0 l)
theorem ZxI (l:List PSt) (a:PSt):PV.map (Zqh (fun i=>pI i) 0 l++[(.agg [pI a.state,.str a.values],pI (l.length:Int))])=ixP (l++[a]):=by
 unfold ixP
 rw[Zpl,Nat.zero_add]
 rfl
theorem Zpm {R:Type} (c:PSG) (n:PNet) (k s:Nat) (v:List UInt8) (e:ProdG→Option R):∀(l:List Nat) (i:Nat) (P:ProdG),Zax (fun (P:ProdG) (_:Nat) (w:Nat)=>.inl (Zen k P w (ZaA c n s v w))) e i P l=e (inU c n k s v l P)
 |[],i,P=>rfl
 |w::r,i,P=>Zpm c n k s v e r (i+1) _
theorem Zqi (c:PSG) (n:PNet) (h:Go1 c n):Zbv [Zck c n]=some (prR (Zky c n)):=by
 have g0:=ZrY c n h
 have hn24:=(Zcg h.net).2
 obtain ⟨f0,hf0⟩:∃f0,ZgH c n=f0:=⟨_,rfl⟩
 have p00:ZcN [PV.agg [pI f0.state,.str f0.values]] (.int .i64 ((0:Nat):Int))=some (.int .i64 ((0:Nat):Int)):=Zet (by simp)
 have hk0:=keyP f0
 have hix0:PV.map ([]++[(PV.agg [pI f0.state,.str f0.values],pI 0)])=ixP [f0]:=rfl
 simp only[Int.natCast_zero] at p00
 show (fun x0=>Zbv [x0]) _=_
 rw[Zia]
 rw[hf0] at g0
 simp only[Zck,ePs] at g0
 simp only[Zck,Znq,g0,ZgK,grp3,p00,Int.toNat_zero,List.getElem?_cons_zero,Z5,hk0,hix0,if_true,EVS]
 unfold Zky
 rw[hf0]
 refine (Zbb (R:=PV) (fun q:{q:ProdG×Nat // Pi c n q.2 q.1∧q.2≤q.1.states.length}=>[ixP q.1.1.states,ePr q.1.1,pI (Int.ofNat q.1.2)]) (fun q=>601 - q.1.2) (fun q=>some (prR (Zkx c n (601 - q.1.2) q.1.2 q.1.1))) _ (fun again q ih=> ?_) _ ⟨(⟨[f0],[],[]⟩,0),⟨fun x hx=>by rw[List.mem_singleton] at hx;subst hx;rw[←hf0];exact Zll h,by simp,by simp,by simp⟩,by simp⟩ (by simp only;omega))
 obtain ⟨⟨P,k⟩,hP,hk⟩:=q
 dsimp only at ih hP hk⊢
 have hlen:=hP.len
 by_cases ck:k<P.states.length
 ·obtain ⟨b,hb⟩:∃b,P.states[k]?=some b:=⟨P.states[k],List.getElem?_eq_getElem ck⟩
  obtain ⟨s,hbe,hs,hbits⟩:=(hP.ok b (List.mem_of_getElem? hb)).mk'
  obtain ⟨v,hv⟩:∃v,b.values=v:=⟨_,rfl⟩
  rw[hv] at hbe hbits
  subst hbe
  have g1:=Zns c n h s v hs hbits
  have g3:=Znt c n h s v hs hbits
  have p1:ZcN (P.states.map ePs) (.int .i64 (k:Int))=some (.int .i64 (k:Int)):=Zet (by rw[List.length_map];exact ck)
  have q1:(P.states.map ePs)[k]?=some (.agg [pI (s:Int),.str v]):=by rw[List.getElem?_map,hb];rfl
  have hcl:=Znu c n s v n.wires.length
  have hxl:=Zjw c n s v n.wires.length
  simp only[Zck,ePs] at g1 g3
  simp only[ePr,List.length_map,ZY ck,p1,q1,Int.toNat_natCast,Znq,Z5,g1,EVS]
  have hst:Zkx c n (601 - k) k P=if 600<(rdU c n k ⟨(s:Int),v⟩ P).states.length then none else Zkx c n (600 - k) (k+1) (rdU c n k ⟨(s:Int),v⟩ P):=by
   rw[show 601 - k=(600 - k)+1 by omega]
   show (match P.states[k]? with|none=>some P|some b=>_)=_
   rw[hb]
  rw[hst]
  obtain ⟨L,hL⟩:∃L,ZaK c n s v n.wires.length=L:=⟨_,rfl⟩
  obtain ⟨X,hX⟩:∃X,Zag c n s v n.wires.length=X:=⟨_,rfl⟩
  have hrd:rdU c n k ⟨(s:Int),v⟩ P=exU k X (inU c n k s v L P):=by unfold rdU;rw[Int.toNat_natCast,hL,hX]
  have hLok:∀w∈L,Zkw c n s v w=true:=fun w hw=>by rw[←hL] at hw;exact (Zms hw).2
  rw[hX] at g3
  rw[hrd,hL]
  rw[hL] at hcl
  rw[hX] at hxl
  refine (ZbD (R:=PV) L (fun (P:ProdG) i=>[ixP P.states,ePr P,pI (Int.ofNat i)]) (fun i Q=>(Q.states.length≤P.states.length+i∧Q.states[k]?=some ⟨(s:Int),v⟩)∧Q.flips.length=P.flips.length+i∧Q.extra=P.extra) (fun (P:ProdG) (_:Nat) (w:Nat)=>.inl (Zen k P w (ZaA c n s v w))) (fun Q=>if 600<Q.states.length then some (.tup [Zi3,pB false]) else again [ixP Q.states,ePr (exU k X Q),pI (Int.ofNat (k+1))]) _ (by omega) (fun Q i w Q' hi hw he=> ?_) (fun again1 Q i w hi hw=> ?_) (fun again1 Q hi=> ?_) (b:=P) ⟨⟨by omega,hb⟩,rfl,rfl⟩).trans ((Zpm c n k s v _ L 0 P).trans ?_)
  ·cases he
   obtain ⟨a1,a2,a3,a4⟩:=Zkz k Q w (ZaA c n s v w)
   exact ⟨⟨by omega,Zyz hi.1.2⟩,by omega,a4.trans hi.2.2⟩
  ·have hil:=Zg hw
   obtain ⟨⟨i1,i0⟩,i2,i3⟩:=hi
   have hPf:=hP.fl
   have hix:Zm (.lst (L.map fun k=>ePs (ZaA c n s v k))) (.int .i64 (i:Int))=some (ePs (ZaA c n s v w)):=Zl (enc:=fun k=>ePs (ZaA c n s v k)) hw
   have hiw:Zm (.lst (L.map eNn)) (.int .i64 (i:Int))=some (pI (w:Int)):=Zl (enc:=eNn) hw
   obtain ⟨bb,hbb⟩:∃bb,ZaA c n s v w=bb:=⟨_,rfl⟩
   rw[hbb] at hix
   have g2:=findP (fun i=>pI i) bb Q.states 0 0
   have hkk:=keyP bb
   have hnx:=Zk hil (show L.length≤9223372036854775807 by omega)
   have hlb:Q.states.length+[PV.agg [pI bb.state,.str bb.values]].length≤4294967296∧[PV.agg [pI bb.state,.str bb.values]].all (Zau 2)=true:=⟨by simp;omega,rfl⟩
   have hla:∀t:Int,Q.flips.length+[PV.agg [pI (k:Int),pI (w:Int),pI t]].length≤4294967296∧[PV.agg [pI (k:Int),pI (w:Int),pI t]].all (Zau 3)=true:=fun t=>⟨by simp;omega,rfl⟩
   unfold Zen
   rw[hbb]
   simp only[ePs] at hix
   by_cases c1:bb∈Q.states
   ·rw[if_pos c1]
    rw[if_pos c1] at g2
    simp only[Nat.zero_add] at g2
    simp only[ePr,ixP,List.length_map,ZY hil,hix,Z5,sp2,ZxH,hkk,g2,hiw,Zpk,Option.elim_some,if_pos (hla _),hnx,List.map_append,List.map_cons,List.map_nil,eFl,if_true,EVS]
   ·rw[if_neg c1]
    rw[if_neg c1] at g2
    have hN:=ZxI Q.states bb
    unfold ixP at hN
    simp only[ePr,ixP,List.length_map,ZY hil,hix,Z5,sp2,ZxH,hkk,g2,hiw,Zpk,zpInt',Option.elim_none,if_pos hlb,if_pos (hla _),hnx,hN,List.map_append,List.map_cons,List.map_nil,eFl,if_true,EVS]
    rfl
  ·obtain ⟨⟨i1,i0⟩,i2,i3⟩:=hi
   have hxx:X.length≤9223372036854775807:=by omega
   have hPe:=hP.ex
   have p2:ZcN (Q.states.map ePs) (.int .i64 (k:Int))=some (.int .i64 (k:Int)):=Zet (by rw[List.length_map];exact (List.getElem?_eq_some_iff.1 i0).1)
   have q2:(Q.states.map ePs)[k]?=some (.agg [pI (s:Int),.str v]):=by rw[List.getElem?_map,i0];rfl
   simp only[ePr,List.length_map,Zav,p2,q2,Int.toNat_natCast,Znq,Z5,g3,EVS]
   refine (ZbD (R:=PV) X (fun (P:ProdG) i=>[ePr P,pI (Int.ofNat i)]) (fun i Q'=>Q'.states=Q.states∧Q'.extra.length=P.extra.length+i) (fun (P:ProdG) (_:Nat) (w:Nat)=>.inl ⟨P.states,P.flips,P.extra++[⟨(k:Int),(w:Int), -1⟩]⟩) (fun Q'=>if 600<Q'.states.length then some (.tup [Zi3,pB false]) else again [ixP Q'.states,ePr Q',pI (Int.ofNat (k+1))]) _ hxx (fun Q' i w Q2 hi' hw he=> ?_) (fun again2 Q' i w hi' hw=> ?_) (fun again2 Q' hi'=> ?_) (b:=Q) ⟨rfl,by rw[i3];rfl⟩).trans (Zqg k _ X 0 Q)
   ·cases he
    exact ⟨hi'.1,by simp;omega⟩
   ·have hil:=Zg hw
    have p3:ZcN (X.map eNn) (.int .i64 (i:Int))=some (.int .i64 (i:Int)):=Zet (by rw[List.length_map];exact hil)
    have q3:(X.map eNn)[i]?=some (pI (w:Int)):=by rw[List.getElem?_map,hw];rfl
    have hla:Q'.extra.length+[PV.agg [pI (k:Int),pI (w:Int),pI (-1)]].length≤4294967296∧[PV.agg [pI (k:Int),pI (w:Int),pI (-1)]].all (Zau 3)=true:=⟨by simp;omega,rfl⟩
    have hneg:(Int.negSucc 0)=(-1:Int):=rfl
    simp only[ePr,List.length_map,ZY hil,p3,q3,Int.toNat_natCast,Zpk,hneg,if_pos hla,Zk hil hxx,List.map_append,List.map_cons,List.map_nil,eFl,EVS]
   ·have hks:=(List.getElem?_eq_some_iff.1 i0).1
    by_cases c6:600<Q'.states.length
    ·have c6':decide ((600:Int)<(Q'.states.length:Int))=true:=by simp only[decide_eq_true_eq];omega
     rw[if_pos c6]
     simp only[ePr,List.length_map,Zav,c6',ZgK,EVS]
     rfl
    ·have c6':decide ((600:Int)<(Q'.states.length:Int))=false:=by simp only[decide_eq_false_iff_not];omega
     rw[if_neg c6]
     rw[hi'.1] at c6'
     simp only[ePr,List.length_map,Zav,c6',Zk ck (show P.states.length≤9223372036854775807 by omega),hi'.1,EVS]
  ·by_cases c6:(inU c n k s v L P).states.length≤600
   ·have hx6:¬600<(exU k X (inU c n k s v L P)).states.length:=by show ¬600<(inU c n k s v L P).states.length;omega
    rw[if_neg (show ¬600<(inU c n k s v L P).states.length by omega),if_neg hx6]
    have hnx:=Pi.next h hP hb (by rw[hrd];exact hx6)
    rw[hrd] at hnx
    have hkl:k+1≤(exU k X (inU c n k s v L P)).states.length:=by
     have:=(ZgJ c n k s v L P).1
     show k+1≤(inU c n k s v L P).states.length
     omega
    have:=ih ⟨(exU k X (inU c n k s v L P),k+1),hnx,hkl⟩ (by simp only;omega)
    rw[show 601 - (k+1)=600 - k by omega] at this
    exact this
   ·rw[if_pos (show 600<(inU c n k s v L P).states.length by omega),if_pos (show 600<(exU k X (inU c n k s v L P)).states.length by show 600<(inU c n k s v L P).states.length;omega)]
    rfl
 ·obtain rfl:k=P.states.length:=by omega
  have hst:Zkx c n (601 - P.states.length) P.states.length P=some P:=by
   rw[show 601 - P.states.length=(600 - P.states.length)+1 by omega]
   show (match P.states[P.states.length]? with|none=>some P|some b=>_)=_
   rw[List.getElem?_eq_none (by omega)]
  rw[hst]
  simp only[ePr,List.length_map,Zav,Zak,ZgK,EVS]
  rfl
structure PrU (c:PSG) (n:PNet) (P:ProdG):Prop where
 ok:∀x∈P.states,StB c n x
 one:1≤P.states.length
 len:P.states.length≤600
 few:P.flips.length≤14400
 xfew:P.extra.length≤14400
 fl:∀f∈P.flips,0≤f.from_∧f.from_<P.states.length∧0≤f.to∧f.to<P.states.length∧0≤f.wire∧f.wire<n.wires.length
 xl:∀f∈P.extra,0≤f.from_∧f.from_<P.states.length∧f.to= -1∧0≤f.wire∧f.wire<n.wires.length
structure Pj (n:PNet) (P:ProdG):Prop where
 fl:∀f∈P.flips,0≤f.from_∧f.from_<P.states.length∧0≤f.to∧f.to<P.states.length∧0≤f.wire∧f.wire<n.wires.length
 xl:∀f∈P.extra,0≤f.from_∧f.from_<P.states.length∧f.to= -1∧0≤f.wire∧f.wire<n.wires.length
theorem Pj.add {n:PNet} {P:ProdG} (h:Pj n P) {k w:Nat} {b:PSt} (hk:k<P.states.length) (hw:w<n.wires.length):Pj n (Zen k P w b):=by
 unfold Zen
 split
 ·rename_i hm
  refine ⟨fun f hf=> ?_,h.xl⟩
  rcases List.mem_append.1 hf with hf|hf
  ·exact h.fl f hf
  ·rw[List.mem_singleton] at hf
   subst hf
   have:=List.idxOf_lt_length_of_mem hm
   dsimp only
   omega
 ·refine ⟨fun f hf=> ?_,fun f hf=> ?_⟩
  ·rcases List.mem_append.1 hf with hf|hf
   ·have:=h.fl f hf
    simp only[List.length_append,List.length_singleton]
    omega
   ·rw[List.mem_singleton] at hf
    subst hf
    simp only[List.length_append,List.length_singleton]
    omega
  ·have:=h.xl f hf
   simp only[List.length_append,List.length_singleton]
   omega
theorem Pj.ins {c:PSG} {n:PNet} {k s:Nat} {v:List UInt8}:∀(l:List Nat) (P:ProdG),Pj n P→k<P.states.length→(∀w∈l,w<n.wires.length)→Pj n (inU c n k s v l P)
 |[],P,h,_,_=>h
 | w::r,P,h,hk,hl=>by
  unfold inU
  refine Pj.ins r _ (h.add hk (hl w List.mem_cons_self)) ?_ fun x hx=>hl x (List.mem_cons_of_mem _ hx)
  have:=(Zkz k P w (ZaA c n s v w)).1
  omega
theorem Pj.rd {c:PSG} {n:PNet} {k:Nat} {b:PSt} {P:ProdG} (h:Pj n P) (hk:k<P.states.length):Pj n (rdU c n k b P):=by
 have h1:=Pj.ins (c:=c) (s:=b.state.toNat) (v:=b.values) (ZaK c n b.state.toNat b.values n.wires.length) P h hk fun w hw=>(Zms hw).1
 have h2:=(ZgJ c n k b.state.toNat b.values (ZaK c n b.state.toNat b.values n.wires.length) P).1
 unfold rdU exU
 refine ⟨h1.fl,fun f hf=> ?_⟩
 rcases List.mem_append.1 hf with hf|hf
 ·exact h1.xl f hf
 ·obtain ⟨w,hw,rfl⟩:=List.mem_map.1 hf
  unfold Zag at hw
  have:=List.mem_range.1 (List.mem_filter.1 hw).1
  dsimp only
  omega
theorem Zvc {c:PSG} {n:PNet} (h:Go1 c n):∀(f k:Nat) (P Q:ProdG),Pi c n k P→Pj n P→k≤P.states.length→1≤P.states.length→k+f≤601→Zkx c n f k P=some Q→PrU c n Q
 | 0,k,P,Q,hP,hj,hk,h1,hf,he=>by
  cases he
  have:=hP.fl
  have:=hP.ex
  have:=hP.len
  exact ⟨hP.ok,h1,hP.len,by omega,by omega,hj.fl,hj.xl⟩
 | f +1,k,P,Q,hP,hj,hk,h1,hf,he=>by
  unfold Zkx at he
  split at he
  ·cases he
   have:=hP.fl
   have:=hP.ex
   have:=hP.len
   exact ⟨hP.ok,h1,hP.len,by omega,by omega,hj.fl,hj.xl⟩
  ·rename_i b hb
   split at he
   ·cases he
   ·rename_i hl
    have hkl:=(List.getElem?_eq_some_iff.1 hb).1
    have hn:=Pi.next h hP hb hl
    have hm:=(ZgJ c n k b.state.toNat b.values (ZaK c n b.state.toNat b.values n.wires.length) P).1
    have hst:(rdU c n k b P).states=(inU c n k b.state.toNat b.values (ZaK c n b.state.toNat b.values n.wires.length) P).states:=rfl
    exact Zvc h f (k+1) _ Q hn (hj.rd hkl) (by rw[hst];omega) (by rw[hst];omega) (by omega) he
theorem ZxJ {c:PSG} {n:PNet} (h:Go1 c n) {P:ProdG} (he:Zky c n=some P):PrU c n P:=by
 unfold Zky at he
 exact Zvc h 601 0 _ P ⟨fun x hx=>by rw[List.mem_singleton] at hx;subst hx;exact Zll h,by simp,by simp,by simp⟩ ⟨by simp,by simp⟩ (by simp) (by simp) (by omega) he
theorem capsAB (a b:List PV):Zcz 2 (.tup [.agg a,.agg b])=some [.agg a,.agg b]:=by simp[Zcz,PV.parts,PV.isU]
def Znx {α:Type} (q:α→Bool):Nat→List α→List Nat
 |_,[]=>[]
 |k,b::r=>if q b=true then k::Znx q (k+1) r else Znx q (k+1) r
theorem Zny {R α:Type} (q:α→Bool) (e:List Nat→Option R):∀(l:List α) (k:Nat) (acc:List Nat),Zax (fun (acc:List Nat) (k:Nat) (b:α)=>.inl (if q b=true then acc++[k] else acc)) e k acc l=e (acc++Znx q k l)
 |[],k,acc=>by simp[Zax,Znx]
 | b::r,k,acc=>by
  show Zax _ e (k+1) (if q b=true then acc++[k] else acc) r=_
  rw[Zny q e r]
  show _=e (acc++(if q b=true then k::Znx q (k+1) r else Znx q (k+1) r))
  cases c:q b
  ·simp
  ·simp[List.append_assoc]
def ZkA (c:PSG) (s:Nat):Bool:=(List.range c.signals.length).any fun k=> !inAt' c k&&decide (0≤toC c s k)
where inAt' (c:PSG) (k:Nat):Bool:=match c.signals[k]? with|some x=>decide (x.2=1)|none=>false
def ZtM (n:PNet) (v:List UInt8):Bool:=decide (((ZaO (Zr n v) n.wires.length).length:Int)=0)
def Ze5 (c:PSG) (n:PNet) (b:PSt):Bool:=ZtM n b.values&&ZkA c b.state.toNat
def Zlm (c:PSG) (s:Nat) (a:PArc):Bool:=decide (a.from_=(s:Int))&& !ZkA.inAt' c a.sig.toNat
theorem ZxK {c:PSG} {n:PNet} (h:Go1 c n) {s:Nat} (hs:s<c.codes.length):(c.arcs.any (Zlm c s))=ZkA c s:=by
 rw[Bool.eq_iff_iff,List.any_eq_true]
 unfold ZkA
 rw[List.any_eq_true]
 constructor
 ·rintro ⟨a,ha,hq⟩
  unfold Zlm at hq
  rw[Bool.and_eq_true,decide_eq_true_eq] at hq
  obtain ⟨b1,b2,b3,b4,b5,b6⟩:=h.arcs a ha
  refine ⟨a.sig.toNat,List.mem_range.2 (by omega), ?_⟩
  rw[hq.2,Bool.true_and,decide_eq_true_eq]
  rcases ZhW h hs (show a.sig.toNat<c.signals.length by omega) with ⟨b,hb,h1,h2⟩|⟨h1,h2⟩
  ·have:=h.arcs b hb;omega
  ·exact absurd ⟨hq.1,by omega⟩ (h2 a ha)
 ·rintro ⟨k,hk,hq⟩
  rw[Bool.and_eq_true,decide_eq_true_eq] at hq
  have hkl:=List.mem_range.1 hk
  rcases ZhW h hs hkl with ⟨b,hb,h1,h2⟩|⟨h1,h2⟩
  ·refine ⟨b,hb, ?_⟩
   unfold Zlm
   rw[h1.1,h1.2,Int.toNat_natCast,hq.1,Bool.and_true,decide_eq_true_eq]
  ·omega
theorem ZtN (c:PSG) (n:PNet) (h:Go1 c n) (s:Nat) (hs:s<c.codes.length):Zg9 [eSG c,pI (s:Int)]=some (pB (ZkA c s)):=by
 have hl:=h.few
 show (fun x0 x1=>Zg9 [x0,x1]) _ _=_
 rw[ZsL]
 simp only[eSG,List.length_map,EVS]
 refine (congrArg (fun m:Option PV=>m.bind fun r=>if r.sc=true then some r else none) (Zab (R:=PV) c.arcs (fun _ a=> !Zlm c s a) (some (pB true)) (some (pB false)) _ (by omega) (fun again j a ha=> ?_) (fun again=> ?_))).trans ?_
 ·have hj:=Zg ha
  have hi:Zm (.lst (c.arcs.map Zap)) (.int .i64 (j:Int))=some (Zap a):=Zl ha
  obtain ⟨b1,b2,b3,b4,b5,b6⟩:=h.arcs a (List.mem_of_getElem? ha)
  obtain ⟨g,hg⟩:∃g:Nat,a.sig=g:=⟨a.sig.toNat,by omega⟩
  have hgl:g<c.signals.length:=by omega
  have hsg:Zm (.lst (c.signals.map Z6)) (.int .i64 (g:Int))=some (Z6 c.signals[g]):=Zl (List.getElem?_eq_getElem hgl)
  have hin:ZkA.inAt' c g=decide (c.signals[g].2=1):=by unfold ZkA.inAt';rw[List.getElem?_eq_getElem hgl]
  unfold Zlm
  rw[hg,Int.toNat_natCast,hin]
  simp only[Zap,hg] at hi
  cases c1:decide (a.from_=(s:Int))<;>cases c2:decide (c.signals[g].2=1)<;>simp only[ZY hj,Zk hj (show c.arcs.length≤9223372036854775807 by omega),hi,hg,Zap,c1,c2,hsg,List.drop_succ_cons,List.drop_zero,Bool.false_eq_true,if_false,if_true,EVS]
 ·simp only[Zav,EVS]
 ·rw[Zat,←ZxK h hs,List.any_eq_not_all_not]
  cases (c.arcs.all fun a=> !Zlm c s a)<;>rfl
theorem Zqj (c:PSG) (n:PNet) (h:Go1 c n) (s:Nat) (v:List UInt8) (hs:s<c.codes.length) (hb:ZZ v n.wires.length=true):ZeL [eSG c,Zz n,ePs ⟨s,v⟩]=some (pB (Ze5 c n ⟨s,v⟩)):=by
 obtain ⟨h1,h2,h3,h4,h5,h6⟩:=h.vals hb
 have g1:=ZhU n v h.fitn h2 h1 (by omega)
 have g2:=ZtN c n h s hs
 show (fun x0 x1 x2=>ZeL [x0,x1,x2]) _ _ _=_
 rw[ZoN]
 unfold Ze5 ZtM
 rw[Int.toNat_natCast]
 simp only[eSG,Zz] at g1 g2
 cases c1:decide (((ZaO (Zr n v) n.wires.length).length:Int)=0)<;>simp only[eSG,Zz,ePs,Z5,Zak,g1,g2,List.length_map,c1,EVS]
def misL (c:PSG) (n:PNet) (P:ProdG):List Nat:=Znx (Ze5 c n) 0 P.states
theorem Znz (c:PSG) (n:PNet) (h:Go1 c n) (P:ProdG) (hP:PrU c n P):ZdJ [eSG c,Zz n,ePr P]=some (.lst ((misL c n P).map eNn)):=by
 have hl:=hP.len
 show (fun x0 x1 x2=>ZdJ [x0,x1,x2]) _ _ _=_
 rw[Zl9]
 simp only[eSG,Zz,ePr,List.length_map,EVS]
 refine (ZbD (R:=PV) P.states (fun (acc:List Nat) i=>[.lst (acc.map eNn),pI (Int.ofNat i)]) (fun i acc=>acc.length≤i) (fun (acc:List Nat) k b=>.inl (if Ze5 c n b=true then acc++[k] else acc)) (fun l=>some (.lst (l.map eNn))) _ (by omega) (fun acc i f acc' hi hf he=> ?_) (fun again acc i b hi hf=> ?_) (fun again acc hi=> ?_) (b:=[]) (by simp)).trans (Zny (Ze5 c n) _ _ _ _)
 ·cases he
  split
  ·simp only[List.length_append,List.length_singleton];omega
  ·omega
 ·have hil:=Zg hf
  obtain ⟨s,hbe,hs,hbits⟩:=(hP.ok b (List.mem_of_getElem? hf)).mk'
  obtain ⟨v,hv⟩:∃v,b.values=v:=⟨_,rfl⟩
  rw[hv] at hbe hbits
  subst hbe
  have hix:Zm (.lst (P.states.map ePs)) (.int .i64 (i:Int))=some (ePs ⟨(s:Int),v⟩):=Zl hf
  have g:=Zqj c n h s v hs hbits
  have hlb:acc.length+[pI (i:Int)].length≤4294967296∧[pI (i:Int)].all (Zau 1)=true:=⟨by simp;omega,rfl⟩
  simp only[eSG,Zz,ePs] at g hix
  cases c1:Ze5 c n ⟨(s:Int),v⟩<;>rw[c1] at g<;>simp only[ZY hil,hix,Z5,Zak,sp2,g,if_pos hlb,Zk hil (show P.states.length≤9223372036854775807 by omega),List.map_append,List.map_cons,List.map_nil,eNn,Bool.false_eq_true,if_false,if_true,EVS]
 ·simp only[Zav,EVS]
def Zjx (c:PSG) (k:Nat):List Nat:=(List.range k).filter fun k=> !ZkA.inAt' c k
theorem Zr3 (c:PSG) (hl:c.signals.length≤8):Zfw [eSG c]=some (.lst ((Zjx c c.signals.length).map eNn)):=by
 show (fun x0=>Zfw [x0]) _=_
 rw[ZqA]
 simp only[eSG,List.length_map,EVS]
 refine (ZdX (R:=PV) 0 c.signals.length (fun k=>[.lst ((Zjx c k).map eNn),pI (Int.ofNat k)]) (some (.lst ((Zjx c c.signals.length).map eNn))) _ (by omega) (fun again k k1 k2=> ?_) (fun again=> ?_) (Nat.zero_le _) _ (by simp[Zjx]))
 ·have hsg:Zm (.lst (c.signals.map Z6)) (.int .i64 (k:Int))=some (Z6 c.signals[k]):=Zl (List.getElem?_eq_getElem k2)
  have hin:ZkA.inAt' c k=decide (c.signals[k].2=1):=by unfold ZkA.inAt';rw[List.getElem?_eq_getElem k2]
  have hcl:(Zjx c k).length≤k:=Zem _ k
  have hlb:(Zjx c k).length+[pI (k:Int)].length≤4294967296∧[pI (k:Int)].all (Zau 1)=true:=⟨by simp;omega,rfl⟩
  have hm:c.signals.length≤9223372036854775807:=by omega
  cases c1:decide (c.signals[k].2=1)<;>rw[c1] at hin
  ·have e1:Zjx c (k+1)=Zjx c k++[k]:=Zel (by rw[hin];rfl)
   simp only[ZY k2,hsg,sp2,Z5,c1,if_pos hlb,Zk k2 hm,e1,List.map_append,List.map_cons,List.map_nil,eNn,EVS]
  ·have e1:Zjx c (k+1)=Zjx c k:=Zde (by rw[hin];rfl)
   simp only[ZY k2,hsg,sp2,Z5,c1,Zk k2 hm,e1,EVS]
 ·simp only[Zav,EVS]
theorem drop5 (a b c d e f:PV):List.drop 5 [a,b,c,d,e,f]=[f]:=rfl
theorem Zqk (c:PSG) (n:PNet) (k s:Nat) (v:List UInt8) (hs:s<c.codes.length) (hk:k<c.signals.length) (A:PV) (hA:A=Zck c n):Zbx [pI (k:Int),A,ePs ⟨s,v⟩]=some (pB (decide (0≤toC c s k))):=by
 subst hA
 obtain ⟨row,r1,r2⟩:=Zkv c hs hk
 show (fun x0 x1 x2=>Zbx [x0,x1,x2]) _ _ _=_
 rw[Zih]
 simp only[Zck,ePs,drop5,List.drop_zero,r1,r2,EVS]
theorem ZhY (c:PSG) (n:PNet) (s:Nat) (v:List UInt8) (hs:s<c.codes.length) (l:List Nat) (hl:∀k∈l,k<c.signals.length) (h8:l.length≤8):
 ZD [.lst (l.map eNn),.tup [Zck c n,ePs ⟨s,v⟩]]=some (pI (ixf (fun k=>decide (0≤toC c s k)) 0 l)):=by
 show (fun x0 x1=>ZD [x0,x1]) _ _=_
 rw[ZbN]
 simp only[EVS]
 refine (congrArg (fun m:Option PV=>m.bind fun r=>if r.sc=true then some r else none) (ZdC l (fun k=>decide (0≤toC c s k)) _ (by omega) (fun again j k hx=> ?_) (fun again=> ?_))).trans ?_
 ·have hj:=Zg hx
  have hi:Zm (.lst (l.map eNn)) (.int .i64 (j:Int))=some (pI (k:Int)):=Zl (enc:=eNn) hx
  have g:=Zqk c n k s v hs (hl k (List.mem_of_getElem? hx)) _ rfl
  simp only[Zck,ePs] at g
  cases c1:decide (0≤toC c s k)<;>rw[c1] at g<;>simp only[Zck,ePs,List.length_map,ZY hj,Zk hj (show l.length≤9223372036854775807 by omega),hi,capsAB,g,List.append_nil,List.cons_append,List.nil_append,Bool.false_eq_true,if_false,if_true,EVS]
 ·simp only[List.length_map,Zav,EVS]
  rfl
 ·simp only[EVS]
theorem Zf8 (c:PSG) (n:PNet) (s:Nat) (v:List UInt8) (hs:s<c.codes.length) (l:List Nat) (hl:∀k∈l,k<c.signals.length) (h8:l.length≤8):
 Zw [.lst (l.map eNn),.tup [Zck c n,ePs ⟨s,v⟩]]=some (pB (l.any fun k=>decide (0≤toC c s k))):=by
 have g:=ZhY c n s v hs l hl h8
 show (fun x0 x1=>Zw [x0,x1]) _ _=_
 rw[Zbl]
 simp only[g,Ze6 (fun k=>decide (0≤toC c s k)) l 0,EVS]
 rw[Zat,List.any_eq_not_all_not]
theorem ZtO (c:PSG) (n:PNet) (h:Go1 c n) (s:Nat) (v:List UInt8) (hs:s<c.codes.length) (hb:ZZ v n.wires.length=true):Zcr [Zck c n,ePs ⟨s,v⟩]=some (pB (Ze5 c n ⟨s,v⟩)):=by
 obtain ⟨h1,h2,h3,h4,h5,h6⟩:=h.vals hb
 have hsm:=h.smany
 have g1:=Zlj n v h.fitn h2 h1 (by omega)
 have g2:=Zr3 c hsm
 have hol:(Zjx c c.signals.length).length≤8:=by have:=Zem (fun k=> !ZkA.inAt' c k) c.signals.length;unfold Zjx;omega
 have g3:=Zf8 c n s v hs (Zjx c c.signals.length) (fun k hk=>List.mem_range.1 (List.mem_filter.1 hk).1) hol
 have hany:((Zjx c c.signals.length).any fun k=>decide (0≤toC c s k))=ZkA c s:=by
  unfold Zjx ZkA
  rw[List.any_filter]
 rw[hany] at g3
 show (fun x0 x1=>Zcr [x0,x1]) _ _=_
 rw[ZjQ]
 unfold Ze5 ZtM
 rw[Int.toNat_natCast]
 have hpv:Zb true 0 3 [PV.lst (c.signals.map Z6),.lst (c.codes.map PV.str),.lst (c.arcs.map Zap),.lst (n.signals.map Z6),.lst (n.wires.map Z9),.lst ((ZlN c).map Zq1)]=some (.agg [.lst (c.signals.map Z6),.lst (c.codes.map PV.str),.lst (c.arcs.map Zap)]):=rfl
 simp only[eSG,Zz,Zck,ePs] at g1 g2 g3
 cases c1:ZkA c s<;>rw[c1] at g3<;>cases c2:decide (((ZaO (Zr n v) n.wires.length).length:Int)=0)<;>simp only[Zck,ePs,hpv,Zlk,g1,g2,g3,c2,List.drop_zero,List.length_map,EVS]
theorem Zr4 (c:PSG) (n:PNet) (h:Go1 c n) (P:ProdG) (hP:PrU c n P):Zb1 [Zck c n,ePr P]=some (.lst ((misL c n P).map eNn)):=by
 have hl:=hP.len
 show (fun x0 x1=>Zb1 [x0,x1]) _ _=_
 rw[ZiR]
 simp only[Zck,ePr,List.length_map,EVS]
 refine (ZbD (R:=PV) P.states (fun (acc:List Nat) i=>[.lst (acc.map eNn),pI (Int.ofNat i)]) (fun i acc=>acc.length≤i) (fun (acc:List Nat) k b=>.inl (if Ze5 c n b=true then acc++[k] else acc)) (fun l=>some (.lst (l.map eNn))) _ (by omega) (fun acc i f acc' hi hf he=> ?_) (fun again acc i b hi hf=> ?_) (fun again acc hi=> ?_) (b:=[]) (by simp)).trans (Zny (Ze5 c n) _ _ _ _)
 ·cases he
  split
  ·simp only[List.length_append,List.length_singleton];omega
  ·omega
 ·have hil:=Zg hf
  obtain ⟨s,hbe,hs,hbits⟩:=(hP.ok b (List.mem_of_getElem? hf)).mk'
  obtain ⟨v,hv⟩:∃v,b.values=v:=⟨_,rfl⟩
  rw[hv] at hbe hbits
  subst hbe
  have hix:Zm (.lst (P.states.map ePs)) (.int .i64 (i:Int))=some (ePs ⟨(s:Int),v⟩):=Zl hf
  have g:=ZtO c n h s v hs hbits
  have hlb:acc.length+[pI (i:Int)].length≤4294967296∧[pI (i:Int)].all (Zau 1)=true:=⟨by simp;omega,rfl⟩
  simp only[Zck,ePs] at g hix
  cases c1:Ze5 c n ⟨(s:Int),v⟩<;>rw[c1] at g<;>simp only[ZY hil,hix,Z5,Znq,sp2,g,if_pos hlb,Zk hil (show P.states.length≤9223372036854775807 by omega),List.map_append,List.map_cons,List.map_nil,eNn,Bool.false_eq_true,if_false,if_true,EVS]
 ·simp only[Zav,EVS]
theorem Zr5 :∀(x y:List UInt8),Op.bytesLess x y=decide (x<y)
 |[],[]=>by simp[Op.bytesLess]
 |_::_,[]=>by simp[Op.bytesLess]
 |[],_::_=>by simp[Op.bytesLess]
 | a::x,b::y=>by
  unfold Op.bytesLess
  rw[Zr5 x y]
  simp only[List.cons_lt_cons_iff]
  by_cases h1:a<b<;>by_cases h2:a=b<;>by_cases h3:x<y<;>simp[h1,h2,h3]
def Za7 (a b:PSt):Bool:=decide (a.state<b.state)||(decide (a.state=b.state)&&decide (a.values<b.values))
theorem Zf9 (a b:PSt):Za7 a b=true↔a.state<b.state∨(a.state=b.state∧a.values<b.values):=by
 unfold Za7
 simp
theorem ZlO {a b c:PSt} (h1:Za7 a b=true) (h2:Za7 b c=true):Za7 a c=true:=by
 rw[Zf9] at *
 rcases h1 with h1|⟨h1,h3⟩<;>rcases h2 with h2|⟨h2,h4⟩
 ·left;omega
 ·left;omega
 ·left;omega
 ·exact .inr ⟨by omega,List.lt_trans h3 h4⟩
theorem Zql (a:PSt):Za7 a a=false:=by
 cases h:Za7 a a with
 |false=>rfl
 | true=>
  rw[Zf9] at h
  rcases h with h|⟨_,h⟩
  ·omega
  ·exact absurd h (List.lt_irrefl _)
def Rises (l:List PSt):Prop:=∀(i j:Nat) (x y:PSt),i<j→l[i]?=some x→l[j]?=some y→Za7 x y=true
structure Hlv (l:List PSt) (b:PSt) (lo hi:Nat):Prop where
 le:lo≤hi
 top:hi≤l.length
 low:∀(i:Nat) (x:PSt),i<lo→l[i]?=some x→Za7 x b=true
 high:∀(i:Nat) (x:PSt),hi≤i→l[i]?=some x→Za7 x b=false
theorem Hlv.up {l:List PSt} {b:PSt} {lo hi m:Nat} {x:PSt} (h:Hlv l b lo hi) (hr:Rises l) (h1:lo≤m) (h2:m<hi) (hx:l[m]?=some x) (hl:Za7 x b=true):Hlv l b (m+1) hi:=
 ⟨h2,h.top,fun i y hi' hy=>by
  by_cases e:i=m
  ·rw[e,hx] at hy;cases hy;exact hl
  ·exact ZlO (hr i m y x (by omega) hy hx) hl,h.high⟩
theorem Hlv.start (l:List PSt) (b:PSt):Hlv l b 0 l.length:=⟨Nat.zero_le _,Nat.le_refl _,fun i x h _=>by omega,fun i x h hx=>by have:=Zg hx;omega⟩
theorem Zr6 (a b:PSt):ZfH [ePs a,ePs b]=some (pB (Za7 a b)):=by
 show (fun x0 x1=>ZfH [x0,x1]) _ _=_
 rw[ZqU]
 unfold Za7
 cases c1:decide (a.state<b.state)<;>cases c2:decide (a.state=b.state)<;>simp only[ePs,Z5,c1,c2,Zr5,EVS]
def Zot {α:Type} (lt:α→α→Bool) (x:α):List α→List α
 |[]=>[x]
 |y::r=>if lt x y=true then y::Zot lt x r else x::y::r
def Zjy {α:Type} (lt:α→α→Bool) (x:α) (l:List α):List α:=(Zot lt x l.reverse).reverse
def Zfr {α:Type} (lt:α→α→Bool) (l:List α):List α:=l.foldl (fun a x=>Zjy lt x a) []
theorem Zln {α:Type} (lt:α→α→Bool) (x:α):∀l:List α,(Zot lt x l).Perm (x::l)
 |[]=>List.Perm.refl _
 | y::r=>by
  unfold Zot
  split
  ·exact ((Zln lt x r).cons y).trans (List.Perm.swap x y r)
  ·exact List.Perm.refl _
theorem Zpn {α:Type} (lt:α→α→Bool) (x:α) (l:List α):(Zjy lt x l).Perm (x::l):=
 (List.reverse_perm _).trans ((Zln lt x _).trans ((List.reverse_perm l).cons x))
structure Strict {α:Type} (lt:α→α→Bool):Prop where
 irr:∀x,lt x x=false
 tr:∀x y z,lt x y=true→lt y z=true→lt x z=true
 tot:∀x y,lt x y=false→x≠y→lt y x=true
theorem ZlP {α:Type} {lt:α→α→Bool} (h:Strict lt) (x:α):∀l:List α,x∉l→l.Pairwise (fun a b=>lt b a=true)→(Zot lt x l).Pairwise (fun a b=>lt b a=true)
 |[],_,_=>by unfold Zot;simp
 | y::r,hx,hs=>by
  rw[List.pairwise_cons] at hs
  unfold Zot
  split
  ·rename_i hxy
   rw[List.pairwise_cons]
   refine ⟨fun z hz=> ?_,ZlP h x r (fun hm=>hx (List.mem_cons_of_mem _ hm)) hs.2⟩
   rcases List.mem_cons.1 ((Zln lt x r).subset hz) with rfl|hz
   ·exact hxy
   ·exact hs.1 z hz
  ·rename_i hxy
   have hyx:lt y x=true:=h.tot x y (by simpa using hxy) (fun e=>hx (by rw[e];exact List.mem_cons_self))
   rw[List.pairwise_cons,List.pairwise_cons]
   refine ⟨fun z hz=> ?_,hs.1,hs.2⟩
   rcases List.mem_cons.1 hz with rfl|hz
   ·exact hyx
   ·exact h.tr _ _ _ (hs.1 z hz) hyx
theorem Zr7 {α:Type} {lt:α→α→Bool} (h:Strict lt) (x:α) (l:List α) (hx:x∉l) (hs:l.Pairwise (fun a b=>lt a b=true)):(Zjy lt x l).Pairwise (fun a b=>lt a b=true):=by
 unfold Zjy
 rw[List.pairwise_reverse]
 exact ZlP h x _ (by simpa using hx) (by rw[List.pairwise_reverse];exact hs)
theorem ZnA {α:Type} {lt:α→α→Bool} (h:Strict lt):∀(l a:List α),a.Pairwise (fun a b=>lt a b=true)→(a++l).Nodup→(l.foldl (fun a x=>Zjy lt x a) a).Pairwise (fun a b=>lt a b=true)∧(l.foldl (fun a x=>Zjy lt x a) a).Perm (a++l)
 |[],a,hs,_=>⟨hs,by simp⟩
 | x::r,a,hs,hn=>by
  have hxa:x∉a:=fun hm=>(List.nodup_append.1 hn).2.2 x hm x List.mem_cons_self rfl
  have hp:(Zjy lt x a++r).Perm (a++x::r):=((Zpn lt x a).append_right r).trans List.perm_middle.symm
  obtain ⟨h1,h2⟩:=ZnA h r (Zjy lt x a) (Zr7 h x a hxa hs) (hp.nodup_iff.2 hn)
  exact ⟨h1,h2.trans hp⟩
theorem Zjz {α:Type} {lt:α→α→Bool} (h:Strict lt) (l:List α) (hn:l.Nodup):(Zfr lt l).Pairwise (fun a b=>lt a b=true)∧(Zfr lt l).Perm l:=by
 have:=ZnA h l [] List.Pairwise.nil (by simpa using hn)
 unfold Zfr
 simpa using this
theorem ZnB {α:Type} {lt:α→α→Bool} (h:Strict lt):∀(a b:List α),a.Pairwise (fun a b=>lt a b=true)→b.Pairwise (fun a b=>lt a b=true)→a.Perm b→a=b
 |[],b,_,_,hp=>by have:=hp.length_eq;simp at this;exact (List.eq_nil_of_length_eq_zero this.symm).symm
 |x::r,[],_,_,hp=>by have:=hp.length_eq;simp at this
 | x ::r,y::s,ha,hb,hp=>by
  rw[List.pairwise_cons] at ha hb
  have hxy:x=y:=by
   by_cases e:x=y
   ·exact e
   ·exfalso
    have h1:x∈y::s:=hp.subset List.mem_cons_self
    have h2:y∈x::r:=hp.symm.subset List.mem_cons_self
    rcases List.mem_cons.1 h1 with h1|h1
    ·exact e h1
    rcases List.mem_cons.1 h2 with h2|h2
    ·exact e h2.symm
    have:=h.tr _ _ _ (ha.1 y h2) (hb.1 x h1)
    rw[h.irr] at this;cases this
  subst hxy
  rw[ZnB h r s ha.2 hb.2 hp.cons_inv]
def Zeo (c:PSG) (n:PNet):Option ProdG:=if goP c n=true then Zky c n else none
theorem Zga {c:PSG} {n:PNet} (hc:SGFit c) (hn:n.Fit) {P:ProdG} (h:Zeo c n=some P):goP c n=true∧PrU c n P:=by
 unfold Zeo at h
 split at h
 ·rename_i hg;exact ⟨hg,ZxJ (ZhV hg hc hn) h⟩
 ·cases h
theorem ZkB (c:PSG) (n:PNet) (hc:SGFit c) (hn:n.Fit):Zes [eSG c,Zz n]=some (prR (Zeo c n)):=by
 have g0:=Zwl c n hc hn
 show (fun x0 x1=>Zes [x0,x1]) _ _=_
 rw[ZqS]
 unfold Zeo
 cases c0:goP c n
 ·rw[c0] at g0
  simp only[eSG,Zz] at g0
  simp only[eSG,Zz,Z5,Zak,g0,ZgK,Bool.false_eq_true,if_false,EVS]
  rfl
 ·rw[c0] at g0
  have g1:=Znw c n (ZhV c0 hc hn)
  simp only[eSG,Zz] at g0 g1
  rw[if_pos rfl]
  cases hp:Zky c n with
  | none=>
   rw[hp] at g1
   simp only[prR,Zi3] at g1
   simp only[eSG,Zz,Z5,Zak,g0,g1,ZgK,EVS]
   rfl
  | some P=>
   rw[hp] at g1
   simp only[prR,ePr] at g1
   simp only[eSG,Zz,Z5,Zak,g0,g1,ZgK,EVS]
   rfl
theorem ZhZ (c:PSG) (n:PNet) (hc:SGFit c) (hn:n.Fit):Zc6 [eSG c,Zz n]=some (match Zeo c n with|some P=>.tup [Zck c n,ePr P,pB true]|none=>.tup [if goP c n=true then Zck c n else zSys,Zi3,pB false]):=by
 have g0:=Zos c n hc hn
 show (fun x0 x1=>Zc6 [x0,x1]) _ _=_
 rw[ZnX]
 unfold Zeo
 cases c0:goP c n
 ·rw[c0] at g0
  simp only[eSG,Zz,zSys,Bool.false_eq_true,if_false] at g0
  simp only[eSG,Zz,Z5,Zak,g0,Zpi,Znq,ZgK,Bool.false_eq_true,if_false,EVS]
  rfl
 ·rw[c0] at g0
  have g1:=Zqi c n (ZhV c0 hc hn)
  simp only[eSG,Zz,Zck,if_true] at g0
  simp only[Zck] at g1
  rw[if_pos rfl]
  cases hp:Zky c n with
  | none=>
   rw[hp] at g1
   simp only[prR,Zi3] at g1
   simp only[eSG,Zz,Z5,Zak,g0,g1,Zpi,Znq,ZgK,EVS]
   rfl
  | some P=>
   rw[hp] at g1
   simp only[prR,ePr] at g1
   simp only[eSG,Zz,Z5,Zak,g0,g1,Zpi,Znq,ZgK,EVS]
   rfl
def okC (c:PSG) (n:PNet):Bool:=(Zeo c n).isSome
def cfP (c:PSG) (n:PNet):Bool:=match Zeo c n with|some P=>decide ((P.extra.length:Int)=0)&&decide (((misL c n P).length:Int)=0)|none=>false
theorem Zou (c:PSG) (n:PNet) (hc:SGFit c) (hn:n.Fit):ZeM [eSG c,Zz n]=some (.tup [pB (cfP c n),pB (okC c n)]):=by
 have g0:=ZkB c n hc hn
 show (fun x0 x1=>ZeM [x0,x1]) _ _=_
 rw[ZoP]
 unfold cfP okC
 cases hp:Zeo c n with
 | none=>
  rw[hp] at g0
  simp only[eSG,Zz,prR,Zi3] at g0
  simp only[eSG,Zz,Z5,Zak,g0,ZgK,EVS]
  rfl
 | some P=>
  obtain ⟨hg,hP⟩:=Zga hc hn hp
  have g1:=Znz c n (ZhV hg hc hn) P hP
  rw[hp] at g0
  simp only[eSG,Zz,prR,ePr] at g0 g1
  cases c1:decide ((P.extra.length:Int)=0)<;>simp only[eSG,Zz,Z5,Zak,g0,g1,ZgK,List.length_map,c1,Option.isSome,EVS]<;>rfl
theorem Zov (c:PSG) (n:PNet) (hc:SGFit c) (hn:n.Fit):ZeH [eSG c,Zz n]=some (.tup [pB (cfP c n),pB (okC c n)]):=by
 have g0:=ZhZ c n hc hn
 show (fun x0 x1=>ZeH [x0,x1]) _ _=_
 rw[ZoF]
 unfold cfP okC
 cases hp:Zeo c n with
 | none=>
  rw[hp] at g0
  cases c0:goP c n<;>rw[c0] at g0<;>simp only[eSG,Zz,Zi3,zSys,Zck,Bool.false_eq_true,if_false,if_true] at g0<;>simp only[eSG,Zz,Z5,Zak,g0,Zpi,ZgK,EVS]<;>rfl
 | some P=>
  obtain ⟨hg,hP⟩:=Zga hc hn hp
  have g1:=Zr4 c n (ZhV hg hc hn) P hP
  rw[hp] at g0
  simp only[eSG,Zz,ePr,Zck] at g0 g1
  cases c1:decide ((P.extra.length:Int)=0)<;>simp only[eSG,Zz,Z5,Zak,Znq,g0,g1,Zpi,ZgK,List.length_map,c1,Option.isSome,EVS]<;>rfl
theorem Zr8 {α:Type} (lt:α→α→Bool) (x:α):∀(u v:List α),(∀y∈u,lt x y=true)→(∀y,v.head?=some y→lt x y=false)→Zot lt x (u++v)=u++x::v
 |[],[],_,_=>rfl
 | [],y::r,_,hv=>by
  have:=hv y rfl
  simp[Zot,this]
 | z::u,v,hu,hv=>by
  have hz:=hu z List.mem_cons_self
  simp only[List.cons_append,Zot,hz,if_true]
  rw[Zr8 lt x u v (fun y hy=>hu y (List.mem_cons_of_mem _ hy)) hv]
theorem Zvd {α:Type} (lt:α→α→Bool) (x:α) (l:List α) (i:Nat) (hi:i≤l.length) (h1:∀(j:Nat) (y:α),i≤j→l[j]?=some y→lt x y=true) (h2:i=0∨∃y,l[i - 1]?=some y∧lt x y=false):Zjy lt x l=l.take i++x::l.drop i:=by
 unfold Zjy
 have e:l.reverse=(l.drop i).reverse++(l.take i).reverse:=by rw[←List.reverse_append,List.take_append_drop]
 rw[e,Zr8]
 ·simp
 ·intro y hy
  rw[List.mem_reverse] at hy
  obtain ⟨j,hj⟩:=List.mem_iff_getElem?.1 hy
  rw[List.getElem?_drop] at hj
  exact h1 (i+j) y (by omega) hj
 ·intro y hy
  rw[List.head?_reverse] at hy
  rcases h2 with rfl|⟨z,hz,hl⟩
  ·simp at hy
  ·by_cases c:i=0
   ·subst c;simp at hy
   ·have:(l.take i).getLast?=l[i - 1]?:=by
     rw[List.getLast?_eq_getElem?,List.length_take,Nat.min_eq_left hi,List.getElem?_take]
     simp;omega
    rw[this,hz] at hy
    cases hy
    exact hl
def srP (c:PSG) (n:PNet):List PSt×Bool:=match Zeo c n with
 |some P=>if cfP c n=true then (Zfr Za7 P.states,true) else ([],false)
 |none=>([],false)
def Zep (l:List PSt) (b:PSt) (i:Nat):List PSt:=l.take i++(l.getD i b)::l.drop i
theorem Zr9 (l:List PSt) (b:PSt) (i:Nat) (h:i≤l.length):(Zep l b i).length=l.length+1:=by
 unfold Zep;simp;omega
theorem ZxL (l:List PSt) (b:PSt):Zep l b l.length=l++[b]:=by
 unfold Zep;simp
theorem Zwa (l:List PSt) (b:PSt) (i:Nat) (h:i<l.length):(Zep l b (i+1))[i]?=some l[i]:=by
 unfold Zep
 rw[List.getElem?_append_left (by simp;omega),List.getElem?_take]
 simp[h]
theorem Zwb (l:List PSt) (b:PSt) (i:Nat) (h:i<l.length):(Zep l b (i+1)).set (i+1) l[i]=Zep l b i:=by
 unfold Zep
 have e1:(l.take (i+1)).length=i+1:=by simp;omega
 rw[List.set_append_right _ _ (by omega),e1,Nat.sub_self,List.set_cons_zero,List.getD_eq_getElem?_getD,List.getElem?_eq_getElem h,Option.getD_some]
 rw[List.take_succ_eq_append_getElem h,List.append_assoc]
 congr 1
 rw[List.drop_eq_getElem_cons h]
 rfl
theorem Zwc (l:List PSt) (b:PSt) (i:Nat) (h:i≤l.length):(Zep l b i).set i b=l.take i++b::l.drop i:=by
 unfold Zep
 have e1:(l.take i).length=i:=by simp;omega
 rw[List.set_append_right _ _ (by omega),e1,Nat.sub_self,List.set_cons_zero]
theorem sp22 (a b c d:PV):splice [a,b] 0 [c,d]=[c,d]:=rfl
theorem Zpo {R:Type} (e:List PSt→Option R):∀(l:List PSt) (k:Nat) (a:List PSt),Zax (R:=R) (fun a _ x=>.inl (Zjy Za7 x a)) e k a l=e (l.foldl (fun a x=>Zjy Za7 x a) a)
 |[],k,a=>rfl
 | x::r,k,a=>by
  unfold Zax
  exact Zpo e r (k+1) _
theorem ZxM {α:Type} (lt:α→α→Bool) (x:α) (l:List α):(Zjy lt x l).length=l.length+1:=by
 have:=(Zpn lt x l).length_eq
 simpa using this
theorem Zgb (c:PSG) (n:PNet) (hc:SGFit c) (hn:n.Fit):ZaS [eSG c,Zz n]=some (.tup [.lst ((srP c n).1.map ePs),pB (srP c n).2]):=by
 have g0:=ZkB c n hc hn
 have g1:=Zou c n hc hn
 show (fun x0 x1=>ZaS [x0,x1]) _ _=_
 rw[Zgn]
 unfold srP
 simp only[eSG,Zz] at g0 g1⊢
 cases hp:Zeo c n with
 | none=>
  have hcf:cfP c n=false:=by unfold cfP;rw[hp]
  have hok:okC c n=false:=by unfold okC;rw[hp];rfl
  rw[hp] at g0
  rw[hcf,hok] at g1
  simp only[prR,Zi3,Z5,Zak,g0,g1,EVS]
  try rfl
 | some P=>
  have hok:okC c n=true:=by unfold okC;rw[hp];rfl
  rw[hp] at g0
  rw[hok] at g1
  have hpr:=(Zga hc hn hp).2
  simp only[prR,ePr] at g0
  cases hcf:cfP c n
  ·rw[hcf] at g1
   simp only[Z5,Zak,g0,g1,Bool.false_eq_true,if_false,EVS]
   try rfl
  ·rw [hcf] at g1
   have h600:P.states.length≤600:=hpr.len
   simp only[Z5,Zak,g0,g1,List.length_map,if_true,EVS]
   refine ((ZbD (R:=PV) P.states (fun (a:List PSt) k=>[.lst (a.map ePs),pI (Int.ofNat k)]) (fun k a=>a.length=k) (fun (a:List PSt) k b=>.inl (Zjy Za7 b a)) (fun a=>some (.tup [.lst (a.map ePs),pB true])) _ (by omega) (fun a k b a' hi hf he=> ?_) (fun again a k b hi hf=> ?_) (fun again a hi=> ?_) (b:=[]) rfl).trans (Zpo _ _ _ _)).trans ?_
   ·cases he;rw[ZxM,hi]
   ·have hk:=Zg hf
    have hix:Zm (.lst (P.states.map ePs)) (.int .i64 (k:Int))=some (ePs b):=Zl hf
    have hla:(a.map ePs).length+[ePs b].length≤4294967296∧[ePs b].all (Zau 2)=true:=⟨by simp;omega,rfl⟩
    have hps:a.map ePs++[ePs b]=(Zep a b a.length).map ePs:=by rw[ZxL];simp
    dsimp only
    simp only[ZY hk,hix,ePs,sp22,List.length_map,EVS]
    have hif:(if a.length+[PV.agg [PV.int IntKind.i64 b.state,PV.str b.values]].length≤4294967296∧[PV.agg [PV.int IntKind.i64 b.state,PV.str b.values]].all (Zau 2)=true then some (PV.lst (List.map ePs a++[PV.agg [PV.int IntKind.i64 b.state,PV.str b.values]])) else none)=some (.lst ((Zep a b a.length).map ePs)):=by
     rw[if_pos ⟨by simp;omega,rfl⟩]
     exact congrArg (fun l=>some (PV.lst l)) hps
    rw[hif]
    simp only[EVS]
    refine Zbb (R:=PV) (fun q:{q:Nat // q≤a.length∧∀(j:Nat) (y:PSt),q≤j→a[j]?=some y→Za7 b y=true}=>[.lst ((Zep a b q.1).map ePs),pI (Int.ofNat q.1)]) (fun q=>q.1) (fun _=>again [.lst ((Zjy Za7 b a).map ePs),pI (Int.ofNat (k+1))]) _ (fun again' q ih=> ?_) _ ⟨a.length,Nat.le_refl _,fun j y h1 h2=>by have:=Zg h2;omega⟩ (by simp only;omega)
    obtain ⟨i,hia,hall⟩:=q
    dsimp only at ih⊢
    obtain ⟨z,hz⟩:∃z,(Zep a b i)[i]?=some z:=⟨(Zep a b i)[i]'(by rw[Zr9 a b i hia];omega),List.getElem?_eq_getElem _⟩
    have hRl:=Zr9 a b i hia
    have hfill:=Zwc a b i hia
    obtain ⟨R,hR⟩:∃R,Zep a b i=R:=⟨_,rfl⟩
    rw[hR] at hz hRl hfill⊢
    have p1:ZcN (R.map ePs) (.int .i64 (i:Int))=some (.int .i64 (i:Int)):=Zet (by rw[List.length_map];omega)
    have q1:(R.map ePs)[i]?=some (ePs z):=by rw[List.getElem?_map,hz];rfl
    have hse:∀x:PSt,Za1 0 2 [PV.int IntKind.i64 z.state,PV.str z.values] (.agg [PV.int IntKind.i64 z.state,PV.str z.values]) (.agg [PV.int IntKind.i64 x.state,PV.str x.values])=some (.agg [PV.int IntKind.i64 x.state,PV.str x.values]):=fun x=>rfl
    have hst:∀x:PSt,(R.map ePs).set i (.agg [PV.int IntKind.i64 x.state,PV.str x.values])=(R.set i x).map ePs:=fun x=>by rw[List.map_set];rfl
    simp only[ePs] at q1
    by_cases c0:i=0
    ·subst c0
     have hins:=Zvd Za7 b a 0 (Nat.zero_le _) (fun j y h1 h2=>hall j y (Nat.zero_le _) h2) (.inl rfl)
     rw[←hins] at hfill
     have hgt:decide ((0:Int)<(0:Int))=false:=rfl
     simp only[Int.natCast_zero] at p1
     simp only[Zk hk (show P.states.length≤9223372036854775807 by omega),hgt,p1,q1,Int.toNat_zero,hse,hst,hfill,List.length_map,Bool.false_eq_true,if_false,EVS]
    ·obtain ⟨i',rfl⟩:∃i',i=i'+1:=⟨i - 1,by omega⟩
     have hi':i'<a.length:=by omega
     have hpv:=Zwa a b i' hi'
     have hdn:=Zwb a b i' hi'
     rw[hR] at hpv hdn
     have hgt:decide ((0:Int)<((i'+1:Nat):Int))=true:=by simp only[decide_eq_true_eq];omega
     have hsub:IntKind.i64.wrap (((i'+1:Nat):Int) - 1)=(i':Int):=by rw[Zda (by omega) (by omega)];omega
     have p2:ZcN (R.map ePs) (.int .i64 (i':Int))=some (.int .i64 (i':Int)):=Zet (by rw[List.length_map];omega)
     have q2:(R.map ePs)[i']?=some (ePs a[i']):=by rw[List.getElem?_map,hpv];rfl
     have gl:=Zr6 b a[i']
     simp only[ePs] at q2 gl
     cases cl:Za7 b a[i']
     ·have hins:=Zvd Za7 b a (i'+1) hia hall (.inr ⟨a[i'],by simp[hi'],cl⟩)
      rw[←hins] at hfill
      simp only[Zk hk (show P.states.length≤9223372036854775807 by omega),hgt,hsub,p1,q1,p2,q2,gl,cl,Int.toNat_natCast,hse,hst,hfill,List.length_map,Z5,Bool.false_eq_true,if_false,EVS]
     ·have hnext:=ih ⟨i',by omega,fun j y h1 h2=>by
       by_cases e:j=i'
       ·subst e;rw[List.getElem?_eq_getElem hi'] at h2;cases h2;exact cl
       ·exact hall j y (by omega) h2⟩ (by simp only;omega)
      simp only[hgt,hsub,p1,q1,p2,q2,gl,cl,Int.toNat_natCast,hse,hst,hdn,List.length_map,Z5,if_true,EVS]
      exact hnext
   ·simp only[Zav,EVS]
   ·rfl
theorem ZxN {k:Nat} {P:ProdG} {w:Nat} {b:PSt} (h:P.states.Nodup):(Zen k P w b).states.Nodup:=by
 unfold Zen
 split
 ·exact h
 ·rename_i hm
  refine List.nodup_append.2 ⟨h,by simp,fun x hx y hy e=> ?_⟩
  rw[List.mem_singleton] at hy
  subst hy
  exact hm (e▸hx)
theorem Zve {c:PSG} {n:PNet} {k s:Nat} {v:List UInt8}:∀(l:List Nat) (P:ProdG),P.states.Nodup→(inU c n k s v l P).states.Nodup
 |[],P,h=>h
 | w::r,P,h=>by
  unfold inU
  exact Zve r _ (ZxN h)
theorem Zsa {c:PSG} {n:PNet}:∀(f k:Nat) (P Q:ProdG),P.states.Nodup→Zkx c n f k P=some Q→Q.states.Nodup
 |0,k,P,Q,h,he=>by cases he;exact h
 | f +1,k,P,Q,h,he=>by
  unfold Zkx at he
  split at he
  ·cases he;exact h
  ·split at he
   ·cases he
   ·rename_i b _ _
    exact Zsa f (k+1) (rdU c n k b P) Q (show (inU c n k b.state.toNat b.values (ZaK c n b.state.toNat b.values n.wires.length) P).states.Nodup from Zve _ P h) he
theorem ZnC {c:PSG} {n:PNet} {P:ProdG} (he:Zeo c n=some P):P.states.Nodup:=by
 unfold Zeo at he
 split at he
 ·exact Zsa 601 0 _ _ (by simp) he
 ·cases he
def unP (p:Zj4):PSt:=⟨p.1.1,p.1.2⟩
theorem Zsb :∀l:List PSt,(∀x∈l,0≤x.state∧x.state≤4611686018427387904)→∃zs:List Zj4,ZqW (l.map ePs)=some zs∧zs.map unP=l
 |[],_=>⟨[],rfl,rfl⟩
 | x::r,h=>by
  obtain ⟨zs,h1,h2⟩:=Zsb r fun y hy=>h y (List.mem_cons_of_mem _ hy)
  have hx:=h x List.mem_cons_self
  refine ⟨⟨(x.state,x.values),hx⟩::zs, ?_, ?_⟩
  ·show (if h:0≤x.state∧x.state≤4611686018427387904 then (ZqW (r.map ePs)).map (⟨(x.state,x.values),h⟩::·) else none)=_
   rw[dif_pos hx,h1]
   rfl
  ·rw[List.map_cons,h2];rfl
theorem ZdB :Strict Za7:=⟨Zql,fun _ _ _=>ZlO,fun x y h hne=>by
 rw[Zf9]
 have h':¬Za7 x y=true:=by rw[h];simp
 rw[Zf9] at h'
 obtain ⟨a,s⟩:=x
 obtain ⟨b,t⟩:=y
 simp only[PSt.mk.injEq,not_or,not_and] at h' hne⊢
 rcases Int.lt_trichotomy b a with c|c|c
 ·exact .inl c
 ·subst c
  exact .inr ⟨rfl,by
   have h3:=List.not_lt.1 (h'.2 rfl)
   rcases List.le_iff_lt_or_eq.1 h3 with h4|h4
   ·exact h4
   ·exact absurd h4.symm (fun e:s=t=>hne (by rw[e]))⟩
 ·exact absurd c h'.1⟩
theorem ZxO (p q:Zj4):Go.Proofs.ltOf cmP p q=Za7 (unP p) (unP q):=by
 have h1:=ZqX p q
 have h2:=Zf9 (unP p) (unP q)
 unfold unP at *
 rw[Bool.eq_iff_iff,h1,h2]
theorem Zwd (zs:List Zj4) (hn:(zs.map unP).Nodup):(zs.mergeSort fun x y=> !(Go.Proofs.ltOf cmP) y x).map unP=Zfr Za7 (zs.map unP):=by
 obtain ⟨i1,i2⟩:=Zjz ZdB _ hn
 have hp:=(List.mergeSort_perm zs fun x y=> !(Go.Proofs.ltOf cmP) y x).map unP
 have hnd:((zs.mergeSort fun x y=> !(Go.Proofs.ltOf cmP) y x).map unP).Nodup:=hp.nodup_iff.2 hn
 refine ZnB ZdB _ _ ?_ i1 (hp.trans i2.symm)
 have hs:=List.pairwise_mergeSort (le:=fun x y:Zj4=> !(Go.Proofs.ltOf cmP) y x) (fun a b c h1 h2=>by
  simp only[Bool.not_eq_true'] at *
  exact swoP.ntrans c b a h2 h1) (fun a b=>by
  cases h1:Go.Proofs.ltOf cmP b a
  ·simp
  ·cases h2:Go.Proofs.ltOf cmP a b
   ·simp
   ·have:=swoP.trans _ _ _ h1 h2
    rw[swoP.irrefl] at this;cases this) zs
 rw[List.pairwise_map]
 rw[List.Nodup,List.pairwise_map] at hnd
 refine (hs.and hnd).imp fun {a b} h=> ?_
 have h1:Za7 (unP b) (unP a)=false:=by rw[←ZxO];simpa using h.1
 exact ZdB.tot _ _ h1 fun e=>h.2 e.symm
theorem Zwe (l:List PSt) (hn:l.Nodup) (hr:∀x∈l,0≤x.state∧x.state≤4611686018427387904) (hl:l.length≤4294967296):ZqY [.lst (l.map ePs)]=some (.lst ((Zfr Za7 l).map ePs)):=by
 obtain ⟨zs,h1,h2⟩:=Zsb l hr
 have hzl:zs.length≤4294967296:=by rw[←h2,List.length_map] at hl;exact hl
 show ((ZqW (l.map ePs)).bind fun zs=>if zs.length≤4294967296 then some (PV.lst ((zs.mergeSort fun x y=> !(Go.Proofs.ltOf cmP) y x).map fSP)) else none)=_
 rw[h1,Option.bind_some,if_pos hzl,←h2,←Zwd zs (by rw[h2];exact hn),List.map_map]
 rfl
theorem Zpp {R α:Type} (e:List α→Option R):∀(l:List α) (i:Nat) (acc:List α),Zax (fun (acc:List α) (_:Nat) (w:α)=>.inl (acc++[w])) e i acc l=e (acc++l)
 |[],i,acc=>by unfold Zax;simp
 | x::r,i,acc=>by
  unfold Zax
  refine (Zpp e r _ _).trans ?_
  simp
theorem Zgc (c:PSG) (n:PNet) (hc:SGFit c) (hn:n.Fit):ZaQ [eSG c,Zz n]=some (.tup [.lst ((srP c n).1.map ePs),pB (srP c n).2]):=by
 have g0:=Zov c n hc hn
 have g1:=ZhZ c n hc hn
 show (fun x0 x1=>ZaQ [x0,x1]) _ _=_
 rw[Zgj]
 unfold srP
 cases hp:Zeo c n with
 | none=>
  have hcf:cfP c n=false:=by unfold cfP;rw[hp]
  have hok:okC c n=false:=by unfold okC;rw[hp];rfl
  rw[hcf,hok] at g0
  simp only[eSG,Zz] at g0
  simp only[eSG,Zz,Z5,Zak,g0,ZgK,grp3,PV.parts,EVS]
  try rfl
 | some P=>
  have hok:okC c n=true:=by unfold okC;rw[hp];rfl
  rw[hok] at g0
  obtain ⟨hg,hP⟩:=Zga hc hn hp
  have hnd:=ZnC hp
  rw[hp] at g1
  simp only[eSG,Zz,ePr,Zck] at g0 g1
  cases hcf:cfP c n
  ·rw[hcf] at g0
   simp only[eSG,Zz,Z5,Zak,g0,ZgK,grp3,PV.parts,Bool.false_eq_true,if_false,EVS]
   try rfl
  ·rw [hcf] at g0
   have h600:P.states.length≤600:=hP.len
   have hsort:=Zwe P.states hnd (fun x hx=>by
    obtain ⟨s,h1,h2,_⟩:=hP.ok x hx
    have:=(ZhV hg hc hn).many
    omega) (by omega)
   simp only[eSG,Zz,Z5,Zak,Znq,g0,g1,Zpi,ZgK,List.length_map,grp3,PV.parts,if_true,EVS]
   have hsg:ZK [.lst (P.states.map ePs)]=some (.lst ((Zfr Za7 P.states).map ePs)):=hsort
   refine (ZbD (R:=PV) P.states (fun (acc:List PSt) k=>[.lst (acc.map ePs),pI (Int.ofNat k)]) (fun k acc=>acc=P.states.take k) (fun acc _ f=>.inl (acc++[f])) (fun acc=>some (.tup [.lst ((Zfr Za7 P.states).map ePs),pB true])) _ (by omega) (fun acc k s acc' hi hx he=> ?_) (fun again acc k s hi hx=> ?_) (fun again acc hi=> ?_) (b:=[]) rfl).trans (Zpp _ _ _ _)
   ·cases he;rw[hi,List.take_succ_eq_append_getElem (Zg hx)];rw[(List.getElem?_eq_some_iff.1 hx).2]
   ·have hk:=Zg hx
    have hal:acc.length=k:=by rw[hi,List.length_take];omega
    have hix:Zm (.lst (P.states.map ePs)) (.int .i64 (k:Int))=some (ePs s):=Zl hx
    have hps:acc.map ePs++[ePs s]=(acc++[s]).map ePs:=by simp
    have hif:(if acc.length+[PV.agg [PV.int IntKind.i64 s.state,PV.str s.values]].length≤4294967296∧[PV.agg [PV.int IntKind.i64 s.state,PV.str s.values]].all (Zau 2)=true then some (PV.lst (List.map ePs acc++[PV.agg [PV.int IntKind.i64 s.state,PV.str s.values]])) else none)=some (PV.lst ((acc++[s]).map ePs)):=by
     rw[if_pos ⟨by simp;omega,rfl⟩]
     exact congrArg (fun l=>some (PV.lst l)) hps
    simp only[ZY hk,Zk hk (show P.states.length≤9223372036854775807 by omega),hix,ePs,Int.toNat_natCast,List.length_map,Z5,sp22,EVS]
    rw[hif]
    try rfl
   ·have hal:acc=P.states:=by rw[hi,List.take_length]
    subst hal
    simp only[Zav,hsg,EVS]
theorem srP_in {c:PSG} {n:PNet} (hc:SGFit c) (hn:n.Fit):∀b∈(srP c n).1,0≤b.state∧b.state<300∧b.values.length≤24:=fun b hb=>by
 unfold srP at hb
 cases hp:Zeo c n with
 |none=>rw[hp] at hb;cases hb
 | some P=>
  rw[hp] at hb
  obtain ⟨hg,hP⟩:=Zga hc hn hp
  have h1:=ZhV hg hc hn
  cases hcf:cfP c n
  ·rw[hcf] at hb;cases hb
  ·rw[hcf] at hb
   simp only[if_true] at hb
   have hm:=(Zjz ZdB _ (ZnC hp)).2.subset hb
   obtain ⟨s,e1,e2,e3⟩:=hP.ok b hm
   have e4:=(Zcg h1.net).2
   have e5:(b.values.length:Int)=(n.wires.length:Int):=by
    unfold ZZ at e3
    simp only[Bool.and_eq_true,decide_eq_true_eq] at e3
    exact e3.2
   have:=h1.many
   omega
theorem ZyB {c:PSG} {n:PNet} (hc:SGFit c) (hn:n.Fit):(srP c n).1.length≤600:=by
 unfold srP
 cases hp:Zeo c n with
 |none=>simp
 | some P=>
  obtain ⟨hg,hP⟩:=Zga hc hn hp
  cases hcf:cfP c n
  ·simp
  ·simp only[if_true]
   rw[(Zjz ZdB _ (ZnC hp)).2.length_eq]
   exact hP.len
end Go.Proofs.YtkgnjijonikchaaGreat
