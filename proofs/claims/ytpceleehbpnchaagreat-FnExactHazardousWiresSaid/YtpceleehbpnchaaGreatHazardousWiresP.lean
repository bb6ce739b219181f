import Derived.Test.YtpceleehbpnchaaGreatHazardousWiresP1
import Derived.Test.YtpceleehbpnchaaGreatData
import Derived.Test.YtpceleehbpnchaaGreatDistPure
import Derived.Test.YtpceleehbpnchaaGreatSysPure
import Derived.Test.YtpceleehbpnchaaGreatWayPure
namespace Go.Proofs.YtpceleehbpnchaaGreat
open Go.RowKit
set_option linter.unusedVariables false
set_option linter.unusedSimpArgs false
theorem Zxc (c:PSG) (hl:c.arcs.length≤4000):Zim [eSG c]=some (.lst ((Zjb Zs4 c).map wE)):=by
 show (fun x0=>Zim [x0]) _=_
 rw[ZvR]
 simp only[eSG,EVS]
 refine (ZaI (R:=PV) c.arcs (fun (acc:List (Nat×Nat)) i=>[.lst (acc.map wE),pI (Int.ofNat i)]) (fun i acc=>acc.length≤i * 4000) (fun acc i a=>.inl (ZdG Zs4 i a (i+1) acc (c.arcs.drop (i+1)))) (fun acc=>some (.lst (acc.map wE))) _ (by omega) (fun acc i a acc' hi hx he=> ?_) (fun again acc i a hi hx=> ?_) (fun again acc hi=> ?_) (b:=[]) (by simp)).trans (Zja _ _ _ _ _ _)
 ·cases he
  have:=Zk5 Zs4 i a (c.arcs.drop (i+1)) (i+1) acc
  simp at this
  omega
 ·have hk:=Ze hx
  have hi':Zk (.lst (c.arcs.map Z2)) (.int .i64 (i:Int))=some (Z2 a):=Zj hx
  have hnx:=Zi hk (show c.arcs.length≤9223372036854775807 by omega)
  simp only[List.length_map,Zr hk,hnx,hi',Z2,EVS]
  refine (Zu3 (R:=PV) c.arcs (fun (acc:List (Nat×Nat)) k=>[.lst (acc.map wE),pI (Int.ofNat k)]) (fun k acc=>acc.length≤i * 4000+k) (fun acc k b=>.inl (if Zs4 a b=true then acc++[(i,k)] else acc)) (fun acc=>again [.lst (acc.map wE),pI (Int.ofNat (i+1))]) _ (by omega) (fun acc k b acc' hi hx he=> ?_) (fun again' acc k b hi2 hx2=> ?_) (fun again' acc hi=> ?_) (b:=acc) (k:=i+1) (show i+1≤c.arcs.length from hk) (show acc.length≤i * 4000+(i+1) from Nat.le_trans hi (Nat.le_add_right _ _))).trans (Zi9 _ _ _ _ _ _ _)
  ·cases he
   show (if Zs4 a b=true then acc++[(i,k)] else acc).length≤i * 4000+(k+1)
   have hi:acc.length≤i * 4000+k:=hi
   cases Zs4 a b
   ·rw[if_neg (by decide)];omega
   ·rw[if_pos rfl,List.length_append,List.length_singleton];omega
  ·have hk2:=Ze hx2
   have hj:Zk (.lst (c.arcs.map Z2)) (.int .i64 (k:Int))=some (Z2 b):=Zj hx2
   have hla:acc.length+[PV.lst [pI (i:Int),pI (k:Int)]].length≤4294967296∧[PV.lst [pI (i:Int),pI (k:Int)]].all (Zal 1)=true:=⟨by simp;omega,rfl⟩
   have hps:acc.map wE++[PV.lst [pI (i:Int),pI (k:Int)]]=(acc++[(i,k)]).map wE:=by simp[wE]
   unfold Zs4
   simp only[List.length_map,Zr hk2,Zi hk2 (show c.arcs.length≤9223372036854775807 by omega),hj,Z2,EVS]
   have hok:([PV.lst [pI (i:Int),pI (k:Int)]].all fun x=>Zal 1 x)=true:=rfl
   cases c1:decide (a.from_=b.from_)<;>cases c2:decide (a.sig=b.sig)<;>cases c3:decide (0≤a.sig)<;>cases c4:decide (a.to_=b.to_)<;>simp only[c1,c2,c3,c4,if_pos hla,hps,if_pos hok,EVS]
  ·simp only[List.length_map,ZV,hnx,EVS]
 ·simp only[List.length_map,ZV,EVS]
theorem ZjZ {c:PSG} (h:sgV c=true):Zhc c=true∧Zs0 c=true∧ZhB c=true∧Zi5 c=true:=by
 unfold sgV at h
 simp only[Bool.and_eq_true] at h
 exact ⟨h.1.1,h.1.2,h.2.1,h.2.2⟩
theorem Zu5 {c:PSG} (h:sgV c=true):c.arcs.length≤4000:=by
 have:=(ZjZ h).1
 unfold Zhc at this
 simp only[Bool.and_eq_true,Bool.not_eq_true',decide_eq_false_iff_not] at this
 omega
def ZyN (c:PSG) (n:PNet):Bool:=((!ZhC c.arcs)&&decide (((Zjb Zk4 c).length:Int)=0))&&decide (c.signals=n.signals)
def goP (c:PSG) (n:PNet):Bool:=(sgV c&&Zdm n)&&ZyN c n
theorem ZzC (c:PSG) (n:PNet) (hc:SGFit c) (hn:n.Fit):Zj7 [eSG c,Zo n]=some (pB (goP c n)):=by
 have g1:=Zxa c hc
 have g2:=ZnP n hn
 show (fun x0 x1=>Zj7 [x0,x1]) _ _=_
 rw[Zxy]
 unfold goP ZyN
 simp only[eSG,Zo] at g1 g2
 cases c1:sgV c
 ·rw[c1] at g1;simp only[eSG,Zo,ZK,ZR,g1,EVS]
 cases c2:Zdm n
 ·rw[c1] at g1;rw[c2] at g2;simp only[eSG,Zo,ZK,ZR,g1,g2,EVS]
 rw[c1] at g1;rw[c2] at g2
 have g3:=Zs3 c hc.arcs
 rw[Zxb (ZjZ c1).2.2.1] at g3
 have g4:=Zxc c (Zu5 c1)
 rw[ZCd (ZjZ c1).2.2.1] at g4
 have g5:=Zmp c.signals n.signals hc.sigs
 simp only[eSG] at g3 g4
 cases c3:ZhC c.arcs
 ·rw[c3] at g3
  cases c4:decide (((Zjb Zk4 c).length:Int)=0)
  ·simp only[eSG,Zo,ZK,ZR,g1,g2,g3,g4,c4,List.length_map,EVS]
  ·simp only[eSG,Zo,ZK,ZR,g1,g2,g3,g4,g5,c4,List.length_map,EVS]
 ·rw[c3] at g3;simp only[eSG,Zo,ZK,ZR,g1,g2,g3,EVS]
theorem Zk6 (c:PSG) (n:PNet) (hc:SGFit c) (hn:n.Fit):Zbq [eSG c,Zo n]=some (.tup [pB (goP c n),pB (sgV c&&Zdm n)]):=by
 have g1:=ZiB c hc
 have g2:=ZfQ n hn
 rw[←ZBd] at g2
 have g3:=Zbw c.arcs hc.arcs
 have g5:=Zhe c.signals n.signals hc.sigs
 show (fun x0 x1=>Zbq [x0,x1]) _ _=_
 rw[Zll]
 unfold goP ZyN
 simp only[eSG,Zo] at g1 g2
 cases c1:sgV c
 ·rw[c1] at g1;simp only[eSG,Zo,ZK,ZR,g1,EVS];rfl
 cases c2:Zdm n
 ·rw[c1] at g1;rw[c2] at g2;simp only[eSG,Zo,ZK,ZR,g1,g2,EVS];rfl
 rw[c1] at g1;rw[c2] at g2
 have g4:=Zu4 c (Zu5 c1)
 simp only[eSG] at g4
 cases c3:ZhC c.arcs
 ·rw[c3] at g3
  cases c4:decide (((Zjb Zk4 c).length:Int)=0)
  ·simp only[eSG,Zo,ZK,ZR,g1,g2,g3,g4,c4,List.length_map,EVS];rfl
  ·simp only[eSG,Zo,ZK,ZR,g1,g2,g3,g4,g5,c4,List.length_map,EVS];rfl
 ·rw[c3] at g3;simp only[eSG,Zo,ZK,ZR,g1,g2,g3,EVS];rfl
theorem Zel {R:Type} (a b:Nat) (st:Nat→List PV) (e:Option R) (f:(List PV→Option R)→List PV→Option R) (hm:b≤9223372036854775807)
 (h1:∀again k,a≤k→k<b→f again (st k)=again (st (k+1)))
 (h2:∀again,f again (st b)=e) (hab:a≤b) (J:List PV) (hJ:st a=J):Zm f 18446744073709551616 J=e:=by
 subst hJ
 have key:=ZaP (R:=R) (fun k:{k:Nat // a≤k∧k≤b}=>st k.1) (fun k=>b+1 - k.1) (fun _=>e) f (fun again k ih=> ?_) 18446744073709551616 ⟨a,Nat.le_refl _,hab⟩ (by simp only;omega)
 ·exact key
 ·obtain ⟨k,hk,hk2⟩:=k
  dsimp only at ih⊢
  by_cases c:k<b
  ·rw[h1 again k hk c]
   exact ih ⟨k+1,by omega,c⟩ (by simp only;omega)
  ·obtain rfl:k=b:=by omega
   exact h2 again
def ZaX (good:Nat→Bool) (k:Nat):List Int:=((List.range k).filter good).map fun (i:Nat)=>Int.ofNat i
theorem Zk7 (good:Nat→Bool) (k:Nat):(ZaX good k).length≤k:=by
 unfold ZaX
 rw[List.length_map]
 exact Nat.le_trans (List.length_filter_le _ _) (by simp)
theorem ZpQ {good:Nat→Bool} {k:Nat} (h:good k=true):ZaX good (k+1)=ZaX good k++[(k:Int)]:=by
 unfold ZaX
 rw[List.range_succ,List.filter_append]
 simp[h]
theorem ZrW {good:Nat→Bool} {k:Nat} (h:good k=false):ZaX good (k+1)=ZaX good k:=by
 unfold ZaX
 rw[List.range_succ,List.filter_append]
 simp[h]
def Zp (n:PNet) (s:List UInt8) (k:Nat):Bool:=match n.wires[k]? with|some w=>ZfS n s k w !=Zha s k|none=>false
theorem Zjc (n:PNet) (s:List UInt8) (hn:n.Fit) (hs:ZA s) (hv:Zfk n s=true) (hb:n.wires.length≤1048576):ZcX [Zo n,.str s]=some (.lst ((ZaX (Zp n s) n.wires.length).map pI)):=by
 show (fun x0 x1=>ZcX [x0,x1]) _ _=_
 rw[Zoe]
 simp only[Zo,EVS]
 refine (congrArg (fun m:Option PV=>m) (Zel (R:=PV) 0 n.wires.length (fun k=>[.lst ((ZaX (Zp n s) k).map pI),pI (Int.ofNat k)]) (some (.lst ((ZaX (Zp n s) n.wires.length).map pI))) _ (by omega) (fun again k h1 h2=> ?_) (fun again=> ?_) (Nat.zero_le _) _ (by simp[ZaX]))).trans ?_
 ·have ha:=ZBf n s k hn hs hv h2
  have a1:=ZnT n s k _ ha
  simp only[Zo] at a1
  have hk:k<s.length:=ha.lt
  have hby:=Zq (k:=.i64) (List.getElem?_eq_getElem hk)
  have ho:Zha s k=decide ((s[k].toNat:Int)=49):=by unfold Zha;rw[List.getElem?_eq_getElem hk]
  have he:Zp n s k=(ZfS n s k n.wires[k] !=Zha s k):=by unfold Zp;rw[List.getElem?_eq_getElem h2]
  have hl:(ZaX (Zp n s) k).length+[pI (k:Int)].length≤4294967296∧[pI (k:Int)].all (Zal 1)=true:=⟨by have:=Zk7 (Zp n s) k;simp;omega,rfl⟩
  have he':(!ZfS n s k n.wires[k]==decide ((s[k].toNat:Int)=49))=Zp n s k:=by rw[he,ho];rfl
  have hm:n.wires.length≤9223372036854775807:=by omega
  simp only[Zr h2,hby,a1,he',EVS]
  cases hE:Zp n s k
  ·simp only[Zi h2 hm,ZrW hE,EVS]
  ·simp only[if_pos hl,Zi h2 hm,ZpQ hE,List.map_append,List.map_cons,List.map_nil,EVS]
 ·simp only[ZV,EVS]
 ·rfl
theorem ZdV (n:PNet) (s:List UInt8) (k:Nat) (hn:n.Fit) (hs:ZA s) (hv:Zfk n s=true) (h2:k<n.wires.length):ZaF [Zo n,.str s,pI k]=some (pB (Zp n s k)):=by
 have ha:=ZBf n s k hn hs hv h2
 have a1:=Zmm n s k _ ha
 simp only[Zo] at a1
 have hk:k<s.length:=ha.lt
 have hby:=Zq (k:=.i64) (List.getElem?_eq_getElem hk)
 have he:Zp n s k=(ZfS n s k n.wires[k] !=decide ((s[k].toNat:Int)=49)):=by unfold Zp Zha;rw[List.getElem?_eq_getElem h2,List.getElem?_eq_getElem hk]
 have hbit:ZfR s[k]=true:=by
  unfold Zfk Z1 at hv
  simp only[Bool.and_eq_true] at hv
  exact ZjV _ _ _ hv.2.1 k _ (List.getElem?_eq_getElem hk)
 unfold ZfR at hbit
 simp only[Bool.or_eq_true,decide_eq_true_eq] at hbit
 show (fun x0 x1 x2=>ZaF [x0,x1,x2]) _ _ _=_
 rw[Zlf]
 simp only[Zo,a1,hby,ZyH,he,EVS]
 cases ZfS n s k n.wires[k]<;>rcases hbit with h|h<;>rw[h]<;>rfl
def ZgJ (n:PNet) (v:List UInt8) (k:Nat):Bool:=match n.wires[k]? with|some w=>ZfS n v k w|none=>false
def Zhf (n:PNet):Nat→Nat→List UInt8→List UInt8
 |0,_,v=>v
 |c+1,k,v=>Zhf n c (k+1) (v.set k (Zf7 (ZgJ n v k)))
def ZeA (n:PNet) (code:List UInt8):List UInt8:=Zhf n (n.wires.length - n.signals.length) n.signals.length (code++List.replicate (n.wires.length - n.signals.length) 48)
theorem ZaQ {n:PNet} (h:Zdm n=true):n.signals.length≤n.wires.length∧n.wires.length≤24:=by
 unfold Zdm at h
 simp only[Bool.and_eq_true,Bool.not_eq_true',decide_eq_false_iff_not] at h
 omega
theorem ZyO {n:PNet} {v:List UInt8} {k:Nat} (hn:n.Fit) (hv:Zdm n=true) (hb:Z1 v n.wires.length=true) (hk:k<n.wires.length):At n v k n.wires[k]∧ZfS n v k n.wires[k]=ZgJ n v k:=by
 have hl:=(ZaN.1 hb).2
 refine ⟨ZBf n v k hn (by unfold ZA;have:=(ZaQ hv).2;omega) (by unfold Zfk;rw[hv,hb];rfl) hk, ?_⟩
 unfold ZgJ
 rw[List.getElem?_eq_getElem hk]
theorem ZqT (n:PNet) (code:List UInt8) (hn:n.Fit) (hv:Zdm n=true) (hc:Z1 code n.signals.length=true):ZeO [Zo n,.str code]=some (.str (ZeA n code)):=by
 obtain ⟨hs1,hs2⟩:=ZaQ hv
 have hcl:=(ZaN.1 hc).2
 obtain ⟨N,hN⟩:∃N,n.wires.length=N:=⟨_,rfl⟩
 obtain ⟨m,hm⟩:∃m,n.signals.length=m:=⟨_,rfl⟩
 show (fun x0 x1=>ZeO [x0,x1]) _ _=_
 rw[Zql]
 simp only[Zo,EVS]
 have key:=ZaP (R:=PV) (fun j:{j:Nat // j≤N - m}=>[.str (code++List.replicate j.1 48)]) (fun j=>N - m+1 - j.1) (fun _=>some (.str (ZeA n code)))
 have key':∀f:(List PV→Option PV)→List PV→Option PV,(∀again (a:{j:Nat // j≤N - m}),(∀a':{j:Nat // j≤N - m},N - m+1 - a'.1<N - m+1 - a.1→again [.str (code++List.replicate a'.1 48)]=some (.str (ZeA n code)))→f again [.str (code++List.replicate a.1 48)]=some (.str (ZeA n code)))→Zm f 18446744073709551616 [.str code]=some (.str (ZeA n code)):=fun f hf=>by
  have:=key f hf 18446744073709551616 ⟨0,Nat.zero_le _⟩ (by simp only;omega)
  simpa using this
 refine (congrArg (fun m:Option PV=>m.bind fun r=>if r.sc=true then some r else none) (key' _ (fun again j ih=> ?_))).trans rfl
 obtain ⟨j,hj⟩:=j
 dsimp only at ih⊢
 have hlen:(code++List.replicate j (48:UInt8)).length=m+j:=by simp;omega
 by_cases c1:m+j<N
 ·have h1:decide (((m+j:Nat):Int)<(N:Int))=true:=by simp;omega
  have h0:Zd .add TD.str (.str (code++List.replicate j (48:UInt8))) (.str [48])=some (.str (code++List.replicate (j+1) (48:UInt8))):=by
   rw[ZbH (by simp at hlen⊢;omega),List.append_assoc,←List.replicate_succ']
  have h5:Zd .add TD.str (.str (code++List.replicate j (48:UInt8))) (.str [(48:UInt8)])=some (.str (code++List.replicate (j+1) (48:UInt8))):=h0
  simp only[hN,hlen,h1,h0,h5,List.length_map,EVS]
  exact ih ⟨j+1,by omega⟩ (by simp only;omega)
 ·obtain rfl:j=N - m:=by omega
  have h1:decide (((m+(N - m):Nat):Int)<(N:Int))=false:=by simp;omega
  simp only[hN,hm,hlen,h1,List.length_map,EVS]
  have key2:=ZaP (R:=PV) (fun q:{q:List UInt8×Nat // Z1 q.1 N=true∧q.2≤N}=>[.str q.1.1,pI (Int.ofNat q.1.2)]) (fun q=>N+1 - q.1.2) (fun q=>some (.str (Zhf n (N - q.1.2) q.1.2 q.1.1)))
  have hb0:Z1 (code++List.replicate (N - m) (48:UInt8)) N=true:=ZpJ (by rw[←hm];exact hc) (by omega)
  refine (key2 _ (fun again q ih=> ?_) 18446744073709551616 ⟨(code++List.replicate (N - m) 48,m),hb0,by omega⟩ (by simp only;omega)).trans ?_
  ·obtain ⟨⟨v,k⟩,hb,hk⟩:=q
   dsimp only at ih hb hk⊢
   have hvl:=(ZaN.1 hb).2
   by_cases c2:k<N
   ·obtain ⟨a1,a2⟩:=ZyO (k:=k) hn hv (by rw[hN];exact hb) (by omega)
    have a3:=ZnT n v k _ a1
    rw[a2] at a3
    simp only[Zo] at a3
    have a4:=ZjX v k (Zf7 (ZgJ n v k)) (by omega) (by unfold ZA;omega)
    have h3:decide ((k:Int)<(N:Int))=true:=by simpa using c2
    have hw:IntKind.i64.wrap ((k:Int)+1)=((k+1:Nat):Int):=by rw[Zaw (by omega) (by omega)];omega
    simp only[hN,h3,a3,ZjW,a4,hw,List.length_map,EVS]
    have h4:=ih ⟨(v.set k (Zf7 (ZgJ n v k)),k+1),ZpI hb _,by omega⟩ (by simp only;omega)
    rw[show N - k=(N - (k+1))+1 by omega]
    exact h4
   ·obtain rfl:k=N:=by omega
    have h3:decide ((k:Int)<(k:Int))=false:=by simp
    simp only[hN,h3,List.length_map,EVS]
    rw[Nat.sub_self]
    rfl
  ·unfold ZeA
   rw[hN,hm]
theorem Zu6 (c:UInt8):∀k,Lib.repeatL [c] k=List.replicate k c
 |0=>rfl
 |k+1=>by rw[Lib.repeatL,Zu6 c k];rfl
theorem Zk8 (c:UInt8) (k:Nat) (h:k≤1048576):Za3 [.str [c],pI k]=some (.str (List.replicate k c)):=by
 have h1:(0:Int)≤(k:Int)∧(k:Int)≤9223372036854775807∧(([c]:List UInt8).length:Int) * (k:Int)≤140737488355328:=by simp;omega
 show (if (0:Int)≤(k:Int)∧(k:Int)≤9223372036854775807∧(([c]:List UInt8).length:Int) * (k:Int)≤140737488355328 then some (PV.str (Lib.repeatL [c] (Int.toNat (k:Int)))) else none)=_
 rw[if_pos h1,Int.toNat_natCast,Zu6]
theorem Zxg (n:PNet) (code:List UInt8) (hn:n.Fit) (hv:Zdm n=true) (hc:Z1 code n.signals.length=true):ZhR [Zo n,.str code]=some (.str (ZeA n code)):=by
 obtain ⟨hs1,hs2⟩:=ZaQ hv
 have hcl:=(ZaN.1 hc).2
 obtain ⟨N,hN⟩:∃N,n.wires.length=N:=⟨_,rfl⟩
 obtain ⟨m,hm⟩:∃m,n.signals.length=m:=⟨_,rfl⟩
 have hb0:Z1 (code++List.replicate (N - m) (48:UInt8)) N=true:=ZpJ (by rw[←hm];exact hc) (by omega)
 show (fun x0 x1=>ZhR [x0,x1]) _ _=_
 rw[Zvi]
 have hw1:IntKind.i64.wrap ((N:Int) - (m:Int))=((N - m:Nat):Int):=by rw[Zaw (by omega) (by omega)];omega
 have hr:Za3 [.str [(48:UInt8)],pI ((N - m:Nat):Int)]=some (.str (List.replicate (N - m) 48)):=Zk8 48 (N - m) (by omega)
 have hcl':code.length=m:=by omega
 have h0:Zd .add TD.str (.str code) (.str (List.replicate (N - m) (48:UInt8)))=some (.str (code++List.replicate (N - m) (48:UInt8))):=ZbH (by simp;omega)
 simp only[Zo,hN,hcl',hw1,hr,h0,List.length_map,EVS]
 have key2:=ZaP (R:=PV) (fun q:{q:List UInt8×Nat // Z1 q.1 N=true∧q.2≤N}=>[.str q.1.1,pI (Int.ofNat q.1.2)]) (fun q=>N+1 - q.1.2) (fun q=>some (.str (Zhf n (N - q.1.2) q.1.2 q.1.1)))
 refine (congrArg (fun m:Option PV=>m.bind fun r=>if r.sc=true then some r else none) (key2 _ (fun again q ih=> ?_) 18446744073709551616 ⟨(code++List.replicate (N - m) 48,m),hb0,by omega⟩ (by simp only;omega))).trans ?_
 ·obtain ⟨⟨v,k⟩,hb,hk⟩:=q
  dsimp only at ih hb hk⊢
  have hvl:=(ZaN.1 hb).2
  by_cases c2:k<N
  ·obtain ⟨a1,a2⟩:=ZyO (k:=k) hn hv (by rw[hN];exact hb) (by omega)
   have a3:=Zmm n v k _ a1
   rw[a2] at a3
   simp only[Zo] at a3
   have h3:decide ((k:Int)<(N:Int))=true:=by simpa using c2
   have hw:IntKind.i64.wrap ((k:Int)+1)=((k+1:Nat):Int):=by rw[Zaw (by omega) (by omega)];omega
   have h4:Ziy (.str v) none (some (.int .i64 (k:Int)))=some (.str (v.take k)):=Zrs (by omega)
   have h5:Ziy (.str v) (some (.int .i64 ((k+1:Nat):Int))) none=some (.str (v.drop (k+1))):=Zrt (by omega)
   have h6:Zd .add TD.str (.str (v.take k)) (.str [Zf7 (ZgJ n v k)])=some (.str (v.take k++[Zf7 (ZgJ n v k)])):=ZbH (by simp;omega)
   have h7:Zd .add TD.str (.str (v.take k++[Zf7 (ZgJ n v k)])) (.str (v.drop (k+1)))=some (.str (v.take k++[Zf7 (ZgJ n v k)]++v.drop (k+1))):=ZbH (by simp;omega)
   simp only[hvl,h3,h4,a3,ZyH,h6,hw,h5,h7,ZyI v k _ (show k<v.length by omega),EVS]
   have h8:=ih ⟨(v.set k (Zf7 (ZgJ n v k)),k+1),ZpI hb _,by omega⟩ (by simp only;omega)
   rw[show N - k=(N - (k+1))+1 by omega]
   exact h8
  ·obtain rfl:k=N:=by omega
   have h3:decide ((k:Int)<(k:Int))=false:=by simp
   simp only[hvl,h3,EVS]
   rw[Nat.sub_self]
   rfl
 ·unfold ZeA
  rw[hN,hm]
  rfl
def Zu7 (a:PArc):ZfB:=(a.from_,a.sig,a.up,a.to_)
def ZnV (c:PSG):List (List Int):=ZdM c.codes.length c.signals.length (c.arcs.map Zu7)
def toC (c:PSG) (k s:Nat):Int:=Zfa (ZnV c) k s
structure Go1 (c:PSG) (n:PNet):Prop where
 net:Zdm n=true
 one:1≤c.codes.length
 many:c.codes.length≤300
 sone:1≤c.signals.length
 smany:c.signals.length≤8
 few:c.arcs.length≤4000
 bits:∀x∈c.codes,Z1 x c.signals.length=true
 arcs:∀a∈c.arcs,0≤a.from_∧a.from_<c.codes.length∧0≤a.to_∧a.to_<c.codes.length∧0≤a.sig∧a.sig<c.signals.length
 det:∀a∈c.arcs,∀b∈c.arcs,a.from_=b.from_→a.sig=b.sig→a.to_=b.to_
 same:c.signals=n.signals
 fitc:SGFit c
 fitn:n.Fit
theorem ZpX (w:PArc→PArc→Bool) (i:Nat) (a:PArc):∀(l:List PArc) (k:Nat) (acc:List (Nat×Nat)),ZdG w i a k acc l=[]→acc=[]∧∀b∈l,w a b=false
 |[],k,acc,h=>⟨h,by simp⟩
 | b::l,k,acc,h=>by
  unfold ZdG at h
  obtain ⟨h1,h2⟩:=ZpX w i a l (k+1) _ h
  cases c:w a b
  ·rw[c] at h1
   simp only[Bool.false_eq_true,if_false] at h1
   refine ⟨h1,fun x hx=> ?_⟩
   rcases List.mem_cons.1 hx with rfl|hx
   ·exact c
   ·exact h2 x hx
  ·rw[c] at h1
   simp at h1
theorem ZpY (w:PArc→PArc→Bool) (arcs:List PArc):∀(l:List PArc) (k:Nat) (acc:List (Nat×Nat)),ZhE w arcs k acc l=[]→acc=[]∧∀(i:Nat) (a:PArc),l[i]?=some a→∀b∈arcs.drop (k+i+1),w a b=false
 |[],k,acc,h=>⟨h,by simp⟩
 | a::l,k,acc,h=>by
  unfold ZhE at h
  obtain ⟨h1,h2⟩:=ZpY w arcs l (k+1) _ h
  obtain ⟨h3,h4⟩:=ZpX w _ a _ _ _ h1
  refine ⟨h3,fun i x hx=> ?_⟩
  cases i with
  |zero=>simp at hx;subst hx;exact h4
  | succ i=>
   have:=h2 i x (by simpa using hx)
   rwa[show k+1+i+1=k+(i+1)+1 by omega] at this
theorem ZzG {c:PSG} (h:Zhc c=true):1≤c.signals.length∧c.signals.length≤8:=by
 unfold Zhc ZkF inR at h
 simp only[Bool.and_eq_true,decide_eq_true_eq] at h
 omega
theorem Znf {c:PSG} {n:PNet} (h:goP c n=true) (hc:SGFit c) (hn:n.Fit):Go1 c n:=by
 unfold goP ZyN at h
 simp only[Bool.and_eq_true,Bool.not_eq_true',decide_eq_true_eq] at h
 obtain ⟨⟨hs,hnet⟩,⟨hh,hw⟩,hsame⟩:=h
 obtain ⟨h1,h2,h3,h4⟩:=ZjZ hs
 have hp:=Zi6 h1 h2
 have hsg:=ZzG h1
 have harc:∀a∈c.arcs,0≤a.from_∧a.from_<c.codes.length∧0≤a.to_∧a.to_<c.codes.length∧0≤a.sig∧a.sig<c.signals.length:=fun a ha=>by
  have h5:=List.all_eq_true.1 h3 a ha
  have h6:a.sig≠ -1:=fun e=>by
   have:ZhC c.arcs=true:=List.any_eq_true.2 ⟨a,ha,decide_eq_true e⟩
   rw[this] at hh;cases hh
  unfold Zk3 Zc6 Zgf inR at h5
  simp only[Bool.and_eq_true,Bool.or_eq_true,decide_eq_true_eq] at h5
  omega
 refine ⟨hnet,hp.one,hp.many,hsg.1,hsg.2,hp.arcs,hp.bits,harc, ?_,hsame,hc,hn⟩
 have hways:Zjb Zk4 c=[]:=List.length_eq_zero_iff.1 (by omega)
 have hkey:=(ZpY Zk4 c.arcs c.arcs 0 [] hways).2
 have hlt:∀(i j:Nat) (a b:PArc),i<j→c.arcs[i]?=some a→c.arcs[j]?=some b→a.from_=b.from_→a.sig=b.sig→a.to_=b.to_:=fun i j a b hij hi hj e1 e2=>by
  have:=hkey i a hi b (by
   rw[Nat.zero_add]
   refine List.mem_of_getElem? (i:=j - (i+1)) ?_
   rw[List.getElem?_drop,show i+1+(j - (i+1))=j by omega]
   exact hj)
  have h6:=(harc a (List.mem_of_getElem? hi)).2.2.2.2.1
  unfold Zk4 at this
  simp only[e1,e2,decide_true,Bool.and_true,Bool.true_and] at this
  have hn1:decide (b.sig= -1)=false:=by simp only[decide_eq_false_iff_not];omega
  rw[hn1] at this
  simp only[Bool.not_false,Bool.true_and,Bool.not_eq_false',decide_eq_true_eq] at this
  exact this.symm
 intro a ha b hb e1 e2
 obtain ⟨i,hi⟩:=List.getElem?_of_mem ha
 obtain ⟨j,hj⟩:=List.getElem?_of_mem hb
 rcases Nat.lt_trichotomy i j with h|h|h
 ·exact hlt i j a b h hi hj e1 e2
 ·subst h;rw[hi] at hj;cases hj;rfl
 ·exact (hlt j i b a h hj hi e1.symm e2.symm).symm
theorem Zjd {c:PSG} {n:PNet} (h:Go1 c n) {k s:Nat} (hk:k<c.codes.length) (hs:s<c.signals.length):
 (∃a∈c.arcs,(a.from_=(k:Int)∧a.sig=(s:Int))∧toC c k s=a.to_)∨(toC c k s= -1∧∀a∈c.arcs,¬(a.from_=(k:Int)∧a.sig=(s:Int))):=by
 rcases Zv4 hk hs (c.arcs.map Zu7) with ⟨q,hq,h1,h2⟩|⟨h1,h2⟩
 ·obtain ⟨a,ha,rfl⟩:=List.mem_map.1 hq
  have:=h.arcs a ha
  refine .inl ⟨a,ha, ?_,h2⟩
  unfold Zu7 at h1
  dsimp only at h1
  omega
 ·refine .inr ⟨h1,fun a ha hc=> ?_⟩
  have:=h.arcs a ha
  refine h2 (Zu7 a) (List.mem_map.2 ⟨a,ha,rfl⟩) ?_
  unfold Zu7
  dsimp only
  omega
theorem toC_in {c:PSG} {n:PNet} (h:Go1 c n) {k s:Nat} (hk:k<c.codes.length) (hs:s<c.signals.length): -1≤toC c k s∧toC c k s<c.codes.length:=by
 rcases Zjd h hk hs with ⟨a,ha,_,h2⟩|⟨h1,_⟩
 ·have:=h.arcs a ha;omega
 ·have:=h.one;omega
theorem Zu8 {R:Type} (q:PArc→Bool) (z:PArc→Option R) (e:Option R):∀(l:List PArc) (k:Nat),rgo (fun _ a=>if q a=true then some (z a) else none) e k l=match l.find? q with|some a=>z a|none=>e
 |[],k=>rfl
 | a::l,k=>by
  unfold rgo
  rw[List.find?_cons]
  cases c:q a
  ·simp only[Bool.false_eq_true,if_false]
   exact Zu8 q z e l (k+1)
  ·simp
theorem ZzH (c:PSG) (n:PNet) (k s:Nat) (h:Go1 c n) (hk:k<c.codes.length) (hs:s<c.signals.length):Zj9 [eSG c,pI (k:Int),pI (s:Int)]=some (pI (toC c k s)):=by
 have hl:=h.few
 show (fun x0 x1 x2=>Zj9 [x0,x1,x2]) _ _ _=_
 rw[ZxC]
 simp only[eSG,List.length_map,EVS]
 refine (congrArg (fun m:Option PV=>m.bind fun r=>if r.sc=true then some r else none) ((Zsb (R:=PV) c.arcs (fun _ a=>if (decide (a.from_=(k:Int))&&decide (a.sig=(s:Int)))=true then some (some (pI a.to_)) else none) (some (pI (-1))) _ (by omega) (fun again j a ha=> ?_) (fun again=> ?_)).trans (Zu8 _ _ _ _ _))).trans ?_
 ·have hj:=Ze ha
  have hi:Zk (.lst (c.arcs.map Z2)) (.int .i64 (j:Int))=some (Z2 a):=Zj ha
  cases c1:decide (a.from_=(k:Int))<;>cases c2:decide (a.sig=(s:Int))<;>simp only[Zr hj,Zi hj (show c.arcs.length≤9223372036854775807 by omega),hi,Z2,c1,c2,Bool.false_eq_true,if_false,if_true,EVS]
 ·simp only[ZV,EVS]
  rfl
 ·cases hf:c.arcs.find? (fun a=>decide (a.from_=(k:Int))&&decide (a.sig=(s:Int))) with
  | none=>
   have hno:=List.find?_eq_none.1 hf
   rcases Zjd h hk hs with ⟨a,ha,h1,h2⟩|⟨h1,h2⟩
   ·exact absurd (by simp[h1]) (hno a ha)
   ·rw[h1];rfl
  | some a=>
   have ha:=List.mem_of_find?_eq_some hf
   have hq:=List.find?_some hf
   simp only[Bool.and_eq_true,decide_eq_true_eq] at hq
   rcases Zjd h hk hs with ⟨b,hb,h1,h2⟩|⟨h1,h2⟩
   ·rw[h2,h.det b hb a ha (by omega) (by omega)];rfl
   ·exact absurd hq (h2 a ha)
def Zb2 (c:PSG) (n:PNet):PV:=.agg [.lst (c.signals.map ZD),.lst (c.codes.map PV.str),.lst (c.arcs.map Z2),.lst (n.signals.map ZD),.lst (n.wires.map Zn),.lst ((ZnV c).map ZtK)]
def zSys :PV:=.agg [.lst [],.lst [],.lst [],.lst [],.lst [],.lst []]
set_option maxRecDepth 20000 in
theorem ZqU (c:PSG) (n:PNet) (hc:SGFit c) (hn:n.Fit):Zft [eSG c,Zo n]=some (.tup [if goP c n=true then Zb2 c n else zSys,pB (goP c n)]):=by
 have g:=Zk6 c n hc hn
 show (match Zbq [eSG c,Zo n] with
  | some (.tup [.bool is,.bool ok])=>
   match ok&&is with
   | true=>match Zis (c.arcs.map Z2) with
    |some ars=>if 1≤(c.signals.map ZD).length∧(c.signals.map ZD).length≤1048576∧(c.codes.map PV.str).length≤1000000∧(ars.all (ZmL (c.codes.map PV.str).length (c.signals.map ZD).length))=true then some (PV.tup [.agg [.lst (c.signals.map ZD),.lst (c.codes.map PV.str),.lst (c.arcs.map Z2),.lst (n.signals.map ZD),.lst (n.wires.map Zn),.lst ((ZdM (c.codes.map PV.str).length (c.signals.map ZD).length ars).map ZtK)],.bool true]) else none
    |none=>none
   |false=>some (PV.tup [.agg [.lst [],.lst [],.lst [],.lst [],.lst [],.lst []],.bool false])
  |_=>none)=_
 rw[g]
 have hgo:((sgV c&&Zdm n)&&goP c n)=goP c n:=by
  unfold goP
  cases sgV c<;>cases Zdm n<;>simp
 show (match ((sgV c&&Zdm n)&&goP c n) with
  | true=>match Zis (c.arcs.map Z2) with
   |some ars=>if 1≤(c.signals.map ZD).length∧(c.signals.map ZD).length≤1048576∧(c.codes.map PV.str).length≤1000000∧(ars.all (ZmL (c.codes.map PV.str).length (c.signals.map ZD).length))=true then some (PV.tup [.agg [.lst (c.signals.map ZD),.lst (c.codes.map PV.str),.lst (c.arcs.map Z2),.lst (n.signals.map ZD),.lst (n.wires.map Zn),.lst ((ZdM (c.codes.map PV.str).length (c.signals.map ZD).length ars).map ZtK)],.bool true]) else none
   |none=>none
  |false=>some (PV.tup [.agg [.lst [],.lst [],.lst [],.lst [],.lst [],.lst []],.bool false]))=_
 rw[hgo]
 cases hg:goP c n
 ·rfl
 ·have h:=Znf hg hc hn
  have ha:Zis (c.arcs.map Z2)=some (c.arcs.map Zu7):=by
   have:c.arcs.map Z2=(c.arcs.map Zu7).map pArc:=by rw[List.map_map];rfl
   rw[this,Zqu]
  dsimp only
  rw[ha]
  dsimp only
  rw[if_pos]
  ·simp only[if_true,List.length_map];rfl
  ·simp only[List.length_map]
   have h1:=h.sone
   have h2:=h.smany
   have h3:=h.many
   refine ⟨h1,by omega,by omega,List.all_eq_true.2 fun q hq=> ?_⟩
   obtain ⟨a,ha,rfl⟩:=List.mem_map.1 hq
   have:=h.arcs a ha
   unfold ZmL Zu7
   simp only[decide_eq_true_eq]
   omega
def ePs (b:PSt):PV:=.agg [pI b.state,.str b.values]
def eFl (f:Flip):PV:=.agg [pI f.from_,pI f.wire,pI f.to]
def ePr (p:ProdG):PV:=.agg [.lst (p.states.map ePs),.lst (p.flips.map eFl),.lst (p.extra.map eFl)]
theorem Zm3 (a b c d e f:PV):Zb true 3 2 [a,b,c,d,e,f]=some (.agg [d,e]):=rfl
theorem Zph (a b c d e f a' b' c' d' e' f':PV):splice [a,b,c,d,e,f] 0 [a',b',c',d',e',f']=[a',b',c',d',e',f']:=rfl
theorem Zn4 (a b c d e f:PV):Zb true 0 6 [a,b,c,d,e,f]=some (.agg [a,b,c,d,e,f]):=rfl
theorem Go1.vals {c:PSG} {n:PNet} (h:Go1 c n) {v:List UInt8} (hb:Z1 v n.wires.length=true):Zfk n v=true∧ZA v∧v.length=n.wires.length∧n.wires.length≤24∧n.signals.length≤n.wires.length∧n.signals.length=c.signals.length:=by
 have h1:=ZaQ h.net
 have h2:=(ZaN.1 hb).2
 refine ⟨by unfold Zfk;rw[h.net,hb];rfl,by unfold ZA;omega,h2,h1.2,h1.1,by rw[h.same]⟩
theorem Go1.code {c:PSG} {n:PNet} (h:Go1 c n):∃x,c.codes[0]?=some x∧Z1 x n.signals.length=true:=by
 have h1:=h.one
 refine ⟨c.codes[0],List.getElem?_eq_getElem (by omega), ?_⟩
 rw[←h.same]
 exact h.bits _ (List.getElem_mem _)
def Zhw (c:PSG) (n:PNet):PSt:=⟨0,ZeA n (c.codes.getD 0 [])⟩
theorem ZsE (c:PSG) (n:PNet) (h:Go1 c n):Zfy [eSG c,Zo n]=some (ePs (Zhw c n)):=by
 obtain ⟨x,hx,hb⟩:=h.code
 have g:=ZqT n x h.fitn h.net hb
 have hi:Zk (.lst (c.codes.map PV.str)) (.int .i64 ((0:Nat):Int))=some (.str x):=Zj hx
 show (fun x0 x1=>Zfy [x0,x1]) _ _=_
 rw[Zrl]
 unfold Zhw
 rw[List.getD_eq_getElem?_getD,hx]
 simp only[Int.natCast_zero] at hi
 simp only[Zo] at g
 simp only[eSG,Zo,ZK,hi,g,EVS]
 rfl
theorem Zuw (c:PSG) (n:PNet) (h:Go1 c n):Zcb [Zb2 c n]=some (ePs (Zhw c n)):=by
 obtain ⟨x,hx,hb⟩:=h.code
 have g:=Zxg n x h.fitn h.net hb
 have hi:Zk (.lst (c.codes.map PV.str)) (.int .i64 ((0:Nat):Int))=some (.str x):=Zj hx
 show (fun x0=>Zcb [x0]) _=_
 rw[Zkm]
 unfold Zhw
 rw[List.getD_eq_getElem?_getD,hx]
 simp only[Int.natCast_zero] at hi
 simp only[Zo] at g
 simp only[Zb2,Zm3,hi,g,EVS]
 rfl
theorem ZBO (c:PSG) {k:Nat} (hk:k<c.codes.length):∃row,(ZnV c)[k]?=some row∧row.length=c.signals.length∧∀s,toC c k s=row.getD s (-1):=by
 have hl:(ZnV c).length=c.codes.length:=ZxL _ _ _
 refine ⟨(ZnV c)[k]'(by omega),List.getElem?_eq_getElem _,ZxM _ _ _ _ (List.getElem_mem _),fun s=> ?_⟩
 unfold toC Zfa
 rw[List.getD_eq_getElem?_getD (l:=ZnV c),List.getElem?_eq_getElem (by omega)]
 rfl
theorem Zma (c:PSG) {k s:Nat} (hk:k<c.codes.length) (hs:s<c.signals.length):∃row:List PV,Zk (.lst ((ZnV c).map ZtK)) (.int .i64 (k:Int))=some (.lst row)∧Zk (.lst row) (.int .i64 (s:Int))=some (pI (toC c k s)):=by
 obtain ⟨row,h1,h2,h3⟩:=ZBO c hk
 refine ⟨row.map pI,Zj h1, ?_⟩
 refine Zol ?_
 rw[h3 s,List.getElem?_map,List.getElem?_eq_getElem (by omega),List.getD_eq_getElem?_getD,List.getElem?_eq_getElem (by omega)]
 rfl
def ZiX (n:PNet) (k:Nat):Int:=match n.wires[k]? with|some w=>w.kind|none=>0
def inAt (n:PNet) (k:Nat):Bool:=match n.signals[k]? with|some s=>decide (s.2=1)|none=>false
theorem ZBQ {n:PNet} (hv:Zdm n=true) {k:Nat} (hk:k<n.signals.length):decide (ZiX n k=1)=inAt n k:=by
 have hs:=(ZaQ hv).1
 have hw:n.wires[k]?=some n.wires[k]:=List.getElem?_eq_getElem (by omega)
 have hsg:n.signals[k]?=some n.signals[k]:=List.getElem?_eq_getElem hk
 unfold ZiX inAt
 rw[hw,hsg]
 unfold Zdm at hv
 simp only[Bool.and_eq_true] at hv
 have h1:=ZjV _ _ _ hv.2 k _ hw
 rw[Nat.zero_add] at h1
 unfold ZbK Zml Zg9 at h1
 have hd:decide ((k:Int)<(n.signals.length:Int))=true:=by simp only[decide_eq_true_eq];omega
 rw[hd,hsg] at h1
 simp only[Bool.and_eq_true,Bool.not_true,Bool.false_or,beq_iff_eq] at h1
 exact h1.1.1.1.2.2
def Zkg (c:PSG) (n:PNet) (s:Nat) (v:List UInt8) (k:Nat):Bool:=if n.signals.length≤k then Zp n v k else decide (0≤toC c s k)&&(decide (ZiX n k=1)||Zp n v k)
theorem Zux (c:PSG) (n:PNet) (h:Go1 c n) (s:Nat) (v:List UInt8) (k:Nat) (hs:s<c.codes.length) (hb:Z1 v n.wires.length=true) (hk:k<n.wires.length):Zcc [Zb2 c n,ePs ⟨s,v⟩,pI (k:Int)]=some (pB (Zkg c n s v k)):=by
 obtain ⟨h1,h2,h3,h4,h5,h6⟩:=h.vals hb
 have g:=ZdV n v k h.fitn h2 h1 hk
 simp only[Zo] at g
 show (fun x0 x1 x2=>Zcc [x0,x1,x2]) _ _ _=_
 rw[Zko]
 unfold Zkg
 by_cases c1:n.signals.length≤k
 ·have hd:decide ((n.signals.length:Int)≤(k:Int))=true:=by simp only[decide_eq_true_eq];omega
  rw[if_pos c1]
  simp only[Zb2,ePs,List.length_map,hd,Zm3,g,EVS]
 ·have hd:decide ((n.signals.length:Int)≤(k:Int))=false:=by simp only[decide_eq_false_iff_not];omega
  obtain ⟨row,r1,r2⟩:=Zma c hs (show k<c.signals.length by omega)
  have hw:Zk (.lst (n.wires.map Zn)) (.int .i64 (k:Int))=some (Zn n.wires[k]):=Zj (List.getElem?_eq_getElem hk)
  have hkd:ZiX n k=n.wires[k].kind:=by unfold ZiX;rw[List.getElem?_eq_getElem hk]
  rw[if_neg c1,hkd]
  cases c2:decide (0≤toC c s k)<;>cases c3:decide (n.wires[k].kind=1)<;>simp only[Zb2,ePs,List.length_map,hd,Zm3,r1,r2,c2,c3,hw,Zn,List.drop_succ_cons,List.drop_zero,g,EVS]
def flB (b:UInt8):UInt8:=if b=48 then 49 else 48
def ZbJ (v:List UInt8) (k:Nat):List UInt8:=v.set k (flB (v.getD k 48))
def Zas (c:PSG) (n:PNet) (s:Nat) (v:List UInt8) (k:Nat):PSt:=⟨if k<n.signals.length then toC c s k else s,ZbJ v k⟩
theorem ZBR (b:UInt8):ZfR (flB b)=true:=by unfold flB;split<;>decide
theorem Zpi {v:List UInt8} {N k:Nat} (h:Z1 v N=true):Z1 (ZbJ v k) N=true:=by
 rw[ZaN] at h⊢
 refine ⟨fun b hb=> ?_,by unfold ZbJ;rw[List.length_set];exact h.2⟩
 unfold ZbJ at hb
 rcases List.mem_or_eq_of_mem_set hb with hb|rfl
 ·exact h.1 b hb
 ·exact ZBR _
theorem ZBS {b:UInt8} (h:ZfR b=true):Zd .xor (TD.int .u8) (pU b) (.int .u8 1)=some (pU (flB b)):=by
 rcases (Zmn b).1 h with rfl|rfl<;>rfl
theorem ZAU (c:PSG) (n:PNet) (h:Go1 c n) (s:Nat) (v:List UInt8) (k:Nat) (hs:s<c.codes.length) (hb:Z1 v n.wires.length=true) (hk:k<n.wires.length):ZdD [Zb2 c n,ePs ⟨s,v⟩,pI (k:Int)]=some (ePs (Zas c n s v k)):=by
 obtain ⟨h1,h2,h3,h4,h5,h6⟩:=h.vals hb
 have hc:=ZCa v h2
 have hvk:v[k]?=some v[k]:=List.getElem?_eq_getElem (by omega)
 have p1:ZaM (v.map pU) (.int .i64 (k:Int))=some (.int .i64 (k:Int)):=ZbG (by rw[List.length_map];omega)
 have q1:(v.map pU)[k]?=some (pU v[k]):=by rw[List.getElem?_map,hvk];rfl
 have hx:=ZBS ((ZaN.1 hb).1 v[k] (List.getElem_mem _))
 have hse:ZaB 0 1 [pU v[k]] (pU v[k]) (pU (flB v[k]))=some (pU (flB v[k])):=rfl
 have st:(v.map pU).set k (pU (flB v[k]))=(v.set k (flB v[k])).map pU:=ZjY pU v k _
 have hbo:=ZiM (v.set k (flB v[k]))
 have hfv:ZbJ v k=v.set k (flB v[k]):=by unfold ZbJ;rw[List.getD_eq_getElem?_getD,hvk];rfl
 show (fun x0 x1 x2=>ZdD [x0,x1,x2]) _ _ _=_
 rw[Zno]
 unfold Zas
 rw[hfv]
 by_cases c1:k<n.signals.length
 ·have hd:decide ((k:Int)<(n.signals.length:Int))=true:=by simp only[decide_eq_true_eq];omega
  obtain ⟨row,r1,r2⟩:=Zma c hs (show k<c.signals.length by omega)
  rw[if_pos c1]
  simp only[Zb2,ePs,List.length_map,hc,p1,q1,Int.toNat_natCast,hx,hse,st,hbo,hd,r1,r2,EVS]
 ·have hd:decide ((k:Int)<(n.signals.length:Int))=false:=by simp only[decide_eq_false_iff_not];omega
  rw[if_neg c1]
  simp only[Zb2,ePs,List.length_map,hc,p1,q1,Int.toNat_natCast,hx,hse,st,hbo,hd,EVS]
theorem ZsF (v:List UInt8) (k:Nat) (hk:k<v.length) (hv:ZA v):Zfz [.str v,pI (k:Int)]=some (.str (ZbJ v k)):=by
 have hvk:v[k]?=some v[k]:=List.getElem?_eq_getElem hk
 have hb:Zao (.str v) (.int .i64 (k:Int))=some (pU v[k]):=Zq hvk
 have g1:=ZjW (decide ((v[k].toNat:Int)=48))
 have g2:=ZjX v k (Zf7 (decide ((v[k].toNat:Int)=48))) hk hv
 have hfb:Zf7 (decide ((v[k].toNat:Int)=48))=flB v[k]:=by
  unfold flB
  have:((v[k].toNat:Int)=48)↔v[k]=48:=by rw[←UInt8.toNat_inj];exact Int.ofNat_inj
  by_cases c:v[k]=48
  ·rw[if_pos c,decide_eq_true (this.2 c)];rfl
  ·rw[if_neg c,decide_eq_false (fun e=>c (this.1 e))];rfl
 show (fun x0 x1=>Zfz [x0,x1]) _ _=_
 rw[Zrn]
 unfold ZbJ
 rw[List.getD_eq_getElem?_getD,hvk,Option.getD_some,←hfb]
 simp only[hb,g1,g2,EVS]
theorem Zzn (l:List Int) (x:Int) (hl:ZA l):Zka [.lst (l.map pI),pI x]=some (pB (decide (x∈l))):=by
 unfold ZA at hl
 show (fun x0 x1=>Zka [x0,x1]) _ _=_
 rw[ZxE]
 simp only[EVS]
 refine (congrArg (fun m:Option PV=>m.bind fun r=>if r.sc=true then some r else none) (ZN (R:=PV) l (fun _ y=> !decide (x=y)) (some (pB true)) (some (pB false)) _ hl (fun again k y hx=> ?_) (fun again=> ?_))).trans ?_
 ·have hk:=Ze hx
  have hi:Zk (.lst (l.map pI)) (.int .i64 (k:Int))=some (pI y):=Zj hx
  have he:decide (y=x)=decide (x=y):=by rw[Bool.eq_iff_iff,decide_eq_true_eq,decide_eq_true_eq];exact eq_comm
  simp only[Zr hk,Zi hk hl,hi,he,EVS]
  cases decide (x=y)<;>simp only[EVS]
 ·simp only[ZV,EVS]
 ·rw[Zi8]
  cases decide (x∈l)<;>rfl
theorem ZwM (good:Nat→Bool) (N k:Nat) (hk:k<N):decide ((k:Int)∈ZaX good N)=good k:=by
 unfold ZaX
 rw[Bool.eq_iff_iff,decide_eq_true_eq,List.mem_map]
 constructor
 ·rintro ⟨i,hi,he⟩
  rw[List.mem_filter] at hi
  have:i=k:=by have:(i:Int)=(k:Int):=he;omega
  rw[←this]
  exact hi.2
 ·intro h
  exact ⟨k,List.mem_filter.2 ⟨List.mem_range.2 hk,h⟩,rfl⟩
def ZaE (c:PSG) (n:PNet) (s:Nat) (v:List UInt8) (k:Nat):List Nat:=(List.range k).filter (Zkg c n s v)
def Zhx (c:PSG) (n:PNet) (s:Nat) (v:List UInt8) (k:Nat):Bool:=decide (k<n.signals.length)&&((!decide (ZiX n k=1)&&decide (toC c s k<0))&&Zp n v k)
def Zap (c:PSG) (n:PNet) (s:Nat) (v:List UInt8) (k:Nat):List Nat:=(List.range k).filter (Zhx c n s v)
def eNn (i:Nat):PV:=pI (i:Int)
theorem ZeU {good:Nat→Bool} {k:Nat} (h:good k=true):(List.range (k+1)).filter good=(List.range k).filter good++[k]:=by
 rw[List.range_succ,List.filter_append];simp[h]
theorem Zdz {good:Nat→Bool} {k:Nat} (h:good k=false):(List.range (k+1)).filter good=(List.range k).filter good:=by
 rw[List.range_succ,List.filter_append];simp[h]
theorem ZeV (good:Nat→Bool) (k:Nat):((List.range k).filter good).length≤k:=by
 have:=List.length_filter_le good (List.range k)
 simpa using this
theorem Zpj (c:PSG) (n:PNet) (h:Go1 c n) (s:Nat) (v:List UInt8) (hs:s<c.codes.length) (hb:Z1 v n.wires.length=true):
 Za6 [Zb2 c n,ePs ⟨s,v⟩]=some (.tup [.lst ((ZaE c n s v n.wires.length).map fun k=>ePs (Zas c n s v k)),.lst ((ZaE c n s v n.wires.length).map eNn)]):=by
 obtain ⟨h1,h2,h3,h4,h5,h6⟩:=h.vals hb
 show (fun x0 x1=>Za6 [x0,x1]) _ _=_
 rw[ZhT]
 simp only[Zb2,ePs,List.length_map,EVS]
 refine (Zel (R:=PV) 0 n.wires.length (fun k=>[.lst ((ZaE c n s v k).map eNn),.lst ((ZaE c n s v k).map fun k=>ePs (Zas c n s v k)),pI (Int.ofNat k)]) (some (.tup [.lst ((ZaE c n s v n.wires.length).map fun k=>ePs (Zas c n s v k)),.lst ((ZaE c n s v n.wires.length).map eNn)])) _ (by omega) (fun again k k1 k2=> ?_) (fun again=> ?_) (Nat.zero_le _) _ (by simp[ZaE]))
 ·have a1:=Zux c n h s v k hs hb k2
  have a2:=ZAU c n h s v k hs hb k2
  have hcl:(ZaE c n s v k).length≤k:=ZeV _ k
  simp only[Zb2,ePs] at a1 a2
  have hm:n.wires.length≤9223372036854775807:=by omega
  have hla:(ZaE c n s v k).length+[ePs (Zas c n s v k)].length≤4294967296∧[ePs (Zas c n s v k)].all (Zal 2)=true:=⟨by simp;omega,rfl⟩
  have hlb:(ZaE c n s v k).length+[pI (k:Int)].length≤4294967296∧[pI (k:Int)].all (Zal 1)=true:=⟨by simp;omega,rfl⟩
  simp only[ePs] at hla
  simp only[Zr k2,Zn4,a1,EVS]
  cases hE:Zkg c n s v k
  ·have e1:ZaE c n s v (k+1)=ZaE c n s v k:=Zdz hE
   simp only[Zi k2 hm,e1,EVS]
  ·have e1:ZaE c n s v (k+1)=ZaE c n s v k++[k]:=ZeU hE
   simp only[a2,if_pos hla,if_pos hlb,Zi k2 hm,e1,Zn4,List.map_append,List.map_cons,List.map_nil,eNn,EVS]
   rfl
 ·simp only[ZV,EVS]
theorem ZwN (c:PSG) (n:PNet) (s:Nat) (v:List UInt8):∀(k:Nat),n.signals.length≤k→Zap c n s v k=Zap c n s v n.signals.length:=by
 intro k hk
 induction k with
 | zero => have:n.signals.length=0:=by omega
           rw[this]
 | succ k ih=>
  by_cases c1:n.signals.length≤k
  ·have:Zhx c n s v k=false:=by unfold Zhx;rw[decide_eq_false (by omega)];rfl
   rw[←ih c1]
   exact Zdz this
  ·rw[show n.signals.length=k+1 by omega]
theorem Zpk (c:PSG) (n:PNet) (h:Go1 c n) (s:Nat) (v:List UInt8) (hs:s<c.codes.length) (hb:Z1 v n.wires.length=true):
 Za7 [Zb2 c n,ePs ⟨s,v⟩]=some (.lst ((Zap c n s v n.wires.length).map eNn)):=by
 obtain ⟨h1,h2,h3,h4,h5,h6⟩:=h.vals hb
 rw[ZwN c n s v _ h5]
 show (fun x0 x1=>Za7 [x0,x1]) _ _=_
 rw[ZhV]
 simp only[Zb2,ePs,List.length_map,EVS]
 refine (Zel (R:=PV) 0 n.signals.length (fun k=>[.lst ((Zap c n s v k).map eNn),pI (Int.ofNat k)]) (some (.lst ((Zap c n s v n.signals.length).map eNn))) _ (by omega) (fun again k k1 k2=> ?_) (fun again=> ?_) (Nat.zero_le _) _ (by simp[Zap]))
 ·have hkw:k<n.wires.length:=by omega
  have g:=ZdV n v k h.fitn h2 h1 hkw
  simp only[Zo] at g
  have hcl:(Zap c n s v k).length≤k:=ZeV _ k
  have hm:n.signals.length≤9223372036854775807:=by omega
  have hlb:(Zap c n s v k).length+[pI (k:Int)].length≤4294967296∧[pI (k:Int)].all (Zal 1)=true:=⟨by simp;omega,rfl⟩
  obtain ⟨row,r1,r2⟩:=Zma c hs (show k<c.signals.length by omega)
  have hw:Zk (.lst (n.wires.map Zn)) (.int .i64 (k:Int))=some (Zn n.wires[k]):=Zj (List.getElem?_eq_getElem hkw)
  have hkd:ZiX n k=n.wires[k].kind:=by unfold ZiX;rw[List.getElem?_eq_getElem hkw]
  have hE:Zhx c n s v k=((!decide (n.wires[k].kind=1)&&decide (toC c s k<0))&&Zp n v k):=by unfold Zhx;rw[decide_eq_true k2,hkd];rfl
  cases c2:decide (n.wires[k].kind=1)<;>cases c3:decide (toC c s k<0)<;>cases c4:Zp n v k<;>rw[c2,c3,c4] at hE<;>
   simp only[Bool.not_true,Bool.not_false,Bool.and_true,Bool.and_false,Bool.true_and,Bool.false_and] at hE
  all_goals first
   | (have e1:Zap c n s v (k+1)=Zap c n s v k:=Zdz hE
      simp only[Zr k2,hw,Zn,List.drop_succ_cons,List.drop_zero,c2,c3,c4,r1,r2,Zm3,g,Zi k2 hm,e1,EVS])
   | (have e1:Zap c n s v (k+1)=Zap c n s v k++[k]:=ZeU hE
      simp only[Zr k2,hw,Zn,List.drop_succ_cons,List.drop_zero,c2,c3,c4,r1,r2,Zm3,g,if_pos hlb,Zi k2 hm,e1,List.map_append,List.map_cons,List.map_nil,eNn,EVS])
 ·simp only[ZV,EVS]
theorem Zuy (c:PSG) (n:PNet) (h:Go1 c n) (s:Nat) (v:List UInt8) (hs:s<c.codes.length) (hb:Z1 v n.wires.length=true):
 Zgw [eSG c,Zo n,ePs ⟨s,v⟩]=some (.tup [.lst ((ZaE c n s v n.wires.length).map fun k=>ePs (Zas c n s v k)),.lst ((ZaE c n s v n.wires.length).map eNn),.lst ((Zap c n s v n.wires.length).map eNn)]):=by
 obtain ⟨h1,h2,h3,h4,h5,h6⟩:=h.vals hb
 have g0:=Zjc n v h.fitn h2 h1 (by omega)
 simp only[Zo] at g0
 show (fun x0 x1 x2=>Zgw [x0,x1,x2]) _ _ _=_
 rw[Ztz]
 simp only[eSG,Zo,ePs,ZK,g0,List.length_map,EVS]
 refine (Zel (R:=PV) 0 n.wires.length (fun k=>[.lst ((ZaE c n s v k).map fun k=>ePs (Zas c n s v k)),.lst ((ZaE c n s v k).map eNn),.lst ((Zap c n s v k).map eNn),pI (Int.ofNat k)]) (some (.tup [.lst ((ZaE c n s v n.wires.length).map fun k=>ePs (Zas c n s v k)),.lst ((ZaE c n s v n.wires.length).map eNn),.lst ((Zap c n s v n.wires.length).map eNn)])) _ (by omega) (fun again k k1 k2=> ?_) (fun again=> ?_) (Nat.zero_le _) _ (by simp[ZaE,Zap]))
 ·have g1:=Zzn (ZaX (Zp n v) n.wires.length) k (by unfold ZA;have:=Zk7 (Zp n v) n.wires.length;omega)
  rw[ZwM _ _ _ k2] at g1
  have g2:=ZsF v k (by omega) h2
  have hcl:(ZaE c n s v k).length≤k:=ZeV _ k
  have hcx:(Zap c n s v k).length≤k:=ZeV _ k
  have hm:n.wires.length≤9223372036854775807:=by omega
  have hlb:(ZaE c n s v k).length+[pI (k:Int)].length≤4294967296∧[pI (k:Int)].all (Zal 1)=true:=⟨by simp;omega,rfl⟩
  have hlx:(Zap c n s v k).length+[pI (k:Int)].length≤4294967296∧[pI (k:Int)].all (Zal 1)=true:=⟨by simp;omega,rfl⟩
  by_cases c1:k<n.signals.length
  ·have hd:=Zr c1
   have hsg:Zk (.lst (n.signals.map ZD)) (.int .i64 (k:Int))=some (ZD n.signals[k]):=Zj (List.getElem?_eq_getElem c1)
   have hin:inAt n k=decide (n.signals[k].2=1):=by unfold inAt;rw[List.getElem?_eq_getElem c1]
   have hki:=ZBQ h.net c1
   rw[hin] at hki
   have g3:=ZzH c n s k h hs (by omega)
   simp only[eSG] at g3
   have hla:(ZaE c n s v k).length+[PV.agg [pI (toC c s k),.str (ZbJ v k)]].length≤4294967296∧[PV.agg [pI (toC c s k),.str (ZbJ v k)]].all (Zal 2)=true:=⟨by simp;omega,rfl⟩
   have hfl:Zas c n s v k=⟨toC c s k,ZbJ v k⟩:=by unfold Zas;rw[if_pos c1]
   have hE:Zkg c n s v k=(decide (0≤toC c s k)&&(decide (n.signals[k].2=1)||Zp n v k)):=by unfold Zkg;rw[if_neg (by omega),hki]
   have hX:Zhx c n s v k=((!decide (n.signals[k].2=1)&&decide (toC c s k<0))&&Zp n v k):=by unfold Zhx;rw[decide_eq_true c1,hki];rfl
   by_cases c3:0≤toC c s k
   ·have c3':decide (0≤toC c s k)=true:=decide_eq_true c3
    have c3'':decide (toC c s k<0)=false:=decide_eq_false (by omega)
    rw[c3'] at hE
    rw[c3''] at hX
    simp only[Bool.and_false,Bool.false_and,Bool.true_and] at hE hX
    have e2:Zap c n s v (k+1)=Zap c n s v k:=Zdz hX
    cases c2:decide (n.signals[k].2=1)<;>cases c4:Zp n v k<;>rw[c2,c4] at hE<;>rw[c4] at g1<;>simp only[Bool.or_true,Bool.or_false,Bool.true_or,Bool.false_or] at hE
    ·have e1:ZaE c n s v (k+1)=ZaE c n s v k:=Zdz hE
     simp only[Zr k2,hd,hsg,ZR,g3,g1,c2,c3',List.drop_succ_cons,List.drop_zero,Zi k2 hm,e1,e2,EVS]
    ·have e1:ZaE c n s v (k+1)=ZaE c n s v k++[k]:=ZeU hE
     simp only[Zr k2,hd,hsg,ZR,g3,g2,g1,c2,c3',List.drop_succ_cons,List.drop_zero,if_pos hla,if_pos hlb,Zi k2 hm,e1,e2,hfl,ePs,List.map_append,List.map_cons,List.map_nil,eNn,EVS]
    ·have e1:ZaE c n s v (k+1)=ZaE c n s v k++[k]:=ZeU hE
     simp only[Zr k2,hd,hsg,ZR,g3,g2,g1,c2,c3',List.drop_succ_cons,List.drop_zero,if_pos hla,if_pos hlb,Zi k2 hm,e1,e2,hfl,ePs,List.map_append,List.map_cons,List.map_nil,eNn,EVS]
    ·have e1:ZaE c n s v (k+1)=ZaE c n s v k++[k]:=ZeU hE
     simp only[Zr k2,hd,hsg,ZR,g3,g2,g1,c2,c3',List.drop_succ_cons,List.drop_zero,if_pos hla,if_pos hlb,Zi k2 hm,e1,e2,hfl,ePs,List.map_append,List.map_cons,List.map_nil,eNn,EVS]
   ·have c3':decide (0≤toC c s k)=false:=decide_eq_false c3
    have c3'':decide (toC c s k<0)=true:=decide_eq_true (by omega)
    rw[c3'] at hE
    rw[c3''] at hX
    simp only[Bool.and_true,Bool.false_and,Bool.true_and] at hE hX
    have e1:ZaE c n s v (k+1)=ZaE c n s v k:=Zdz hE
    cases c2:decide (n.signals[k].2=1)<;>cases c4:Zp n v k<;>rw[c2,c4] at hX<;>rw[c4] at g1<;>simp only[Bool.not_true,Bool.not_false,Bool.and_true,Bool.and_false,Bool.true_and,Bool.false_and] at hX
    ·have e2:Zap c n s v (k+1)=Zap c n s v k:=Zdz hX
     simp only[Zr k2,hd,hsg,ZR,g3,g1,c2,c3',List.drop_succ_cons,List.drop_zero,Zi k2 hm,e1,e2,EVS]
    ·have e2:Zap c n s v (k+1)=Zap c n s v k++[k]:=ZeU hX
     simp only[Zr k2,hd,hsg,ZR,g3,g1,c2,c3',List.drop_succ_cons,List.drop_zero,if_pos hlx,Zi k2 hm,e1,e2,List.map_append,List.map_cons,List.map_nil,eNn,EVS]
    ·have e2:Zap c n s v (k+1)=Zap c n s v k:=Zdz hX
     simp only[Zr k2,hd,hsg,ZR,g3,g1,c2,c3',List.drop_succ_cons,List.drop_zero,Zi k2 hm,e1,e2,EVS]
    ·have e2:Zap c n s v (k+1)=Zap c n s v k:=Zdz hX
     simp only[Zr k2,hd,hsg,ZR,g3,g1,c2,c3',List.drop_succ_cons,List.drop_zero,Zi k2 hm,e1,e2,EVS]
  ·have hd:decide ((k:Int)<(n.signals.length:Int))=false:=by simp only[decide_eq_false_iff_not];omega
   have hE:Zkg c n s v k=Zp n v k:=by unfold Zkg;rw[if_pos (by omega)]
   have hX:Zhx c n s v k=false:=by unfold Zhx;rw[decide_eq_false c1];rfl
   have e2:Zap c n s v (k+1)=Zap c n s v k:=Zdz hX
   have hfl:Zas c n s v k=⟨(s:Int),ZbJ v k⟩:=by unfold Zas;rw[if_neg c1]
   have hla:(ZaE c n s v k).length+[PV.agg [pI (s:Int),.str (ZbJ v k)]].length≤4294967296∧[PV.agg [pI (s:Int),.str (ZbJ v k)]].all (Zal 2)=true:=⟨by simp;omega,rfl⟩
   have hge:decide (0≤(s:Int))=true:=decide_eq_true (by omega)
   cases c4:Zp n v k<;>rw[c4] at hE g1
   ·have e1:ZaE c n s v (k+1)=ZaE c n s v k:=Zdz hE
    simp only[Zr k2,hd,ZR,g1,hge,Zi k2 hm,e1,e2,EVS]
   ·have e1:ZaE c n s v (k+1)=ZaE c n s v k++[k]:=ZeU hE
    simp only[Zr k2,hd,ZR,g2,g1,hge,if_pos hla,if_pos hlb,Zi k2 hm,e1,e2,hfl,ePs,List.map_append,List.map_cons,List.map_nil,eNn,EVS]
 ·simp only[ZV,EVS]
def StB (c:PSG) (n:PNet) (b:PSt):Prop:=∃s:Nat,b.state=s∧s<c.codes.length∧Z1 b.values n.wires.length=true
def Zc3 (k:Nat) (P:ProdG) (w:Nat) (b:PSt):ProdG:=
 if b∈P.states then ⟨P.states,P.flips++[⟨k,w,(P.states.idxOf b:Nat)⟩],P.extra⟩ else ⟨P.states++[b],P.flips++[⟨k,w,(P.states.length:Nat)⟩],P.extra⟩
def inU (c:PSG) (n:PNet) (k s:Nat) (v:List UInt8):List Nat→ProdG→ProdG
 |[],P=>P
 |w::r,P=>inU c n k s v r (Zc3 k P w (Zas c n s v w))
def exU (k:Nat) (l:List Nat) (P:ProdG):ProdG:=⟨P.states,P.flips,P.extra++l.map fun w:Nat=>⟨(k:Int),(w:Int), -1⟩⟩
def rdU (c:PSG) (n:PNet) (k:Nat) (b:PSt) (P:ProdG):ProdG:=
 exU k (Zap c n b.state.toNat b.values n.wires.length) (inU c n k b.state.toNat b.values (ZaE c n b.state.toNat b.values n.wires.length) P)
def Zkh (c:PSG) (n:PNet):Nat→Nat→ProdG→Option ProdG
 |0,_,P=>some P
 | f+1,k,P=>match P.states[k]? with
  |none=>some P
  |some b=>if 600<(rdU c n k b P).states.length then none else Zkh c n f (k+1) (rdU c n k b P)
def Zff (c:PSG) (n:PNet):Option ProdG:=Zkh c n 601 0 ⟨[Zhw c n],[],[]⟩
theorem Zg6 (k:Nat) (P:ProdG) (w:Nat) (b:PSt):P.states.length≤(Zc3 k P w b).states.length∧(Zc3 k P w b).states.length≤P.states.length+1∧(Zc3 k P w b).flips.length=P.flips.length+1∧(Zc3 k P w b).extra=P.extra:=by
 unfold Zc3
 split<;>simp
theorem Zgd (c:PSG) (n:PNet) (k s:Nat) (v:List UInt8):∀(l:List Nat) (P:ProdG),P.states.length≤(inU c n k s v l P).states.length∧(inU c n k s v l P).states.length≤P.states.length+l.length∧(inU c n k s v l P).flips.length=P.flips.length+l.length∧(inU c n k s v l P).extra=P.extra
 |[],P=>by simp[inU]
 | w::r,P=>by
  unfold inU
  obtain ⟨h1,h2,h3,h4⟩:=Zg6 k P w (Zas c n s v w)
  obtain ⟨g1,g2,g3,g4⟩:=Zgd c n k s v r (Zc3 k P w (Zas c n s v w))
  simp only[List.length_cons]
  refine ⟨by omega,by omega,by omega,g4.trans h4⟩
theorem Zys {k:Nat} {P:ProdG} {w:Nat} {b x:PSt} {i:Nat} (h:P.states[i]?=some x):(Zc3 k P w b).states[i]?=some x:=by
 unfold Zc3
 split
 ·exact h
 ·have:=(List.getElem?_eq_some_iff.1 h).1
  show (P.states++[b])[i]?=_
  rw[List.getElem?_append_left this]
  exact h
theorem Zow {c:PSG} {n:PNet} {s:Nat} {v:List UInt8} {N w:Nat} (h:w∈ZaE c n s v N):w<N∧Zkg c n s v w=true:=by
 unfold ZaE at h
 rw[List.mem_filter] at h
 exact ⟨List.mem_range.1 h.1,h.2⟩
theorem ZAV {c:PSG} {n:PNet} (h:Go1 c n) {s:Nat} {v:List UInt8} {w:Nat} (hs:s<c.codes.length) (hb:Z1 v n.wires.length=true) (hw:Zkg c n s v w=true):StB c n (Zas c n s v w):=by
 unfold Zas
 by_cases c1:w<n.signals.length
 ·rw[if_pos c1]
  unfold Zkg at hw
  rw[if_neg (by omega),Bool.and_eq_true,decide_eq_true_eq] at hw
  have hsl:w<c.signals.length:=by rw[h.same];exact c1
  have:=toC_in h hs hsl
  exact ⟨(toC c s w).toNat,by show toC c s w=_;omega,by omega,Zpi hb⟩
 ·rw[if_neg c1]
  exact ⟨s,rfl,hs,Zpi hb⟩
theorem ZBT {c:PSG} {n:PNet} {k:Nat} {P:ProdG} {w:Nat} {b:PSt} (hP:∀x∈P.states,StB c n x) (hb:StB c n b):∀x∈(Zc3 k P w b).states,StB c n x:=by
 unfold Zc3
 split
 ·exact hP
 ·intro x hx
  rcases List.mem_append.1 hx with hx|hx
  ·exact hP x hx
  ·rw[List.mem_singleton] at hx;subst hx;exact hb
theorem ZAW {c:PSG} {n:PNet} (h:Go1 c n) {k s:Nat} {v:List UInt8} (hs:s<c.codes.length) (hb:Z1 v n.wires.length=true):∀(l:List Nat) (P:ProdG),(∀w∈l,Zkg c n s v w=true)→(∀x∈P.states,StB c n x)→∀x∈(inU c n k s v l P).states,StB c n x
 |[],P,_,hP=>hP
 |w::r,P,hl,hP=>ZAW h hs hb r _ (fun x hx=>hl x (List.mem_cons_of_mem _ hx)) (ZBT hP (ZAV h hs hb (hl w List.mem_cons_self)))
theorem rdU_ok {c:PSG} {n:PNet} (h:Go1 c n) {k:Nat} {b:PSt} {P:ProdG} (hb:StB c n b) (hP:∀x∈P.states,StB c n x):∀x∈(rdU c n k b P).states,StB c n x:=by
 obtain ⟨s,h1,h2,h3⟩:=hb
 unfold rdU exU
 rw[h1,Int.toNat_natCast]
 exact ZAW h h2 h3 _ _ (fun w hw=>(Zow hw).2) hP
theorem ZkD {n:PNet} {N:Nat}:∀(f k:Nat) (v:List UInt8),Z1 v N=true→Z1 (Zhf n f k v) N=true
 |0,k,v,h=>h
 | f+1,k,v,h=>by
  unfold Zhf
  exact ZkD f _ _ (ZpI h _)
theorem Zm4 {c:PSG} {n:PNet} (h:Go1 c n):StB c n (Zhw c n):=by
 obtain ⟨x,hx,hb⟩:=h.code
 refine ⟨0,rfl,by have:=h.one;omega, ?_⟩
 unfold Zhw ZeA
 rw[List.getD_eq_getElem?_getD,hx]
 exact ZkD _ _ _ (ZpJ hb (ZaQ h.net).1)
theorem StB.mk' {c:PSG} {n:PNet} {b:PSt} (h:StB c n b):∃s:Nat,b=⟨(s:Int),b.values⟩∧s<c.codes.length∧Z1 b.values n.wires.length=true:=by
 obtain ⟨s,h1,h2,h3⟩:=h
 refine ⟨s, ?_,h2,h3⟩
 cases b
 simp only at h1
 rw[h1]
structure Pi (c:PSG) (n:PNet) (k:Nat) (P:ProdG):Prop where
 ok:∀x∈P.states,StB c n x
 len:P.states.length≤600
 fl:P.flips.length≤24 * k
 ex:P.extra.length≤24 * k
theorem ZkY (c:PSG) (n:PNet) (s:Nat) (v:List UInt8) (N:Nat):(Zap c n s v N).length≤N:=ZeV _ _
theorem Zpl (c:PSG) (n:PNet) (s:Nat) (v:List UInt8) (N:Nat):(ZaE c n s v N).length≤N:=ZeV _ _
theorem Pi.next {c:PSG} {n:PNet} (h:Go1 c n) {k:Nat} {P:ProdG} (hP:Pi c n k P) {b:PSt} (hb:P.states[k]?=some b) (hl:¬600<(rdU c n k b P).states.length):Pi c n (k+1) (rdU c n k b P):=by
 have hbs:=hP.ok b (List.mem_of_getElem? hb)
 have hn:=(ZaQ h.net).2
 have h1:=Zpl c n b.state.toNat b.values n.wires.length
 have h2:=ZkY c n b.state.toNat b.values n.wires.length
 obtain ⟨g1,g2,g3,g4⟩:=Zgd c n k b.state.toNat b.values (ZaE c n b.state.toNat b.values n.wires.length) P
 have h3:=hP.fl
 have h4:=hP.ex
 refine ⟨rdU_ok h hbs hP.ok,by omega, ?_, ?_⟩
 ·show (inU c n k b.state.toNat b.values _ P).flips.length≤_
  omega
 ·show ((inU c n k b.state.toNat b.values _ P).extra++List.map _ _).length≤_
  rw[g4,List.length_append,List.length_map]
  omega
theorem ZAX (x y:PSt):eqV (some [(0,TD.int IntKind.i64),(1,TD.str)]) TD.struct (.agg [pI x.state,.str x.values]) (.agg [pI y.state,.str y.values])=some (decide (x=y)):=by
 have e:decide (x=y)=((x.state==y.state)&&((x.values==y.values)&&true)):=by
  rw[Bool.eq_iff_iff]
  cases x;cases y
  simp only[decide_eq_true_eq,Bool.and_eq_true,PSt.mk.injEq,beq_iff_eq,and_true]
 rw[e]
 show (some (x.state==y.state)).bind (fun b=>(some ((x.values==y.values)&&true)).map fun c=>b&&c)=_
 rfl
theorem ZrH (b:PSt):∀(l:List PSt) (k:Nat),ixf (fun x=>decide (x=b)) k l=if b∈l then ((k+l.idxOf b:Nat):Int) else -1
 |[],k=>by simp[ixf]
 | x::r,k=>by
  unfold ixf
  by_cases c:x=b
  ·subst c
   simp
  ·have h:(x::r).idxOf b=r.idxOf b+1:=by rw[List.idxOf_cons,beq_eq_false_iff_ne.2 c];rfl
   have hm:b∈x::r↔b∈r:=by rw[List.mem_cons];exact ⟨fun h=>h.resolve_left (fun e=>c e.symm),.inr⟩
   rw[decide_eq_false c,if_neg (by simp),ZrH b r (k+1),h]
   simp only[hm]
   rw[show k+1+r.idxOf b=k+(r.idxOf b+1) by omega]
theorem Zuz (l:List PSt) (b:PSt) (hl:ZA l):Zgx [.lst (l.map ePs),ePs b]=some (pI (if b∈l then (l.idxOf b:Nat) else -1)):=by
 unfold ZA at hl
 show (fun x0 x1=>Zgx [x0,x1]) _ _=_
 rw[ZtB]
 simp only[ePs,EVS]
 refine (congrArg (fun m:Option PV=>m.bind fun r=>if r.sc=true then some r else none) (Zc4 l (fun x=>decide (x=b)) _ hl (fun again k x hx=> ?_) (fun again=> ?_))).trans ?_
 ·have hk:=Ze hx
  have hi:Zk (.lst (l.map ePs)) (.int .i64 (k:Int))=some (ePs x):=Zj hx
  have he:=ZAX x b
  have hf:(fun b:PSt=>PV.agg [pI b.state,PV.str b.values])=ePs:=rfl
  simp only[ePs] at hi
  cases c:decide (x=b)<;>rw[c] at he<;>simp only[Zr hk,Zi hk hl,hi,ZK,sp2,he,Bool.false_eq_true,if_false,if_true,EVS]
 ·simp only[ZV,EVS]
  rfl
 ·rw[ZrH,Nat.zero_add]
  rfl
def Zmb :PV:=.agg [.lst [],.lst [],.lst []]
def ZuA {R:Type} (c:PSG) (n:PNet) (k s:Nat) (v:List UInt8) (z:Option R) (P:ProdG) (_:Nat) (w:Nat):Sum ProdG (Option R):=
 if Zas c n s v w∉P.states∧P.states.length=600 then .inr z else .inl (Zc3 k P w (Zas c n s v w))
theorem Zpm {R:Type} (c:PSG) (n:PNet) (k s:Nat) (v:List UInt8) (z:Option R) (e:ProdG→Option R):∀(l:List Nat) (i:Nat) (P:ProdG),P.states.length≤600→
 Z5 (ZuA c n k s v z) e i P l=if (inU c n k s v l P).states.length≤600 then e (inU c n k s v l P) else z
 |[],i,P,h=>by rw[show inU c n k s v [] P=P from rfl,if_pos h];rfl
 | w ::r,i,P,h=>by
  unfold Z5 ZuA inU
  by_cases c1:Zas c n s v w∉P.states∧P.states.length=600
  ·rw[if_pos c1]
   have h1:(Zc3 k P w (Zas c n s v w)).states.length=601:=by unfold Zc3;rw[if_neg c1.1];simp[c1.2]
   have h2:=(Zgd c n k s v r (Zc3 k P w (Zas c n s v w))).1
   rw[if_neg (by omega)]
  ·rw [if_neg c1]
   have h1:(Zc3 k P w (Zas c n s v w)).states.length≤600:=by
    unfold Zc3
    split
    ·exact h
    ·rename_i hm
     have:P.states.length≠600:=fun e=>c1 ⟨hm,e⟩
     simp
     omega
   exact Zpm c n k s v z e r (i+1) _ h1
theorem ZsG {R:Type} (k:Nat) (e:ProdG→Option R):∀(l:List Nat) (i:Nat) (P:ProdG),Z5 (fun (P:ProdG) (_:Nat) (w:Nat)=>.inl ⟨P.states,P.flips,P.extra++[⟨(k:Int),(w:Int), -1⟩]⟩) e i P l=e (exU k l P)
 |[],i,P=>by cases P;simp[Z5,exU]
 | w::r,i,P=>by
  show Z5 _ e (i+1) _ r=_
  rw[ZsG k e r]
  unfold exU
  simp[List.append_assoc]
theorem ZrI (a b c x y z:PV):splice (splice (splice [a,b,c] 0 [x]) 1 [y]) 2 [z]=[x,y,z]:=rfl
theorem grp3 (a b c x y z:PV):Zpe [a,b,c] 0 (.agg [x,y,z])=some (.agg [x,y,z]):=rfl
theorem Zf5 (a b c x y z:PV):splice [a,b,c] 0 [x,y,z]=[x,y,z]:=rfl
def prR (r:Option ProdG):PV:=match r with|some P=>.tup [ePr P,pB true]|none=>.tup [Zmb,pB false]
theorem Zpn (c:PSG) (n:PNet) (h:Go1 c n):Zd6 [eSG c,Zo n]=some (prR (Zff c n)):=by
 have g0:=ZsE c n h
 have hn24:=(ZaQ h.net).2
 show (fun x0 x1=>Zd6 [x0,x1]) _ _=_
 rw[Zog]
 simp only[eSG,Zo,ePs] at g0
 simp only[eSG,Zo,ZK,ZR,g0,Zf5,grp3,EVS]
 unfold Zff
 refine (ZaP (R:=PV) (fun q:{q:ProdG×Nat // Pi c n q.2 q.1∧q.2≤q.1.states.length}=>[ePr q.1.1,pI (Int.ofNat q.1.2)]) (fun q=>601 - q.1.2) (fun q=>some (prR (Zkh c n (601 - q.1.2) q.1.2 q.1.1))) _ (fun again q ih=> ?_) _ ⟨(⟨[Zhw c n],[],[]⟩,0),⟨fun x hx=>by rw[List.mem_singleton] at hx;subst hx;exact Zm4 h,by simp,by simp,by simp⟩,by simp⟩ (by simp only;omega))
 obtain ⟨⟨P,k⟩,hP,hk⟩:=q
 dsimp only at ih hP hk⊢
 have hlen:=hP.len
 by_cases ck:k<P.states.length
 ·obtain ⟨b,hb⟩:∃b,P.states[k]?=some b:=⟨P.states[k],List.getElem?_eq_getElem ck⟩
  obtain ⟨s,hbe,hs,hbits⟩:=(hP.ok b (List.mem_of_getElem? hb)).mk'
  obtain ⟨v,hv⟩:∃v,b.values=v:=⟨_,rfl⟩
  rw[hv] at hbe hbits
  subst hbe
  have g1:=Zuy c n h s v hs hbits
  have p1:ZaM (P.states.map ePs) (.int .i64 (k:Int))=some (.int .i64 (k:Int)):=ZbG (by rw[List.length_map];exact ck)
  have q1:(P.states.map ePs)[k]?=some (.agg [pI (s:Int),.str v]):=by rw[List.getElem?_map,hb];rfl
  have hcl:=Zpl c n s v n.wires.length
  have hxl:=ZkY c n s v n.wires.length
  simp only[eSG,Zo,ePs] at g1
  simp only[ePr,List.length_map,Zr ck,p1,q1,Int.toNat_natCast,ZK,ZR,g1,EVS]
  have hst:Zkh c n (601 - k) k P=if 600<(rdU c n k ⟨(s:Int),v⟩ P).states.length then none else Zkh c n (600 - k) (k+1) (rdU c n k ⟨(s:Int),v⟩ P):=by
   rw[show 601 - k=(600 - k)+1 by omega]
   show (match P.states[k]? with|none=>some P|some b=>_)=_
   rw[hb]
  rw[hst]
  obtain ⟨L,hL⟩:∃L,ZaE c n s v n.wires.length=L:=⟨_,rfl⟩
  obtain ⟨X,hX⟩:∃X,Zap c n s v n.wires.length=X:=⟨_,rfl⟩
  have hrd:rdU c n k ⟨(s:Int),v⟩ P=exU k X (inU c n k s v L P):=by unfold rdU;rw[Int.toNat_natCast,hL,hX]
  have hLok:∀w∈L,Zkg c n s v w=true:=fun w hw=>by rw[←hL] at hw;exact (Zow hw).2
  rw[hrd,hL,hX]
  rw[hL] at hcl
  rw[hX] at hxl
  refine (ZaI (R:=PV) L (fun (P:ProdG) i=>[ePr P,pI (Int.ofNat i)]) (fun i Q=>Q.states.length≤600∧Q.flips.length=P.flips.length+i∧Q.extra=P.extra) (ZuA c n k s v (some (.tup [Zmb,pB false]))) (fun Q=>again [ePr (exU k X Q),pI (Int.ofNat (k+1))]) _ (by omega) (fun Q i w Q' hi hw he=> ?_) (fun again1 Q i w hi hw=> ?_) (fun again1 Q hi=> ?_) (b:=P) ⟨hlen,rfl,rfl⟩).trans ((Zpm c n k s v _ _ L 0 P hlen).trans ?_)
  ·unfold ZuA at he
   split at he
   ·cases he
   ·rename_i c1
    cases he
    obtain ⟨a1,a2,a3,a4⟩:=Zg6 k Q w (Zas c n s v w)
    refine ⟨?_,by omega,a4.trans hi.2.2⟩
    unfold Zc3
    split
    ·exact hi.1
    ·rename_i hm
     have:Q.states.length≠600:=fun e=>c1 ⟨hm,e⟩
     have:=hi.1
     simp
     omega
  ·have hil:=Ze hw
   obtain ⟨i1,i2,i3⟩:=hi
   have hPf:=hP.fl
   have hix:Zk (.lst (L.map fun k=>ePs (Zas c n s v k))) (.int .i64 (i:Int))=some (ePs (Zas c n s v w)):=Zj (enc:=fun k=>ePs (Zas c n s v k)) hw
   have hiw:Zk (.lst (L.map eNn)) (.int .i64 (i:Int))=some (pI (w:Int)):=Zj (enc:=eNn) hw
   have g2:=Zuz Q.states (Zas c n s v w) (by unfold ZA;omega)
   obtain ⟨bb,hbb⟩:∃bb,Zas c n s v w=bb:=⟨_,rfl⟩
   rw[hbb] at hix g2
   have hnx:=Zi hil (show L.length≤9223372036854775807 by omega)
   have hlb:Q.states.length+[PV.agg [pI bb.state,.str bb.values]].length≤4294967296∧[PV.agg [pI bb.state,.str bb.values]].all (Zal 2)=true:=⟨by simp;omega,rfl⟩
   have hla:∀t:Int,Q.flips.length+[PV.agg [pI (k:Int),pI (w:Int),pI t]].length≤4294967296∧[PV.agg [pI (k:Int),pI (w:Int),pI t]].all (Zal 3)=true:=fun t=>⟨by simp;omega,rfl⟩
   unfold ZuA Zc3
   rw[hbb]
   simp only[ePs] at hix g2
   by_cases c1:bb∈Q.states
   ·rw[if_neg (fun h=>h.1 c1),if_pos c1]
    rw[if_pos c1] at g2
    have hneg:decide (((Q.states.idxOf bb:Nat):Int)<0)=false:=by simp only[decide_eq_false_iff_not];omega
    simp only[ePr,List.length_map,Zr hil,hix,ZK,sp2,g2,hneg,hiw,ZrI,if_pos (hla _),hnx,List.map_append,List.map_cons,List.map_nil,eFl,EVS]
   ·rw[if_neg c1] at g2
    have hneg:decide ((-1:Int)<0)=true:=rfl
    by_cases c2:Q.states.length=600
    ·rw[if_pos ⟨c1,c2⟩]
     have h6:decide ((Q.states.length:Int)=600)=true:=by simp only[decide_eq_true_eq];omega
     simp only[ePr,List.length_map,Zr hil,hix,ZK,sp2,g2,hneg,h6,Zf5,EVS]
     rfl
    ·rw[if_neg (fun h=>c2 h.2),if_neg c1]
     have h6:decide ((Q.states.length:Int)=600)=false:=by simp only[decide_eq_false_iff_not];omega
     simp only[ePr,List.length_map,Zr hil,hix,ZK,sp2,g2,hneg,h6,hiw,ZrI,if_pos hlb,if_pos (hla _),hnx,List.map_append,List.map_cons,List.map_nil,eFl,EVS]
     rfl
  ·have hxx:X.length≤9223372036854775807:=by omega
   have hPe:=hP.ex
   simp only[List.length_map,ZV,EVS]
   refine (ZaI (R:=PV) X (fun (P:ProdG) i=>[ePr P,pI (Int.ofNat i)]) (fun i Q'=>Q'.states.length≤600∧Q'.extra.length=P.extra.length+i) (fun (P:ProdG) (_:Nat) (w:Nat)=>.inl ⟨P.states,P.flips,P.extra++[⟨(k:Int),(w:Int), -1⟩]⟩) (fun Q=>again [ePr Q,pI (Int.ofNat (k+1))]) _ hxx (fun Q' i w Q2 hi' hw he=> ?_) (fun again2 Q' i w hi' hw=> ?_) (fun again2 Q' hi'=> ?_) (b:=Q) ⟨hi.1,by rw[hi.2.2];rfl⟩).trans (ZsG k _ X 0 Q)
   ·cases he
    exact ⟨hi'.1,by simp;omega⟩
   ·have hil:=Ze hw
    have hiw:Zk (.lst (X.map eNn)) (.int .i64 (i:Int))=some (pI (w:Int)):=Zj (enc:=eNn) hw
    have hla:Q'.extra.length+[PV.agg [pI (k:Int),pI (w:Int),pI (-1)]].length≤4294967296∧[PV.agg [pI (k:Int),pI (w:Int),pI (-1)]].all (Zal 3)=true:=⟨by simp;omega,rfl⟩
    have hneg:(Int.negSucc 0)=(-1:Int):=rfl
    simp only[ePr,List.length_map,Zr hil,hiw,ZrI,hneg,if_pos hla,Zi hil hxx,List.map_append,List.map_cons,List.map_nil,eFl,EVS]
   ·simp only[ZV,Zi ck (show P.states.length≤9223372036854775807 by omega),EVS]
  ·by_cases c6:(inU c n k s v L P).states.length≤600
   ·have hx6:¬600<(exU k X (inU c n k s v L P)).states.length:=by show ¬600<(inU c n k s v L P).states.length;omega
    rw[if_pos c6,if_neg hx6]
    have hnx:=Pi.next h hP hb (by rw[hrd];exact hx6)
    rw[hrd] at hnx
    have hkl:k+1≤(exU k X (inU c n k s v L P)).states.length:=by
     have:=(Zgd c n k s v L P).1
     show k+1≤(inU c n k s v L P).states.length
     omega
    have:=ih ⟨(exU k X (inU c n k s v L P),k+1),hnx,hkl⟩ (by simp only;omega)
    rw[show 601 - (k+1)=600 - k by omega] at this
    exact this
   ·rw[if_neg c6,if_pos (show 600<(exU k X (inU c n k s v L P)).states.length by show 600<(inU c n k s v L P).states.length;omega)]
    rfl
 ·obtain rfl:k=P.states.length:=by omega
  have hst:Zkh c n (601 - P.states.length) P.states.length P=some P:=by
   rw[show 601 - P.states.length=(600 - P.states.length)+1 by omega]
   show (match P.states[P.states.length]? with|none=>some P|some b=>_)=_
   rw[List.getElem?_eq_none (by omega)]
  rw[hst]
  simp only[ePr,List.length_map,ZV,ZR,Zf5,EVS]
  rfl
def ZsH (g:Nat→PV):Nat→List PSt→List (PV×PV)
 |_,[]=>[]
 |k,b::r=>(ePs b,g k)::ZsH g (k+1) r
theorem ZrJ (g:Nat→PV) (a:PSt):∀(l:List PSt) (k:Nat),ZsH g k (l++[a])=ZsH g k l++[(ePs a,g (k+l.length))]
 |[],k=>rfl
 | x::r,k=>by
  show (ePs x,g k)::ZsH g (k+1) (r++[a])=_
  rw[ZrJ g a r (k+1)]
  simp only[ZsH,List.length_cons,List.cons_append]
  rw[show k+1+r.length=k+(r.length+1) by omega]
theorem findP (g:Nat→PV) (s:PSt):∀(l:List PSt) (k i:Nat),Zfb (some [(0,TD.int IntKind.i64),(1,TD.str)]) TD.struct (ZsH g k l) (.agg [pI s.state,.str s.values]) i=some (if s∈l then some (i+l.idxOf s,g (k+l.idxOf s)) else none)
 |[],k,i=>rfl
 | x::r,k,i=>by
  unfold ZsH Zfb
  rw[show ePs x=.agg [pI x.state,.str x.values] from rfl,ZAX]
  by_cases c:x=s
  ·subst c
   simp
  ·have h:(x::r).idxOf s=r.idxOf s+1:=by rw[List.idxOf_cons,beq_eq_false_iff_ne.2 c];rfl
   have hm:s∈x::r↔s∈r:=by rw[List.mem_cons];exact ⟨fun h=>h.resolve_left (fun e=>c e.symm),.inr⟩
   simp only[obs,c,show ¬s=x from fun e=>c e.symm,decide_false,Bool.false_eq_true,if_false,findP g s r (k+1) (i+1),hm,h]
   by_cases c2:s∈r
   ·rw[if_pos c2,if_pos c2,show i+1+r.idxOf s=i+(r.idxOf s+1) by omega,show k+1+r.idxOf s=k+(r.idxOf s+1) by omega]
   ·rw[if_neg c2,if_neg c2]
theorem keyP (a:PSt):((eqV (some [(0,TD.int IntKind.i64),(1,TD.str)]) TD.struct (.agg [pI a.state,.str a.values]) (.agg [pI a.state,.str a.values])).elim false fun x=>true)=true:=by rw[ZAX];rfl
theorem ZAY (l:List (PV×PV)):Zwo (.map l)=some l:=rfl
theorem zpInt' :Zbb (TI.mk 1 8 (TD.int .i64) [ZC.int .i64] [] false)=.int .i64 0:=rfl
def ixP (l:List PSt):PV:=.map (ZsH (fun i=>pI i) 0 l)
theorem ZAZ (l:List PSt) (a:PSt):PV.map (ZsH (fun i=>pI i) 0 l++[(.agg [pI a.state,.str a.values],pI (l.length:Int))])=ixP (l++[a]):=by
 unfold ixP
 rw[ZrJ,Nat.zero_add]
 rfl
theorem ZrK {R:Type} (c:PSG) (n:PNet) (k s:Nat) (v:List UInt8) (e:ProdG→Option R):∀(l:List Nat) (i:Nat) (P:ProdG),Z5 (fun (P:ProdG) (_:Nat) (w:Nat)=>.inl (Zc3 k P w (Zas c n s v w))) e i P l=e (inU c n k s v l P)
 |[],i,P=>rfl
 |w::r,i,P=>ZrK c n k s v e r (i+1) _
theorem ZsI (c:PSG) (n:PNet) (h:Go1 c n):ZbE [Zb2 c n]=some (prR (Zff c n)):=by
 have g0:=Zuw c n h
 have hn24:=(ZaQ h.net).2
 obtain ⟨f0,hf0⟩:∃f0,Zhw c n=f0:=⟨_,rfl⟩
 have p00:ZaM [PV.agg [pI f0.state,.str f0.values]] (.int .i64 ((0:Nat):Int))=some (.int .i64 ((0:Nat):Int)):=ZbG (by simp)
 have hk0:=keyP f0
 have hix0:PV.map ([]++[(PV.agg [pI f0.state,.str f0.values],pI 0)])=ixP [f0]:=rfl
 simp only[Int.natCast_zero] at p00
 show (fun x0=>ZbE [x0]) _=_
 rw[Zjm]
 rw[hf0] at g0
 simp only[Zb2,ePs] at g0
 simp only[Zb2,Zn4,g0,Zf5,grp3,p00,Int.toNat_zero,List.getElem?_cons_zero,ZK,hk0,hix0,if_true,EVS]
 unfold Zff
 rw[hf0]
 refine (ZaP (R:=PV) (fun q:{q:ProdG×Nat // Pi c n q.2 q.1∧q.2≤q.1.states.length}=>[ixP q.1.1.states,ePr q.1.1,pI (Int.ofNat q.1.2)]) (fun q=>601 - q.1.2) (fun q=>some (prR (Zkh c n (601 - q.1.2) q.1.2 q.1.1))) _ (fun again q ih=> ?_) _ ⟨(⟨[f0],[],[]⟩,0),⟨fun x hx=>by rw[List.mem_singleton] at hx;subst hx;rw[←hf0];exact Zm4 h,by simp,by simp,by simp⟩,by simp⟩ (by simp only;omega))
 obtain ⟨⟨P,k⟩,hP,hk⟩:=q
 dsimp only at ih hP hk⊢
 have hlen:=hP.len
 by_cases ck:k<P.states.length
 ·obtain ⟨b,hb⟩:∃b,P.states[k]?=some b:=⟨P.states[k],List.getElem?_eq_getElem ck⟩
  obtain ⟨s,hbe,hs,hbits⟩:=(hP.ok b (List.mem_of_getElem? hb)).mk'
  obtain ⟨v,hv⟩:∃v,b.values=v:=⟨_,rfl⟩
  rw[hv] at hbe hbits
  subst hbe
  have g1:=Zpj c n h s v hs hbits
  have g3:=Zpk c n h s v hs hbits
  have p1:ZaM (P.states.map ePs) (.int .i64 (k:Int))=some (.int .i64 (k:Int)):=ZbG (by rw[List.length_map];exact ck)
  have q1:(P.states.map ePs)[k]?=some (.agg [pI (s:Int),.str v]):=by rw[List.getElem?_map,hb];rfl
  have hcl:=Zpl c n s v n.wires.length
  have hxl:=ZkY c n s v n.wires.length
  simp only[Zb2,ePs] at g1 g3
  simp only[ePr,List.length_map,Zr ck,p1,q1,Int.toNat_natCast,Zn4,ZK,g1,EVS]
  have hst:Zkh c n (601 - k) k P=if 600<(rdU c n k ⟨(s:Int),v⟩ P).states.length then none else Zkh c n (600 - k) (k+1) (rdU c n k ⟨(s:Int),v⟩ P):=by
   rw[show 601 - k=(600 - k)+1 by omega]
   show (match P.states[k]? with|none=>some P|some b=>_)=_
   rw[hb]
  rw[hst]
  obtain ⟨L,hL⟩:∃L,ZaE c n s v n.wires.length=L:=⟨_,rfl⟩
  obtain ⟨X,hX⟩:∃X,Zap c n s v n.wires.length=X:=⟨_,rfl⟩
  have hrd:rdU c n k ⟨(s:Int),v⟩ P=exU k X (inU c n k s v L P):=by unfold rdU;rw[Int.toNat_natCast,hL,hX]
  have hLok:∀w∈L,Zkg c n s v w=true:=fun w hw=>by rw[←hL] at hw;exact (Zow hw).2
  rw[hX] at g3
  rw[hrd,hL]
  rw[hL] at hcl
  rw[hX] at hxl
  refine (ZaI (R:=PV) L (fun (P:ProdG) i=>[ixP P.states,ePr P,pI (Int.ofNat i)]) (fun i Q=>(Q.states.length≤P.states.length+i∧Q.states[k]?=some ⟨(s:Int),v⟩)∧Q.flips.length=P.flips.length+i∧Q.extra=P.extra) (fun (P:ProdG) (_:Nat) (w:Nat)=>.inl (Zc3 k P w (Zas c n s v w))) (fun Q=>if 600<Q.states.length then some (.tup [Zmb,pB false]) else again [ixP Q.states,ePr (exU k X Q),pI (Int.ofNat (k+1))]) _ (by omega) (fun Q i w Q' hi hw he=> ?_) (fun again1 Q i w hi hw=> ?_) (fun again1 Q hi=> ?_) (b:=P) ⟨⟨by omega,hb⟩,rfl,rfl⟩).trans ((ZrK c n k s v _ L 0 P).trans ?_)
  ·cases he
   obtain ⟨a1,a2,a3,a4⟩:=Zg6 k Q w (Zas c n s v w)
   exact ⟨⟨by omega,Zys hi.1.2⟩,by omega,a4.trans hi.2.2⟩
  ·have hil:=Ze hw
   obtain ⟨⟨i1,i0⟩,i2,i3⟩:=hi
   have hPf:=hP.fl
   have hix:Zk (.lst (L.map fun k=>ePs (Zas c n s v k))) (.int .i64 (i:Int))=some (ePs (Zas c n s v w)):=Zj (enc:=fun k=>ePs (Zas c n s v k)) hw
   have hiw:Zk (.lst (L.map eNn)) (.int .i64 (i:Int))=some (pI (w:Int)):=Zj (enc:=eNn) hw
   obtain ⟨bb,hbb⟩:∃bb,Zas c n s v w=bb:=⟨_,rfl⟩
   rw[hbb] at hix
   have g2:=findP (fun i=>pI i) bb Q.states 0 0
   have hkk:=keyP bb
   have hnx:=Zi hil (show L.length≤9223372036854775807 by omega)
   have hlb:Q.states.length+[PV.agg [pI bb.state,.str bb.values]].length≤4294967296∧[PV.agg [pI bb.state,.str bb.values]].all (Zal 2)=true:=⟨by simp;omega,rfl⟩
   have hla:∀t:Int,Q.flips.length+[PV.agg [pI (k:Int),pI (w:Int),pI t]].length≤4294967296∧[PV.agg [pI (k:Int),pI (w:Int),pI t]].all (Zal 3)=true:=fun t=>⟨by simp;omega,rfl⟩
   unfold Zc3
   rw[hbb]
   simp only[ePs] at hix
   by_cases c1:bb∈Q.states
   ·rw[if_pos c1]
    rw[if_pos c1] at g2
    simp only[Nat.zero_add] at g2
    simp only[ePr,ixP,List.length_map,Zr hil,hix,ZK,sp2,ZAY,hkk,g2,hiw,ZrI,Option.elim_some,if_pos (hla _),hnx,List.map_append,List.map_cons,List.map_nil,eFl,if_true,EVS]
   ·rw[if_neg c1]
    rw[if_neg c1] at g2
    have hN:=ZAZ Q.states bb
    unfold ixP at hN
    simp only[ePr,ixP,List.length_map,Zr hil,hix,ZK,sp2,ZAY,hkk,g2,hiw,ZrI,zpInt',Option.elim_none,if_pos hlb,if_pos (hla _),hnx,hN,List.map_append,List.map_cons,List.map_nil,eFl,if_true,EVS]
    rfl
  ·obtain ⟨⟨i1,i0⟩,i2,i3⟩:=hi
   have hxx:X.length≤9223372036854775807:=by omega
   have hPe:=hP.ex
   have p2:ZaM (Q.states.map ePs) (.int .i64 (k:Int))=some (.int .i64 (k:Int)):=ZbG (by rw[List.length_map];exact (List.getElem?_eq_some_iff.1 i0).1)
   have q2:(Q.states.map ePs)[k]?=some (.agg [pI (s:Int),.str v]):=by rw[List.getElem?_map,i0];rfl
   simp only[ePr,List.length_map,ZV,p2,q2,Int.toNat_natCast,Zn4,ZK,g3,EVS]
   refine (ZaI (R:=PV) X (fun (P:ProdG) i=>[ePr P,pI (Int.ofNat i)]) (fun i Q'=>Q'.states=Q.states∧Q'.extra.length=P.extra.length+i) (fun (P:ProdG) (_:Nat) (w:Nat)=>.inl ⟨P.states,P.flips,P.extra++[⟨(k:Int),(w:Int), -1⟩]⟩) (fun Q'=>if 600<Q'.states.length then some (.tup [Zmb,pB false]) else again [ixP Q'.states,ePr Q',pI (Int.ofNat (k+1))]) _ hxx (fun Q' i w Q2 hi' hw he=> ?_) (fun again2 Q' i w hi' hw=> ?_) (fun again2 Q' hi'=> ?_) (b:=Q) ⟨rfl,by rw[i3];rfl⟩).trans (ZsG k _ X 0 Q)
   ·cases he
    exact ⟨hi'.1,by simp;omega⟩
   ·have hil:=Ze hw
    have p3:ZaM (X.map eNn) (.int .i64 (i:Int))=some (.int .i64 (i:Int)):=ZbG (by rw[List.length_map];exact hil)
    have q3:(X.map eNn)[i]?=some (pI (w:Int)):=by rw[List.getElem?_map,hw];rfl
    have hla:Q'.extra.length+[PV.agg [pI (k:Int),pI (w:Int),pI (-1)]].length≤4294967296∧[PV.agg [pI (k:Int),pI (w:Int),pI (-1)]].all (Zal 3)=true:=⟨by simp;omega,rfl⟩
    have hneg:(Int.negSucc 0)=(-1:Int):=rfl
    simp only[ePr,List.length_map,Zr hil,p3,q3,Int.toNat_natCast,ZrI,hneg,if_pos hla,Zi hil hxx,List.map_append,List.map_cons,List.map_nil,eFl,EVS]
   ·have hks:=(List.getElem?_eq_some_iff.1 i0).1
    by_cases c6:600<Q'.states.length
    ·have c6':decide ((600:Int)<(Q'.states.length:Int))=true:=by simp only[decide_eq_true_eq];omega
     rw[if_pos c6]
     simp only[ePr,List.length_map,ZV,c6',Zf5,EVS]
     rfl
    ·have c6':decide ((600:Int)<(Q'.states.length:Int))=false:=by simp only[decide_eq_false_iff_not];omega
     rw[if_neg c6]
     rw[hi'.1] at c6'
     simp only[ePr,List.length_map,ZV,c6',Zi ck (show P.states.length≤9223372036854775807 by omega),hi'.1,EVS]
  ·by_cases c6:(inU c n k s v L P).states.length≤600
   ·have hx6:¬600<(exU k X (inU c n k s v L P)).states.length:=by show ¬600<(inU c n k s v L P).states.length;omega
    rw[if_neg (show ¬600<(inU c n k s v L P).states.length by omega),if_neg hx6]
    have hnx:=Pi.next h hP hb (by rw[hrd];exact hx6)
    rw[hrd] at hnx
    have hkl:k+1≤(exU k X (inU c n k s v L P)).states.length:=by
     have:=(Zgd c n k s v L P).1
     show k+1≤(inU c n k s v L P).states.length
     omega
    have:=ih ⟨(exU k X (inU c n k s v L P),k+1),hnx,hkl⟩ (by simp only;omega)
    rw[show 601 - (k+1)=600 - k by omega] at this
    exact this
   ·rw[if_pos (show 600<(inU c n k s v L P).states.length by omega),if_pos (show 600<(exU k X (inU c n k s v L P)).states.length by show 600<(inU c n k s v L P).states.length;omega)]
    rfl
 ·obtain rfl:k=P.states.length:=by omega
  have hst:Zkh c n (601 - P.states.length) P.states.length P=some P:=by
   rw[show 601 - P.states.length=(600 - P.states.length)+1 by omega]
   show (match P.states[P.states.length]? with|none=>some P|some b=>_)=_
   rw[List.getElem?_eq_none (by omega)]
  rw[hst]
  simp only[ePr,List.length_map,ZV,ZR,Zf5,EVS]
  rfl
def ZC0 (n:PNet) (v v':List UInt8) (j:Nat):Bool:=Zp n v j&& !Zp n v' j
def ZBD (n:PNet) (v v':List UInt8) (k:Int) (j:Nat):List Nat:=(List.range j).filter fun j=> !decide ((j:Int)=k)&&ZC0 n v v' j
theorem ZDj (c:PSG) (n:PNet) (h:Go1 c n) (s s':Int) (v v':List UInt8) (k:Int) (hb:Z1 v n.wires.length=true) (hb':Z1 v' n.wires.length=true):
 ZAr [Zb2 c n,ePs ⟨s,v⟩,ePs ⟨s',v'⟩,pI k]=some (.lst ((ZBD n v v' k n.wires.length).map eNn)):=by
 obtain ⟨h1,h2,h3,h4,h5,h6⟩:=h.vals hb
 obtain ⟨h1',h2',h3',_,_,_⟩:=h.vals hb'
 show (fun x0 x1 x2 x3=>ZAr [x0,x1,x2,x3]) _ _ _ _=_
 rw[ZCv]
 simp only[Zb2,ePs,List.length_map,EVS]
 refine (Zel (R:=PV) 0 n.wires.length (fun j=>[.lst ((ZBD n v v' k j).map eNn),pI (Int.ofNat j)]) (some (.lst ((ZBD n v v' k n.wires.length).map eNn))) _ (by omega) (fun again j k1 k2=> ?_) (fun again=> ?_) (Nat.zero_le _) _ (by simp[ZBD]))
 ·have a1:=ZdV n v j h.fitn h2 h1 k2
  have a2:=ZdV n v' j h.fitn h2' h1' k2
  simp only[Zo] at a1 a2
  have hcl:(ZBD n v v' k j).length≤j:=ZeV _ j
  have hm:n.wires.length≤9223372036854775807:=by omega
  have hlb:(ZBD n v v' k j).length+[pI (j:Int)].length≤4294967296∧[pI (j:Int)].all (Zal 1)=true:=⟨by simp;omega,rfl⟩
  have hE:(fun j:Nat=> !decide ((j:Int)=k)&&ZC0 n v v' j) j=(!decide ((j:Int)=k)&&(Zp n v j&& !Zp n v' j)):=rfl
  cases c1:decide ((j:Int)=k)<;>cases c2:Zp n v j<;>cases c3:Zp n v' j<;>rw[c1,c2,c3] at hE<;>simp only[Bool.not_true,Bool.not_false,Bool.and_true,Bool.and_false,Bool.true_and,Bool.false_and] at hE
  all_goals first
   | (have e1:ZBD n v v' k (j+1)=ZBD n v v' k j:=Zdz hE
      simp only[Zr k2,c1,c2,c3,Zm3,a1,a2,Zi k2 hm,e1,EVS])
   | (have e1:ZBD n v v' k (j+1)=ZBD n v v' k j++[j]:=ZeU hE
      simp only[Zr k2,c1,c2,c3,Zm3,a1,a2,if_pos hlb,Zi k2 hm,e1,List.map_append,List.map_cons,List.map_nil,eNn,EVS])
 ·simp only[ZV,EVS]
structure PrU (c:PSG) (n:PNet) (P:ProdG):Prop where
 ok:∀x∈P.states,StB c n x
 one:1≤P.states.length
 len:P.states.length≤600
 few:P.flips.length≤14400
 xfew:P.extra.length≤14400
 fl:∀f∈P.flips,0≤f.from_∧f.from_<P.states.length∧0≤f.to∧f.to<P.states.length∧0≤f.wire∧f.wire<n.wires.length
 xl:∀f∈P.extra,0≤f.from_∧f.from_<P.states.length∧f.to= -1∧0≤f.wire∧f.wire<n.wires.length
structure Pj (n:PNet) (P:ProdG):Prop where
 fl:∀f∈P.flips,0≤f.from_∧f.from_<P.states.length∧0≤f.to∧f.to<P.states.length∧0≤f.wire∧f.wire<n.wires.length
 xl:∀f∈P.extra,0≤f.from_∧f.from_<P.states.length∧f.to= -1∧0≤f.wire∧f.wire<n.wires.length
theorem Pj.add {n:PNet} {P:ProdG} (h:Pj n P) {k w:Nat} {b:PSt} (hk:k<P.states.length) (hw:w<n.wires.length):Pj n (Zc3 k P w b):=by
 unfold Zc3
 split
 ·rename_i hm
  refine ⟨fun f hf=> ?_,h.xl⟩
  rcases List.mem_append.1 hf with hf|hf
  ·exact h.fl f hf
  ·rw[List.mem_singleton] at hf
   subst hf
   have:=List.idxOf_lt_length_of_mem hm
   dsimp only
   omega
 ·refine ⟨fun f hf=> ?_,fun f hf=> ?_⟩
  ·rcases List.mem_append.1 hf with hf|hf
   ·have:=h.fl f hf
    simp only[List.length_append,List.length_singleton]
    omega
   ·rw[List.mem_singleton] at hf
    subst hf
    simp only[List.length_append,List.length_singleton]
    omega
  ·have:=h.xl f hf
   simp only[List.length_append,List.length_singleton]
   omega
theorem Pj.ins {c:PSG} {n:PNet} {k s:Nat} {v:List UInt8}:∀(l:List Nat) (P:ProdG),Pj n P→k<P.states.length→(∀w∈l,w<n.wires.length)→Pj n (inU c n k s v l P)
 |[],P,h,_,_=>h
 | w::r,P,h,hk,hl=>by
  unfold inU
  refine Pj.ins r _ (h.add hk (hl w List.mem_cons_self)) ?_ fun x hx=>hl x (List.mem_cons_of_mem _ hx)
  have:=(Zg6 k P w (Zas c n s v w)).1
  omega
theorem Pj.rd {c:PSG} {n:PNet} {k:Nat} {b:PSt} {P:ProdG} (h:Pj n P) (hk:k<P.states.length):Pj n (rdU c n k b P):=by
 have h1:=Pj.ins (c:=c) (s:=b.state.toNat) (v:=b.values) (ZaE c n b.state.toNat b.values n.wires.length) P h hk fun w hw=>(Zow hw).1
 have h2:=(Zgd c n k b.state.toNat b.values (ZaE c n b.state.toNat b.values n.wires.length) P).1
 unfold rdU exU
 refine ⟨h1.fl,fun f hf=> ?_⟩
 rcases List.mem_append.1 hf with hf|hf
 ·exact h1.xl f hf
 ·obtain ⟨w,hw,rfl⟩:=List.mem_map.1 hf
  unfold Zap at hw
  have:=List.mem_range.1 (List.mem_filter.1 hw).1
  dsimp only
  omega
theorem Zyt {c:PSG} {n:PNet} (h:Go1 c n):∀(f k:Nat) (P Q:ProdG),Pi c n k P→Pj n P→k≤P.states.length→1≤P.states.length→k+f≤601→Zkh c n f k P=some Q→PrU c n Q
 | 0,k,P,Q,hP,hj,hk,h1,hf,he=>by
  cases he
  have:=hP.fl
  have:=hP.ex
  have:=hP.len
  exact ⟨hP.ok,h1,hP.len,by omega,by omega,hj.fl,hj.xl⟩
 | f +1,k,P,Q,hP,hj,hk,h1,hf,he=>by
  unfold Zkh at he
  split at he
  ·cases he
   have:=hP.fl
   have:=hP.ex
   have:=hP.len
   exact ⟨hP.ok,h1,hP.len,by omega,by omega,hj.fl,hj.xl⟩
  ·rename_i b hb
   split at he
   ·cases he
   ·rename_i hl
    have hkl:=(List.getElem?_eq_some_iff.1 hb).1
    have hn:=Pi.next h hP hb hl
    have hm:=(Zgd c n k b.state.toNat b.values (ZaE c n b.state.toNat b.values n.wires.length) P).1
    have hst:(rdU c n k b P).states=(inU c n k b.state.toNat b.values (ZaE c n b.state.toNat b.values n.wires.length) P).states:=rfl
    exact Zyt h f (k+1) _ Q hn (hj.rd hkl) (by rw[hst];omega) (by rw[hst];omega) (by omega) he
theorem ZiY {c:PSG} {n:PNet} (h:Go1 c n) {P:ProdG} (he:Zff c n=some P):PrU c n P:=by
 unfold Zff at he
 exact Zyt h 601 0 _ P ⟨fun x hx=>by rw[List.mem_singleton] at hx;subst hx;exact Zm4 h,by simp,by simp,by simp⟩ ⟨by simp,by simp⟩ (by simp) (by simp) (by omega) he
def ZBL (P:ProdG) (i:Int):PSt:=P.states.getD i.toNat ⟨0,[]⟩
theorem ZCt {P:ProdG} {i:Int} (h0:0≤i) (h1:i<P.states.length):P.states[i.toNat]?=some (ZBL P i):=by
 unfold ZBL
 rw[List.getD_eq_getElem?_getD,List.getElem?_eq_getElem (by omega)]
 rfl
def hzF (n:PNet) (P:ProdG) (f:Flip):List Flip:=(ZBD n (ZBL P f.from_).values (ZBL P f.to).values f.wire n.wires.length).map fun j:Nat=>⟨f.from_,(j:Int),f.wire⟩
def hzA (n:PNet) (P:ProdG):List Flip:=P.flips.flatMap (hzF n P)
theorem ZCK {R:Type} (n:PNet) (P:ProdG) (e:List Flip→Option R):∀(l:List Flip) (i:Nat) (acc:List Flip),Z5 (fun (acc:List Flip) (_:Nat) (f:Flip)=>.inl (acc++hzF n P f)) e i acc l=e (acc++l.flatMap (hzF n P))
 |[],i,acc=>by simp[Z5]
 | f::l,i,acc=>by
  show Z5 _ e (i+1) (acc++hzF n P f) l=_
  rw[ZCK n P e l,List.append_assoc,List.flatMap_cons]
theorem ZCW {R α:Type} (g:α→Flip) (e:List Flip→Option R):∀(l:List α) (i:Nat) (acc:List Flip),Z5 (fun (acc:List Flip) (_:Nat) (w:α)=>.inl (acc++[g w])) e i acc l=e (acc++l.map g)
 |[],i,acc=>by simp[Z5]
 | w::l,i,acc=>by
  show Z5 _ e (i+1) (acc++[g w]) l=_
  rw[ZCW g e l,List.append_assoc]
  rfl
theorem ZCG (n:PNet) (v v':List UInt8) (k:Int) (N:Nat):(ZBD n v v' k N).length≤N:=ZeV _ _
theorem ZCL (n:PNet) (P:ProdG) (f:Flip):(hzF n P f).length≤n.wires.length:=by
 unfold hzF
 rw[List.length_map]
 exact ZCG _ _ _ _ _
theorem ZCX (c:PSG) (n:PNet) (h:Go1 c n) (P:ProdG) (hP:PrU c n P):Zzu [Zb2 c n,ePr P]=some (.lst ((hzA n P).map eFl)):=by
 have hn24:=(ZaQ h.net).2
 have hfw:=hP.few
 show (fun x0 x1=>Zzu [x0,x1]) _ _=_
 rw[ZCs]
 simp only[Zb2,ePr,List.length_map,EVS]
 refine (ZaI (R:=PV) P.flips (fun (acc:List Flip) i=>[.lst (acc.map eFl),pI (Int.ofNat i)]) (fun i acc=>acc.length≤24 * i) (fun (acc:List Flip) _ f=>.inl (acc++hzF n P f)) (fun l=>some (.lst (l.map eFl))) _ (by omega) (fun acc i f acc' hi hf he=> ?_) (fun again acc i f hi hf=> ?_) (fun again acc hi=> ?_) (b:=[]) (by simp)).trans (ZCK n P _ _ _ _)
 ·cases he
  have:=ZCL n P f
  rw[List.length_append]
  omega
 ·have hl:=Ze hf
  obtain ⟨b1,b2,b3,b4,b5,b6⟩:=hP.fl f (List.mem_of_getElem? hf)
  have hix:Zk (.lst (P.flips.map eFl)) (.int .i64 (i:Int))=some (eFl f):=Zj hf
  have hs1:=ZCt b1 b2
  have hs2:=ZCt b3 b4
  obtain ⟨a,ha⟩:∃a:Nat,f.from_=a:=⟨f.from_.toNat,by omega⟩
  obtain ⟨t,ht⟩:∃t:Nat,f.to=t:=⟨f.to.toNat,by omega⟩
  have hi1:Zk (.lst (P.states.map ePs)) (.int .i64 (a:Int))=some (ePs (ZBL P f.from_)):=Zj (by rw[ha,Int.toNat_natCast] at hs1;rw[ha];exact hs1)
  have hi2:Zk (.lst (P.states.map ePs)) (.int .i64 (t:Int))=some (ePs (ZBL P f.to)):=Zj (by rw[ht,Int.toNat_natCast] at hs2;rw[ht];exact hs2)
  obtain ⟨s1,_,_,hb1⟩:=hP.ok _ (List.mem_of_getElem? hs1)
  obtain ⟨s2,_,_,hb2⟩:=hP.ok _ (List.mem_of_getElem? hs2)
  have g:=ZDj c n h (ZBL P f.from_).state (ZBL P f.to).state (ZBL P f.from_).values (ZBL P f.to).values f.wire hb1 hb2
  obtain ⟨X,hX⟩:∃X,ZBD n (ZBL P f.from_).values (ZBL P f.to).values f.wire n.wires.length=X:=⟨_,rfl⟩
  have hXl:X.length≤24:=by rw[←hX];have:=ZCG n (ZBL P f.from_).values (ZBL P f.to).values f.wire n.wires.length;omega
  have hzx:hzF n P f=X.map fun j:Nat=>⟨(a:Int),(j:Int),f.wire⟩:=by unfold hzF;rw[hX,ha]
  rw[hX] at g
  rw[hzx]
  simp only[Zb2,ePs,eFl,ha,ht] at g hix hi1 hi2
  simp only[Zr hl,hix,eFl,ha,ht,Zn4,ZK,ZR,Zf5,hi1,hi2,g,List.length_map,EVS]
  refine (ZaI (R:=PV) X (fun (acc:List Flip) i=>[.lst (acc.map eFl),pI (Int.ofNat i)]) (fun j acc'=>acc'.length=acc.length+j) (fun (acc:List Flip) _ (j:Nat)=>.inl (acc++[⟨(a:Int),(j:Int),f.wire⟩])) (fun acc=>again [.lst (acc.map eFl),pI (Int.ofNat (i+1))]) _ (by omega) (fun acc j x acc' hi hx he=> ?_) (fun again' acc' j x hj hx=> ?_) (fun again' acc' hj=> ?_) (b:=acc) rfl).trans (ZCW (fun j:Nat=>(⟨(a:Int),(j:Int),f.wire⟩:Flip)) _ _ _ _)
  ·cases he;simp only[List.length_append,List.length_singleton];omega
  ·have hjl:=Ze hx
   have p3:ZaM (X.map eNn) (.int .i64 (j:Int))=some (.int .i64 (j:Int)):=ZbG (by rw[List.length_map];exact hjl)
   have q3:(X.map eNn)[j]?=some (pI (x:Int)):=by rw[List.getElem?_map,hx];rfl
   have hla:acc'.length+[PV.agg [pI (a:Int),pI (x:Int),pI f.wire]].length≤4294967296∧[PV.agg [pI (a:Int),pI (x:Int),pI f.wire]].all (Zal 3)=true:=⟨by simp;omega,rfl⟩
   simp only[List.length_map,Zr hjl,p3,q3,Int.toNat_natCast,ZrI,if_pos hla,Zi hjl (show X.length≤9223372036854775807 by omega),ha,List.map_append,List.map_cons,List.map_nil,eFl,EVS]
  ·simp only[List.length_map,ZV,Zi hl (show P.flips.length≤9223372036854775807 by omega),EVS]
 ·simp only[ZV,EVS]
theorem ZCH {R:Type} (q:Int→Bool) (g:Int→Flip) (e:List Flip→Option R):∀(l:List Int) (i:Nat) (acc:List Flip),Z5 (fun (acc:List Flip) (_:Nat) (w:Int)=>.inl (if q w=true then acc++[g w] else acc)) e i acc l=e (acc++(l.filter q).map g)
 |[],i,acc=>by simp[Z5]
 | w::l,i,acc=>by
  show Z5 _ e (i+1) (if q w=true then acc++[g w] else acc) l=_
  rw[ZCH q g e l]
  cases c:q w
  ·simp[c]
  ·simp[c,List.append_assoc]
theorem ZC9 (n:PNet) (v v':List UInt8) (k:Int) (N:Nat) (g:Int→Flip):((ZaX (Zp n v) N).filter fun w=> !decide (w=k)&& !decide (w∈ZaX (Zp n v') N)).map g=(ZBD n v v' k N).map fun j:Nat=>g (j:Int):=by
 have h:(ZaX (Zp n v) N).filter (fun w=> !decide (w=k)&& !decide (w∈ZaX (Zp n v') N))=(ZBD n v v' k N).map fun j:Nat=>(j:Int):=by
  unfold ZBD
  have e1:ZaX (Zp n v) N=((List.range N).filter (Zp n v)).map fun j:Nat=>(j:Int):=rfl
  rw[e1,List.filter_map,List.filter_filter]
  congr 1
  apply List.filter_congr
  intro j hj
  have hjN:=List.mem_range.1 hj
  show ((!decide ((j:Int)=k)&& !decide ((j:Int)∈ZaX (Zp n v') N))&&Zp n v j)=(!decide ((j:Int)=k)&&ZC0 n v v' j)
  rw[ZwM _ _ _ hjN]
  unfold ZC0
  cases decide ((j:Int)=k)<;>cases Zp n v j<;>cases Zp n v' j<;>rfl
 rw[h,List.map_map]
 rfl
theorem ZCE (c:PSG) (n:PNet) (h:Go1 c n) (P:ProdG) (hP:PrU c n P):ZAJ [Zo n,ePr P]=some (.lst ((hzA n P).map eFl)):=by
 have hn24:=(ZaQ h.net).2
 have hfw:=hP.few
 show (fun x0 x1=>ZAJ [x0,x1]) _ _=_
 rw[ZCz]
 simp only[Zo,ePr,List.length_map,EVS]
 refine (ZaI (R:=PV) P.flips (fun (acc:List Flip) i=>[.lst (acc.map eFl),pI (Int.ofNat i)]) (fun i acc=>acc.length≤24 * i) (fun (acc:List Flip) _ f=>.inl (acc++hzF n P f)) (fun l=>some (.lst (l.map eFl))) _ (by omega) (fun acc i f acc' hi hf he=> ?_) (fun again acc i f hi hf=> ?_) (fun again acc hi=> ?_) (b:=[]) (by simp)).trans (ZCK n P _ _ _ _)
 ·cases he
  have:=ZCL n P f
  rw[List.length_append]
  omega
 ·have hl:=Ze hf
  obtain ⟨b1,b2,b3,b4,b5,b6⟩:=hP.fl f (List.mem_of_getElem? hf)
  have hix:Zk (.lst (P.flips.map eFl)) (.int .i64 (i:Int))=some (eFl f):=Zj hf
  have hs1:=ZCt b1 b2
  have hs2:=ZCt b3 b4
  obtain ⟨a,ha⟩:∃a:Nat,f.from_=a:=⟨f.from_.toNat,by omega⟩
  obtain ⟨t,ht⟩:∃t:Nat,f.to=t:=⟨f.to.toNat,by omega⟩
  have hi1:Zk (.lst (P.states.map ePs)) (.int .i64 (a:Int))=some (ePs (ZBL P f.from_)):=Zj (by rw[ha,Int.toNat_natCast] at hs1;rw[ha];exact hs1)
  have hi2:Zk (.lst (P.states.map ePs)) (.int .i64 (t:Int))=some (ePs (ZBL P f.to)):=Zj (by rw[ht,Int.toNat_natCast] at hs2;rw[ht];exact hs2)
  obtain ⟨s1,_,_,hb1⟩:=hP.ok _ (List.mem_of_getElem? hs1)
  obtain ⟨s2,_,_,hb2⟩:=hP.ok _ (List.mem_of_getElem? hs2)
  obtain ⟨v1,v2,v3,_,_,_⟩:=h.vals hb1
  obtain ⟨u1,u2,u3,_,_,_⟩:=h.vals hb2
  have g1:=Zjc n (ZBL P f.from_).values h.fitn v2 v1 (by omega)
  have g2:=Zjc n (ZBL P f.to).values h.fitn u2 u1 (by omega)
  obtain ⟨X,hX⟩:∃X,ZaX (Zp n (ZBL P f.from_).values) n.wires.length=X:=⟨_,rfl⟩
  obtain ⟨Y,hY⟩:∃Y,ZaX (Zp n (ZBL P f.to).values) n.wires.length=Y:=⟨_,rfl⟩
  have hXl:X.length≤24:=by rw[←hX];have:=Zk7 (Zp n (ZBL P f.from_).values) n.wires.length;omega
  have hYl:Y.length≤24:=by rw[←hY];have:=Zk7 (Zp n (ZBL P f.to).values) n.wires.length;omega
  have hzx:hzF n P f=(X.filter fun w=> !decide (w=f.wire)&& !decide (w∈Y)).map fun w=>⟨(a:Int),w,f.wire⟩:=by
   unfold hzF
   rw[ha,←hX,←hY,ZC9 n _ _ f.wire n.wires.length (fun w=>⟨(a:Int),w,f.wire⟩),←ha]
  rw[hX] at g1
  rw[hY] at g2
  rw[hzx]
  simp only[Zo,ePs,eFl,ha,ht] at g1 g2 hix hi1 hi2
  simp only[Zr hl,hix,eFl,ha,ht,ZK,ZR,Zf5,hi1,hi2,g1,g2,List.drop_succ_cons,List.drop_zero,List.length_map,EVS]
  refine (ZaI (R:=PV) X (fun (acc:List Flip) i=>[.lst (acc.map eFl),pI (Int.ofNat i)]) (fun j acc'=>acc'.length≤acc.length+j) (fun (acc:List Flip) _ (w:Int)=>.inl (if (!decide (w=f.wire)&& !decide (w∈Y))=true then acc++[⟨(a:Int),w,f.wire⟩] else acc)) (fun acc=>again [.lst (acc.map eFl),pI (Int.ofNat (i+1))]) _ (by omega) (fun acc j x acc' hi hx he=> ?_) (fun again' acc' j x hj hx=> ?_) (fun again' acc' hj=> ?_) (b:=acc) (Nat.le_refl _)).trans (ZCH (fun w=> !decide (w=f.wire)&& !decide (w∈Y)) (fun w=>(⟨(a:Int),w,f.wire⟩:Flip)) _ _ _ _)
  ·cases he
   split
   ·simp only[List.length_append,List.length_singleton];omega
   ·omega
  ·have hjl:=Ze hx
   have p3:ZaM (X.map pI) (.int .i64 (j:Int))=some (.int .i64 (j:Int)):=ZbG (by rw[List.length_map];exact hjl)
   have q3:(X.map pI)[j]?=some (pI x):=by rw[List.getElem?_map,hx];rfl
   have g3:=Zzn Y x (by unfold ZA;omega)
   have hla:acc'.length+[PV.agg [pI (a:Int),pI x,pI f.wire]].length≤4294967296∧[PV.agg [pI (a:Int),pI x,pI f.wire]].all (Zal 3)=true:=⟨by simp;omega,rfl⟩
   have hnx:=Zi hjl (show X.length≤9223372036854775807 by omega)
   cases c1:decide (x=f.wire)<;>cases c2:decide (x∈Y)<;>rw[c2] at g3<;>simp only[List.length_map,Zr hjl,p3,q3,Int.toNat_natCast,c1,c2,g3,ZrI,if_pos hla,hnx,ha,List.map_append,List.map_cons,List.map_nil,eFl,Bool.false_eq_true,if_false,if_true,EVS]
  ·simp only[List.length_map,ZV,Zi hl (show P.flips.length≤9223372036854775807 by omega),EVS]
 ·simp only[ZV,EVS]
def Zi2 (c:PSG) (n:PNet):Option ProdG:=if goP c n=true then Zff c n else none
theorem ZuT {c:PSG} {n:PNet} (hc:SGFit c) (hn:n.Fit) {P:ProdG} (h:Zi2 c n=some P):goP c n=true∧PrU c n P:=by
 unfold Zi2 at h
 split at h
 ·rename_i hg;exact ⟨hg,ZiY (Znf hg hc hn) h⟩
 ·cases h
theorem ZsV (c:PSG) (n:PNet) (hc:SGFit c) (hn:n.Fit):Zgy [eSG c,Zo n]=some (prR (Zi2 c n)):=by
 have g0:=ZzC c n hc hn
 show (fun x0 x1=>Zgy [x0,x1]) _ _=_
 rw[ZtD]
 unfold Zi2
 cases c0:goP c n
 ·rw[c0] at g0
  simp only[eSG,Zo] at g0
  simp only[eSG,Zo,ZK,ZR,g0,Zf5,Bool.false_eq_true,if_false,EVS]
  rfl
 ·rw[c0] at g0
  have g1:=Zpn c n (Znf c0 hc hn)
  simp only[eSG,Zo] at g0 g1
  rw[if_pos rfl]
  cases hp:Zff c n with
  | none=>
   rw[hp] at g1
   simp only[prR,Zmb] at g1
   simp only[eSG,Zo,ZK,ZR,g0,g1,Zf5,EVS]
   rfl
  | some P=>
   rw[hp] at g1
   simp only[prR,ePr] at g1
   simp only[eSG,Zo,ZK,ZR,g0,g1,Zf5,EVS]
   rfl
theorem Zpw (c:PSG) (n:PNet) (hc:SGFit c) (hn:n.Fit):ZeF [eSG c,Zo n]=some (match Zi2 c n with|some P=>.tup [Zb2 c n,ePr P,pB true]|none=>.tup [if goP c n=true then Zb2 c n else zSys,Zmb,pB false]):=by
 have g0:=ZqU c n hc hn
 show (fun x0 x1=>ZeF [x0,x1]) _ _=_
 rw[Zp8]
 unfold Zi2
 cases c0:goP c n
 ·rw[c0] at g0
  simp only[eSG,Zo,zSys,Bool.false_eq_true,if_false] at g0
  simp only[eSG,Zo,ZK,ZR,g0,Zph,Zn4,Zf5,Bool.false_eq_true,if_false,EVS]
  rfl
 ·rw[c0] at g0
  have g1:=ZsI c n (Znf c0 hc hn)
  simp only[eSG,Zo,Zb2,if_true] at g0
  simp only[Zb2] at g1
  rw[if_pos rfl]
  cases hp:Zff c n with
  | none=>
   rw[hp] at g1
   simp only[prR,Zmb] at g1
   simp only[eSG,Zo,ZK,ZR,g0,g1,Zph,Zn4,Zf5,EVS]
   rfl
  | some P=>
   rw[hp] at g1
   simp only[prR,ePr] at g1
   simp only[eSG,Zo,ZK,ZR,g0,g1,Zph,Zn4,Zf5,EVS]
   rfl
def hzQ (c:PSG) (n:PNet):List Flip×Bool:=match Zi2 c n with|some P=>(hzA n P,true)|none=>([],false)
theorem ZCM (c:PSG) (n:PNet) (hc:SGFit c) (hn:n.Fit):ZBM [eSG c,Zo n]=some (match Zi2 c n with|some P=>.tup [ePr P,.lst ((hzA n P).map eFl),pB true]|none=>.tup [Zmb,.lst [],pB false]):=by
 have g0:=ZsV c n hc hn
 show (fun x0 x1=>ZBM [x0,x1]) _ _=_
 rw[ZCQ]
 cases hp:Zi2 c n with
 | none=>
  rw[hp] at g0
  simp only[eSG,Zo,prR,Zmb] at g0
  simp only[eSG,Zo,ZK,ZR,g0,Zf5,EVS]
  rfl
 | some P=>
  obtain ⟨hg,hP⟩:=ZuT hc hn hp
  have g1:=ZCE c n (Znf hg hc hn) P hP
  rw[hp] at g0
  simp only[eSG,Zo,prR,ePr] at g0 g1
  simp only[eSG,Zo,ZK,ZR,g0,g1,Zf5,EVS]
  rfl
theorem ZCN (c:PSG) (n:PNet) (hc:SGFit c) (hn:n.Fit):ZCm [eSG c,Zo n]=some (.tup [.lst ((hzQ c n).1.map eFl),pB (hzQ c n).2]):=by
 have g0:=Zpw c n hc hn
 show (fun x0 x1=>ZCm [x0,x1]) _ _=_
 rw[ZCU]
 unfold hzQ
 cases hp:Zi2 c n with
 | none=>
  rw[hp] at g0
  cases c0:goP c n<;>rw[c0] at g0<;>simp only[eSG,Zo,Zmb,zSys,Zb2,Bool.false_eq_true,if_false,if_true] at g0<;>simp only[eSG,Zo,ZK,ZR,g0,Zph,Zf5,EVS]<;>rfl
 | some P=>
  obtain ⟨hg,hP⟩:=ZuT hc hn hp
  have g1:=ZCX c n (Znf hg hc hn) P hP
  rw[hp] at g0
  simp only[eSG,Zo,ePr,Zb2] at g0 g1
  simp only[eSG,Zo,ZK,ZR,Zn4,g0,g1,Zph,Zf5,EVS]
theorem ZCx {α β:Type} (f:α→List β) (m:Nat):∀(l:List α),(∀x∈l,(f x).length≤m)→(l.flatMap f).length≤m * l.length
 |[],_=>by simp
 | x::l,h=>by
  have h1:=h x List.mem_cons_self
  have h2:=ZCx f m l fun y hy=>h y (List.mem_cons_of_mem _ hy)
  simp only[List.flatMap_cons,List.length_append,List.length_cons,Nat.mul_add,Nat.mul_one]
  omega
theorem ZDw {c:PSG} {n:PNet} (hc:SGFit c) (hn:n.Fit):(hzQ c n).1.length≤345600:=by
 unfold hzQ
 cases hp:Zi2 c n with
 |none=>simp
 | some P=>
  obtain ⟨hg,hP⟩:=ZuT hc hn hp
  have h1:=(ZaQ (Znf hg hc hn).net).2
  have h2:=ZCx (hzF n P) 24 P.flips fun f _=>Nat.le_trans (ZCL n P f) h1
  have:=hP.few
  show (P.flips.flatMap (hzF n P)).length≤345600
  omega
theorem hzQ_in {c:PSG} {n:PNet} (hc:SGFit c) (hn:n.Fit):∀f∈(hzQ c n).1,0≤f.from_∧f.from_<600∧0≤f.wire∧f.wire<24∧0≤f.to∧f.to<24:=by
 unfold hzQ
 cases hp:Zi2 c n with
 |none=>simp
 | some P=>
  obtain ⟨hg,hP⟩:=ZuT hc hn hp
  have h1:=(ZaQ (Znf hg hc hn).net).2
  have hl:=hP.len
  intro f hf
  obtain ⟨g,hgm,hgf⟩:=List.mem_flatMap.1 hf
  obtain ⟨a1,a2,a3,a4,a5,a6⟩:=hP.fl g hgm
  unfold hzF at hgf
  obtain ⟨j,hj,rfl⟩:=List.mem_map.1 hgf
  unfold ZBD at hj
  have:=List.mem_range.1 (List.mem_filter.1 hj).1
  dsimp only
  omega
def ZDa :List Int→Int→List Int
 |[],n=>[n]
 |x::r,n=>if x<n then x::ZDa r n else if x=n then x::r else n::x::r
theorem ZDv (n:Int):∀(l:List Int) (x:Int),x∈ZDa l n↔x=n∨x∈l
 |[],x=>by simp[ZDa]
 | y ::r,x=>by
  unfold ZDa
  split
  ·rw[List.mem_cons,ZDv n r x,List.mem_cons]
   constructor
   ·rintro (h|h|h)
    ·exact .inr (.inl h)
    ·exact .inl h
    ·exact .inr (.inr h)
   ·rintro (h|h|h)
    ·exact .inr (.inl h)
    ·exact .inl h
    ·exact .inr (.inr h)
  ·split
   ·rename_i h;subst h;simp
   ·simp
theorem ZDs (n:Int):∀(l:List Int),l.Pairwise (·<·)→(ZDa l n).Pairwise (·<·)
 |[],_=>by simp[ZDa]
 | y ::r,h=>by
  obtain ⟨h1,h2⟩:=List.pairwise_cons.1 h
  unfold ZDa
  split
  ·rename_i hlt
   refine List.pairwise_cons.2 ⟨fun x hx=> ?_,ZDs n r h2⟩
   rcases (ZDv n r x).1 hx with rfl|hx
   ·exact hlt
   ·exact h1 x hx
  ·split
   ·exact h
   ·refine List.pairwise_cons.2 ⟨fun x hx=> ?_,h⟩
    rcases List.mem_cons.1 hx with rfl|hx
    ·omega
    ·have:=h1 x hx;omega
theorem ZDx (n:Int):∀(l:List Int),(ZDa l n).length≤l.length+1
 |[]=>by simp[ZDa]
 | x::r=>by
  unfold ZDa
  have:=ZDx n r
  split
  ·simp;omega
  ·split<;>simp
theorem ZDq :∀(l acc:List Int) (x:Int),x∈l.foldl ZDa acc↔x∈l∨x∈acc
 |[],acc,x=>by simp
 | n::l,acc,x=>by
  rw[List.foldl_cons,ZDq l,ZDv,List.mem_cons]
  constructor
  ·rintro (h|h|h)
   ·exact .inl (.inr h)
   ·exact .inl (.inl h)
   ·exact .inr h
  ·rintro ((h|h)|h)
   ·exact .inr (.inl h)
   ·exact .inl h
   ·exact .inr (.inr h)
theorem ZDo :∀(l acc:List Int),acc.Pairwise (·<·)→(l.foldl ZDa acc).Pairwise (·<·)
 |[],acc,h=>h
 |n::l,acc,h=>ZDo l _ (ZDs n acc h)
theorem ZDz :∀(a b:List Int),a.Pairwise (·<·)→b.Pairwise (·<·)→(∀x,x∈a↔x∈b)→a=b
 |[],[],_,_,_=>rfl
 |[],y::b,_,_,h=>by have:=(h y).2 List.mem_cons_self;cases this
 |x::a,[],_,_,h=>by have:=(h x).1 List.mem_cons_self;cases this
 | x ::a,y::b,ha,hb,h=>by
  obtain ⟨a1,a2⟩:=List.pairwise_cons.1 ha
  obtain ⟨b1,b2⟩:=List.pairwise_cons.1 hb
  have hxy:x=y:=by
   rcases List.mem_cons.1 ((h x).1 List.mem_cons_self) with h1|h1
   ·exact h1
   ·rcases List.mem_cons.1 ((h y).2 List.mem_cons_self) with h2|h2
    ·exact h2.symm
    ·have:=b1 x h1;have:=a1 y h2;omega
  subst hxy
  congr 1
  refine ZDz a b a2 b2 fun z=>⟨fun hz=> ?_,fun hz=> ?_⟩
  ·rcases List.mem_cons.1 ((h z).1 (List.mem_cons_of_mem _ hz)) with h1|h1
   ·have:=a1 z hz;omega
   ·exact h1
  ·rcases List.mem_cons.1 ((h z).2 (List.mem_cons_of_mem _ hz)) with h1|h1
   ·have:=b1 z hz;omega
   ·exact h1
theorem ZDA (d:Array Int) (hs:∀i j,i≤j→j<d.size→d[i]! ≤d[j]!):∀m,m≤d.size→
 (Lib.compactUpTo d m).Pairwise (·<·)∧(∀x∈Lib.compactUpTo d m,∃j,j<m∧d[j]! =x)∧∀j,j<m→d[j]! ∈Lib.compactUpTo d m
 |0,_=>by simp[Lib.compactUpTo]
 | m +1,hm=>by
  obtain ⟨h1,h2,h3⟩:=ZDA d hs m (by omega)
  rw[Lib.compactUpTo_succ]
  by_cases hk:Lib.keeps d m=true
  ·rw [if_pos hk]
   refine ⟨List.pairwise_append.2 ⟨h1,by simp,fun x hx y hy=> ?_⟩,fun x hx=> ?_,fun j hj=> ?_⟩
   ·rw[List.mem_singleton] at hy
    subst hy
    obtain ⟨j,hj,rfl⟩:=h2 x hx
    have hne:d[m]! ≠d[m - 1]! :=by
     unfold Lib.keeps at hk
     rw[decide_eq_true_eq] at hk
     rcases hk with hk|hk
     ·omega
     ·exact hk
    have e1:=hs j (m - 1) (by omega) (by omega)
    have e2:=hs (m - 1) m (by omega) (by omega)
    omega
   ·rcases List.mem_append.1 hx with hx|hx
    ·obtain ⟨j,hj,e⟩:=h2 x hx;exact ⟨j,by omega,e⟩
    ·rw[List.mem_singleton] at hx;exact ⟨m,by omega,hx.symm⟩
   ·rw[List.mem_append]
    by_cases hjm:j=m
    ·subst hjm;right;simp
    ·left;exact h3 j (by omega)
  ·rw [if_neg hk,List.append_nil]
   refine ⟨h1,fun x hx=> ?_,fun j hj=> ?_⟩
   ·obtain ⟨j,hj,e⟩:=h2 x hx;exact ⟨j,by omega,e⟩
   ·by_cases hjm:j=m
    ·subst hjm
     have hne:¬(j=0∨d[j]! ≠d[j - 1]!):=by simpa[Lib.keeps] using hk
     have h0:¬j=0:=fun h=>hne (.inl h)
     have h9:d[j]! =d[j - 1]! :=Decidable.byContradiction fun h=>hne (.inr h)
     rw[h9]
     exact h3 (j - 1) (by omega)
    ·exact h3 j (by omega)
theorem ZDB (zs:List Int) (hs:zs.Pairwise (·≤·)):(Lib.compact zs).Pairwise (·<·)∧∀x,x∈Lib.compact zs↔x∈zs:=by
 have hget:∀i,i<zs.length→zs.toArray[i]! =zs[i]! :=fun i hi=>by simp[hi]
 have h:=ZDA zs.toArray (fun i j hij hj=>by
  have hj':j<zs.length:=by simpa using hj
  rw[hget i (by omega),hget j hj',getElem!_pos zs i (by omega),getElem!_pos zs j hj']
  rcases Nat.lt_or_ge i j with h|h
  ·exact List.pairwise_iff_getElem.1 hs i j (by omega) hj' h
  ·obtain rfl:i=j:=by omega
   exact Int.le_refl _) zs.length (by simp)
 obtain ⟨h1,h2,h3⟩:=h
 refine ⟨h1,fun x=>⟨fun hx=> ?_,fun hx=> ?_⟩⟩
 ·obtain ⟨j,hj,e⟩:=h2 x hx
  rw[hget j hj,getElem!_pos zs j hj] at e
  rw[←e]
  exact List.getElem_mem hj
 ·obtain ⟨j,hj,e⟩:=List.getElem_of_mem hx
  have:=h3 j hj
  rw[hget j hj,getElem!_pos zs j hj,e] at this
  exact this
theorem ZDY (l:List Int):Lib.compact (l.mergeSort fun x y=>decide (x≤y))=l.foldl ZDa []:=by
 have hp:(l.mergeSort fun x y=>decide (x≤y)).Pairwise (·≤·):=by
  have:=List.pairwise_mergeSort (le:=fun x y:Int=>decide (x≤y)) (fun a b c h1 h2=>by simp only[decide_eq_true_eq] at h1 h2⊢;omega) (fun a b=>by simp only[Bool.or_eq_true,decide_eq_true_eq];omega) l
  exact this.imp fun h=>by simpa using h
 obtain ⟨h1,h2⟩:=ZDB _ hp
 refine ZDz _ _ h1 (ZDo l [] List.Pairwise.nil) fun x=> ?_
 rw[h2 x,List.mem_mergeSort,ZDq]
 simp
theorem okI (l:List Int):(l.map pI).all (Zal 1)=true:=by
 rw[List.all_map];exact List.all_eq_true.2 fun x _=>rfl
theorem ZDN {l:List Int} {s:Int} {k:Nat} {x:Int} (h:l[k]?=some x):l.take k++ZDa (l.drop k) s=if x<s then l.take (k+1)++ZDa (l.drop (k+1)) s else if x=s then l else l.take k++s::l.drop k:=by
 obtain ⟨hk,rfl⟩:=List.getElem?_eq_some_iff.1 h
 have hd:l.drop k=l[k]::l.drop (k+1):=List.drop_eq_getElem_cons hk
 rw[hd]
 conv=>lhs;unfold ZDa
 by_cases c:l[k]<s
 ·rw[if_pos c,if_pos c,List.take_succ_eq_append_getElem hk,List.append_assoc];rfl
 ·rw[if_neg c,if_neg c]
  by_cases c2:l[k]=s
  ·rw[if_pos c2,if_pos c2,←hd,List.take_append_drop]
  ·rw[if_neg c2,if_neg c2]
theorem ZDO (l:List Int) (s:Int) (hl:l.length≤1048576):ZDb [.lst (l.map pI),pI s]=some (.lst ((ZDa l s).map pI)):=by
 have hw:∀x:Int,Zal 1 (pI x)=true:=fun x=>rfl
 show (fun x0 x1=>ZDb [x0,x1]) _ _=_
 rw[ZDH]
 simp only[EVS]
 refine (ZaP (R:=PV) (fun q:{k:Nat // k≤l.length}=>[pI (Int.ofNat q.1)]) (fun q=>l.length+1 - q.1) (fun q=>some (.lst ((l.take q.1++ZDa (l.drop q.1) s).map pI))) _ (fun again q ih=> ?_) _ ⟨0,Nat.zero_le _⟩ (by simp only;omega)).trans ?_
 ·obtain ⟨k,hk⟩:=q
  dsimp only at ih hk⊢
  have ht:ZlS 1 (.lst (l.map pI)) none (some (.int .i64 (k:Int)))=some (.lst ((l.take k).map pI)):=Zom hw hk
  have hd:ZlS 1 (.lst (l.map pI)) (some (.int .i64 (k:Int))) none=some (.lst ((l.drop k).map pI)):=ZDT hw hk
  have a0:([]:List PV).length+(l.take k).length≤4294967296∧((l.take k).map pI).all (Zal 1)=true:=⟨by simp;omega,okI _⟩
  have a1:(l.take k).length+[pI s].length≤4294967296∧[pI s].all (Zal 1)=true:=⟨by simp;omega,rfl⟩
  have a2:(List.map pI (l.take k)++[pI s]).length+(l.drop k).length≤4294967296∧(List.map pI (l.drop k)).all (Zal 1)=true:=⟨by simp;omega,okI _⟩
  by_cases c:k<l.length
  ·obtain ⟨x,hx⟩:∃x,l[k]?=some x:=⟨l[k],List.getElem?_eq_getElem c⟩
   have hi:Zk (.lst (l.map pI)) (.int .i64 (k:Int))=some (pI x):=Zj hx
   rw[ZDN hx]
   simp only[Zr c,Zi c (show l.length≤9223372036854775807 by omega),hi,List.length_map,EVS]
   by_cases c1:x<s
   ·have:=ih ⟨k+1,c⟩ (by simp only;omega)
    simp only[c1,EVS] at this⊢
    exact this
   ·by_cases c2:x=s
    ·subst c2
     simp only[c1,Zr c,hi,EVS]
    ·simp only[c1,c2,Zr c,hi,ht,hd,if_pos a0,List.nil_append,List.length_map,EVS]
     rw[if_pos a1]
     simp only[EVS]
     rw[if_pos a2]
     simp
  ·obtain rfl:k=l.length:=by omega
   simp only[ZV,ht,hd,if_pos a0,List.nil_append,List.length_map,EVS]
   rw[if_pos a1]
   simp only[EVS]
   rw[if_pos a2]
   simp[ZDa]
 ·simp
def hwQ (c:PSG) (n:PNet):List Int×Bool:=match Zi2 c n with|some P=>(((hzA n P).map fun f=>f.wire).foldl ZDa [],true)|none=>([],false)
theorem ZDD :∀(l acc:List Int),(l.foldl ZDa acc).length≤acc.length+l.length
 |[],acc=>by simp
 | n::l,acc=>by
  have:=ZDD l (ZDa acc n)
  have:=ZDx n acc
  simp only[List.foldl_cons,List.length_cons]
  omega
theorem ZDF {c:PSG} {n:PNet} (hc:SGFit c) (hn:n.Fit) {P:ProdG} (hp:Zi2 c n=some P):(hzA n P).length≤345600:=by
 have:=ZDw hc hn
 unfold hzQ at this
 rw[hp] at this
 exact this
theorem ZDE :∀(l:List Flip) (k:Nat) (acc:List Int),Z5 (R:=PV) (fun (acc:List Int) _ (f:Flip)=>.inl (ZDa acc f.wire)) (fun acc=>some (.tup [.lst (acc.map pI),pB true])) k acc l=some (.tup [.lst (((l.map fun f=>f.wire).foldl ZDa acc).map pI),pB true])
 |[],k,acc=>rfl
 | s::r,k,acc=>by
  unfold Z5
  exact ZDE r (k+1) _
theorem ZDc (c:PSG) (n:PNet) (hc:SGFit c) (hn:n.Fit):ZC3 [eSG c,Zo n]=some (.tup [.lst ((hwQ c n).1.map pI),pB (hwQ c n).2]):=by
 have g0:=ZCM c n hc hn
 show (fun x0 x1=>ZC3 [x0,x1]) _ _=_
 rw[ZDk]
 unfold hwQ
 cases hp:Zi2 c n with
 | none=>
  rw[hp] at g0
  simp only[eSG,Zo,Zmb] at g0
  simp only[eSG,Zo,ZK,ZR,g0,Zf5,EVS]
  try rfl
 | some P=>
  have hfew:=ZDF hc hn hp
  rw[hp] at g0
  simp only[eSG,Zo,ePr] at g0
  simp only[eSG,Zo,ZK,ZR,g0,Zf5,List.length_map,EVS]
  refine (ZaI (R:=PV) (hzA n P) (fun (acc:List Int) k=>[.lst (acc.map pI),pI (Int.ofNat k)]) (fun k acc=>acc.length≤k) (fun acc _ f=>.inl (ZDa acc f.wire)) (fun acc=>some (.tup [.lst (acc.map pI),pB true])) _ (by omega) (fun acc k s acc' hi hx he=> ?_) (fun again acc k s hi hx=> ?_) (fun again acc hi=> ?_) (b:=[]) (Nat.zero_le _)).trans (ZDE _ _ _)
  ·cases he
   have:=ZDx s.wire acc
   omega
  ·have hk:=Ze hx
   have hix:Zk (.lst ((hzA n P).map eFl)) (.int .i64 (k:Int))=some (eFl s):=Zj hx
   have p1:ZaM ((hzA n P).map eFl) (.int .i64 (k:Int))=some (.int .i64 (k:Int)):=ZbG (by rw[List.length_map];exact hk)
   have q1:((hzA n P).map eFl)[k]?=some (eFl s):=by rw[List.getElem?_map,hx];rfl
   have g1:=ZDO acc s.wire (by omega)
   simp only[Zr hk,hix,p1,q1,eFl,Int.toNat_natCast,ZR,Zf5,g1,Zi hk (show (hzA n P).length≤9223372036854775807 by omega),EVS]
  ·simp only[ZV,EVS]
def esF (l:List Flip):List (Nat×Nat):=l.map fun f=>(f.from_.toNat,f.to.toNat)
structure PrOk (p:ProdG):Prop where
 one:1≤p.states.length
 many:p.states.length≤600
 few:p.flips.length≤6000
 fl:∀f∈p.flips,0≤f.from_∧f.from_<p.states.length∧0≤f.to∧f.to<p.states.length∧0≤f.wire∧f.wire≤23
theorem PrOk.es {p:ProdG} (h:PrOk p):∀e∈esF p.flips,e.1<p.states.length∧e.2<p.states.length:=fun e he=>by
 obtain ⟨f,hf,rfl⟩:=List.mem_map.1 he
 have:=h.fl f hf
 dsimp only
 omega
theorem ZDu {R:Type} (e:List Int→Option R):∀(l:List Flip) (i:Nat) (acc:List Int),Z5 (fun (acc:List Int) (_:Nat) (f:Flip)=>.inl (acc++[f.wire])) e i acc l=e (acc++l.map Flip.wire)
 |[],i,acc=>by simp[Z5]
 | f::l,i,acc=>by
  show Z5 _ e (i+1) (acc++[f.wire]) l=_
  rw[ZDu e l,List.append_assoc]
  rfl
theorem ZDZ (l:List Int) (hl:l.length≤4294967296):ZDp [.lst (l.map pI)]=some (.lst ((l.foldl ZDa []).map pI)):=by
 have g1:Zkt [.lst (l.map pI)]=some (.lst ((l.mergeSort fun x y=>decide (x≤y)).map pI)):=by
  show ZlE _ _=_
  unfold ZlE
  simp only
  rw[Zqm]
  simp only[obs]
  rw[if_pos hl]
 have g2:Ziq [.lst ((l.mergeSort fun x y=>decide (x≤y)).map pI)]=some (.lst ((l.foldl ZDa []).map pI)):=by
  show ZlE _ _=_
  unfold ZlE
  simp only
  rw[Zqm]
  simp only[obs]
  rw[if_pos (by rw[List.length_mergeSort];exact hl),ZDY]
 show (fun x0=>ZDp [x0]) _=_
 rw[ZDQ]
 simp only[g1,g2,EVS]
theorem ZDd (c:PSG) (n:PNet) (hc:SGFit c) (hn:n.Fit):ZC5 [eSG c,Zo n]=some (.tup [.lst ((hwQ c n).1.map pI),pB (hwQ c n).2]):=by
 have g0:=ZCN c n hc hn
 show (fun x0 x1=>ZC5 [x0,x1]) _ _=_
 rw[ZDn]
 unfold hwQ
 unfold hzQ at g0
 cases hp:Zi2 c n with
 | none=>
  rw[hp] at g0
  simp only[eSG,Zo] at g0
  simp only[eSG,Zo,ZK,ZR,g0,Zf5,EVS]
  try rfl
 | some P=>
  have hfew:=ZDF hc hn hp
  rw[hp] at g0
  simp only[eSG,Zo] at g0
  simp only[eSG,Zo,ZK,ZR,g0,Zf5,List.length_map,EVS]
  refine (ZaI (R:=PV) (hzA n P) (fun (acc:List Int) k=>[.lst (acc.map pI),pI (Int.ofNat k)]) (fun k acc=>acc.length=k) (fun acc _ f=>.inl (acc++[f.wire])) (fun acc=>some (.tup [.lst ((acc.foldl ZDa []).map pI),pB true])) _ (by omega) (fun acc k s acc' hi hx he=> ?_) (fun again acc k s hi hx=> ?_) (fun again acc hi=> ?_) (b:=[]) rfl).trans (ZDu _ _ _ _)
  ·cases he;simp[hi]
  ·have hk:=Ze hx
   have p1:ZaM ((hzA n P).map eFl) (.int .i64 (k:Int))=some (.int .i64 (k:Int)):=ZbG (by rw[List.length_map];exact hk)
   have q1:((hzA n P).map eFl)[k]?=some (eFl s):=by rw[List.getElem?_map,hx];rfl
   have hla:acc.length+[pI s.wire].length≤4294967296∧[pI s.wire].all (Zal 1)=true:=⟨by simp;omega,rfl⟩
   have hps:acc.map pI++[pI s.wire]=(acc++[s.wire]).map pI:=by simp
   simp only[eFl] at q1
   simp only[Zr hk,Zi hk (show (hzA n P).length≤9223372036854775807 by omega),p1,q1,eFl,Int.toNat_natCast,List.length_map,ZR,Zf5,if_pos hla,hps,EVS]
  ·have g1:=ZDZ acc (by omega)
   simp only[ZV,g1,EVS]
theorem ZEa {c:PSG} {n:PNet} (hc:SGFit c) (hn:n.Fit):(hwQ c n).1.length≤345600:=by
 unfold hwQ
 cases hp:Zi2 c n with
 |none=>simp
 | some P=>
  have h1:=ZDD ((hzA n P).map fun f=>f.wire) []
  have h2:=ZDF hc hn hp
  simp only[List.length_map,List.length_nil] at h1⊢
  omega
theorem hwQ_in {c:PSG} {n:PNet} (hc:SGFit c) (hn:n.Fit):∀x∈(hwQ c n).1,0≤x∧x<24:=by
 have hz:=hzQ_in hc hn
 unfold hzQ at hz
 unfold hwQ
 cases hp:Zi2 c n with
 |none=>simp
 | some P=>
  rw[hp] at hz
  intro x hx
  rcases (ZDq _ _ _).1 hx with h|h
  ·obtain ⟨f,hf,rfl⟩:=List.mem_map.1 h
   have:=hz f hf
   omega
  ·simp at h
end Go.Proofs.YtpceleehbpnchaaGreat
