import Derived.Test.YtpceleehbpnchaaGreatConformanceReportP1
import Derived.Test.YtpceleehbpnchaaGreatData
import Derived.Test.YtpceleehbpnchaaGreatDistPure
import Derived.Test.YtpceleehbpnchaaGreatSysPure
import Derived.Test.YtpceleehbpnchaaGreatWayPure
namespace Go.Proofs.YtpceleehbpnchaaGreat
open Go.RowKit
set_option linter.unusedVariables false
set_option linter.unusedSimpArgs false
theorem Zm3 (a b c d e f:PV):Zb true 3 2 [a,b,c,d,e,f]=some (.agg [d,e]):=rfl
theorem Zph (a b c d e f a' b' c' d' e' f':PV):splice [a,b,c,d,e,f] 0 [a',b',c',d',e',f']=[a',b',c',d',e',f']:=rfl
theorem Zn4 (a b c d e f:PV):Zb true 0 6 [a,b,c,d,e,f]=some (.agg [a,b,c,d,e,f]):=rfl
theorem Go1.vals {c:PSG} {n:PNet} (h:Go1 c n) {v:List UInt8} (hb:Z1 v n.wires.length=true):Zfk n v=true∧ZA v∧v.length=n.wires.length∧n.wires.length≤24∧n.signals.length≤n.wires.length∧n.signals.length=c.signals.length:=by
 have h1:=ZaQ h.net
 have h2:=(ZaN.1 hb).2
 refine ⟨by unfold Zfk;rw[h.net,hb];rfl,by unfold ZA;omega,h2,h1.2,h1.1,by rw[h.same]⟩
theorem Go1.code {c:PSG} {n:PNet} (h:Go1 c n):∃x,c.codes[0]?=some x∧Z1 x n.signals.length=true:=by
 have h1:=h.one
 refine ⟨c.codes[0],List.getElem?_eq_getElem (by omega), ?_⟩
 rw[←h.same]
 exact h.bits _ (List.getElem_mem _)
def Zhw (c:PSG) (n:PNet):PSt:=⟨0,ZeA n (c.codes.getD 0 [])⟩
theorem ZsE (c:PSG) (n:PNet) (h:Go1 c n):Zfy [eSG c,Zo n]=some (ePs (Zhw c n)):=by
 obtain ⟨x,hx,hb⟩:=h.code
 have g:=ZqT n x h.fitn h.net hb
 have hi:Zk (.lst (c.codes.map PV.str)) (.int .i64 ((0:Nat):Int))=some (.str x):=Zj hx
 show (fun x0 x1=>Zfy [x0,x1]) _ _=_
 rw[Zrl]
 unfold Zhw
 rw[List.getD_eq_getElem?_getD,hx]
 simp only[Int.natCast_zero] at hi
 simp only[Zo] at g
 simp only[eSG,Zo,ZK,hi,g,EVS]
 rfl
theorem Zuw (c:PSG) (n:PNet) (h:Go1 c n):Zcb [Zb2 c n]=some (ePs (Zhw c n)):=by
 obtain ⟨x,hx,hb⟩:=h.code
 have g:=Zxg n x h.fitn h.net hb
 have hi:Zk (.lst (c.codes.map PV.str)) (.int .i64 ((0:Nat):Int))=some (.str x):=Zj hx
 show (fun x0=>Zcb [x0]) _=_
 rw[Zkm]
 unfold Zhw
 rw[List.getD_eq_getElem?_getD,hx]
 simp only[Int.natCast_zero] at hi
 simp only[Zo] at g
 simp only[Zb2,Zm3,hi,g,EVS]
 rfl
theorem ZBO (c:PSG) {k:Nat} (hk:k<c.codes.length):∃row,(ZnV c)[k]?=some row∧row.length=c.signals.length∧∀s,toC c k s=row.getD s (-1):=by
 have hl:(ZnV c).length=c.codes.length:=ZxL _ _ _
 refine ⟨(ZnV c)[k]'(by omega),List.getElem?_eq_getElem _,ZxM _ _ _ _ (List.getElem_mem _),fun s=> ?_⟩
 unfold toC Zfa
 rw[List.getD_eq_getElem?_getD (l:=ZnV c),List.getElem?_eq_getElem (by omega)]
 rfl
theorem Zma (c:PSG) {k s:Nat} (hk:k<c.codes.length) (hs:s<c.signals.length):∃row:List PV,Zk (.lst ((ZnV c).map ZtK)) (.int .i64 (k:Int))=some (.lst row)∧Zk (.lst row) (.int .i64 (s:Int))=some (pI (toC c k s)):=by
 obtain ⟨row,h1,h2,h3⟩:=ZBO c hk
 refine ⟨row.map pI,Zj h1, ?_⟩
 refine Zol ?_
 rw[h3 s,List.getElem?_map,List.getElem?_eq_getElem (by omega),List.getD_eq_getElem?_getD,List.getElem?_eq_getElem (by omega)]
 rfl
def ZiX (n:PNet) (k:Nat):Int:=match n.wires[k]? with|some w=>w.kind|none=>0
def inAt (n:PNet) (k:Nat):Bool:=match n.signals[k]? with|some s=>decide (s.2=1)|none=>false
theorem ZBQ {n:PNet} (hv:Zdm n=true) {k:Nat} (hk:k<n.signals.length):decide (ZiX n k=1)=inAt n k:=by
 have hs:=(ZaQ hv).1
 have hw:n.wires[k]?=some n.wires[k]:=List.getElem?_eq_getElem (by omega)
 have hsg:n.signals[k]?=some n.signals[k]:=List.getElem?_eq_getElem hk
 unfold ZiX inAt
 rw[hw,hsg]
 unfold Zdm at hv
 simp only[Bool.and_eq_true] at hv
 have h1:=ZjV _ _ _ hv.2 k _ hw
 rw[Nat.zero_add] at h1
 unfold ZbK Zml Zg9 at h1
 have hd:decide ((k:Int)<(n.signals.length:Int))=true:=by simp only[decide_eq_true_eq];omega
 rw[hd,hsg] at h1
 simp only[Bool.and_eq_true,Bool.not_true,Bool.false_or,beq_iff_eq] at h1
 exact h1.1.1.1.2.2
def Zkg (c:PSG) (n:PNet) (s:Nat) (v:List UInt8) (k:Nat):Bool:=if n.signals.length≤k then Zp n v k else decide (0≤toC c s k)&&(decide (ZiX n k=1)||Zp n v k)
theorem Zux (c:PSG) (n:PNet) (h:Go1 c n) (s:Nat) (v:List UInt8) (k:Nat) (hs:s<c.codes.length) (hb:Z1 v n.wires.length=true) (hk:k<n.wires.length):Zcc [Zb2 c n,ePs ⟨s,v⟩,pI (k:Int)]=some (pB (Zkg c n s v k)):=by
 obtain ⟨h1,h2,h3,h4,h5,h6⟩:=h.vals hb
 have g:=ZdV n v k h.fitn h2 h1 hk
 simp only[Zo] at g
 show (fun x0 x1 x2=>Zcc [x0,x1,x2]) _ _ _=_
 rw[Zko]
 unfold Zkg
 by_cases c1:n.signals.length≤k
 ·have hd:decide ((n.signals.length:Int)≤(k:Int))=true:=by simp only[decide_eq_true_eq];omega
  rw[if_pos c1]
  simp only[Zb2,ePs,List.length_map,hd,Zm3,g,EVS]
 ·have hd:decide ((n.signals.length:Int)≤(k:Int))=false:=by simp only[decide_eq_false_iff_not];omega
  obtain ⟨row,r1,r2⟩:=Zma c hs (show k<c.signals.length by omega)
  have hw:Zk (.lst (n.wires.map Zn)) (.int .i64 (k:Int))=some (Zn n.wires[k]):=Zj (List.getElem?_eq_getElem hk)
  have hkd:ZiX n k=n.wires[k].kind:=by unfold ZiX;rw[List.getElem?_eq_getElem hk]
  rw[if_neg c1,hkd]
  cases c2:decide (0≤toC c s k)<;>cases c3:decide (n.wires[k].kind=1)<;>simp only[Zb2,ePs,List.length_map,hd,Zm3,r1,r2,c2,c3,hw,Zn,List.drop_succ_cons,List.drop_zero,g,EVS]
def flB (b:UInt8):UInt8:=if b=48 then 49 else 48
def ZbJ (v:List UInt8) (k:Nat):List UInt8:=v.set k (flB (v.getD k 48))
def Zas (c:PSG) (n:PNet) (s:Nat) (v:List UInt8) (k:Nat):PSt:=⟨if k<n.signals.length then toC c s k else s,ZbJ v k⟩
theorem ZBR (b:UInt8):ZfR (flB b)=true:=by unfold flB;split<;>decide
theorem Zpi {v:List UInt8} {N k:Nat} (h:Z1 v N=true):Z1 (ZbJ v k) N=true:=by
 rw[ZaN] at h⊢
 refine ⟨fun b hb=> ?_,by unfold ZbJ;rw[List.length_set];exact h.2⟩
 unfold ZbJ at hb
 rcases List.mem_or_eq_of_mem_set hb with hb|rfl
 ·exact h.1 b hb
 ·exact ZBR _
theorem ZBS {b:UInt8} (h:ZfR b=true):Zd .xor (TD.int .u8) (pU b) (.int .u8 1)=some (pU (flB b)):=by
 rcases (Zmn b).1 h with rfl|rfl<;>rfl
theorem ZAU (c:PSG) (n:PNet) (h:Go1 c n) (s:Nat) (v:List UInt8) (k:Nat) (hs:s<c.codes.length) (hb:Z1 v n.wires.length=true) (hk:k<n.wires.length):ZdD [Zb2 c n,ePs ⟨s,v⟩,pI (k:Int)]=some (ePs (Zas c n s v k)):=by
 obtain ⟨h1,h2,h3,h4,h5,h6⟩:=h.vals hb
 have hc:=ZCa v h2
 have hvk:v[k]?=some v[k]:=List.getElem?_eq_getElem (by omega)
 have p1:ZaM (v.map pU) (.int .i64 (k:Int))=some (.int .i64 (k:Int)):=ZbG (by rw[List.length_map];omega)
 have q1:(v.map pU)[k]?=some (pU v[k]):=by rw[List.getElem?_map,hvk];rfl
 have hx:=ZBS ((ZaN.1 hb).1 v[k] (List.getElem_mem _))
 have hse:ZaB 0 1 [pU v[k]] (pU v[k]) (pU (flB v[k]))=some (pU (flB v[k])):=rfl
 have st:(v.map pU).set k (pU (flB v[k]))=(v.set k (flB v[k])).map pU:=ZjY pU v k _
 have hbo:=ZiM (v.set k (flB v[k]))
 have hfv:ZbJ v k=v.set k (flB v[k]):=by unfold ZbJ;rw[List.getD_eq_getElem?_getD,hvk];rfl
 show (fun x0 x1 x2=>ZdD [x0,x1,x2]) _ _ _=_
 rw[Zno]
 unfold Zas
 rw[hfv]
 by_cases c1:k<n.signals.length
 ·have hd:decide ((k:Int)<(n.signals.length:Int))=true:=by simp only[decide_eq_true_eq];omega
  obtain ⟨row,r1,r2⟩:=Zma c hs (show k<c.signals.length by omega)
  rw[if_pos c1]
  simp only[Zb2,ePs,List.length_map,hc,p1,q1,Int.toNat_natCast,hx,hse,st,hbo,hd,r1,r2,EVS]
 ·have hd:decide ((k:Int)<(n.signals.length:Int))=false:=by simp only[decide_eq_false_iff_not];omega
  rw[if_neg c1]
  simp only[Zb2,ePs,List.length_map,hc,p1,q1,Int.toNat_natCast,hx,hse,st,hbo,hd,EVS]
theorem ZsF (v:List UInt8) (k:Nat) (hk:k<v.length) (hv:ZA v):Zfz [.str v,pI (k:Int)]=some (.str (ZbJ v k)):=by
 have hvk:v[k]?=some v[k]:=List.getElem?_eq_getElem hk
 have hb:Zao (.str v) (.int .i64 (k:Int))=some (pU v[k]):=Zq hvk
 have g1:=ZjW (decide ((v[k].toNat:Int)=48))
 have g2:=ZjX v k (Zf7 (decide ((v[k].toNat:Int)=48))) hk hv
 have hfb:Zf7 (decide ((v[k].toNat:Int)=48))=flB v[k]:=by
  unfold flB
  have:((v[k].toNat:Int)=48)↔v[k]=48:=by rw[←UInt8.toNat_inj];exact Int.ofNat_inj
  by_cases c:v[k]=48
  ·rw[if_pos c,decide_eq_true (this.2 c)];rfl
  ·rw[if_neg c,decide_eq_false (fun e=>c (this.1 e))];rfl
 show (fun x0 x1=>Zfz [x0,x1]) _ _=_
 rw[Zrn]
 unfold ZbJ
 rw[List.getD_eq_getElem?_getD,hvk,Option.getD_some,←hfb]
 simp only[hb,g1,g2,EVS]
theorem Zzn (l:List Int) (x:Int) (hl:ZA l):Zka [.lst (l.map pI),pI x]=some (pB (decide (x∈l))):=by
 unfold ZA at hl
 show (fun x0 x1=>Zka [x0,x1]) _ _=_
 rw[ZxE]
 simp only[EVS]
 refine (congrArg (fun m:Option PV=>m.bind fun r=>if r.sc=true then some r else none) (ZN (R:=PV) l (fun _ y=> !decide (x=y)) (some (pB true)) (some (pB false)) _ hl (fun again k y hx=> ?_) (fun again=> ?_))).trans ?_
 ·have hk:=Ze hx
  have hi:Zk (.lst (l.map pI)) (.int .i64 (k:Int))=some (pI y):=Zj hx
  have he:decide (y=x)=decide (x=y):=by rw[Bool.eq_iff_iff,decide_eq_true_eq,decide_eq_true_eq];exact eq_comm
  simp only[Zr hk,Zi hk hl,hi,he,EVS]
  cases decide (x=y)<;>simp only[EVS]
 ·simp only[ZV,EVS]
 ·rw[Zi8]
  cases decide (x∈l)<;>rfl
theorem ZwM (good:Nat→Bool) (N k:Nat) (hk:k<N):decide ((k:Int)∈ZaX good N)=good k:=by
 unfold ZaX
 rw[Bool.eq_iff_iff,decide_eq_true_eq,List.mem_map]
 constructor
 ·rintro ⟨i,hi,he⟩
  rw[List.mem_filter] at hi
  have:i=k:=by have:(i:Int)=(k:Int):=he;omega
  rw[←this]
  exact hi.2
 ·intro h
  exact ⟨k,List.mem_filter.2 ⟨List.mem_range.2 hk,h⟩,rfl⟩
def ZaE (c:PSG) (n:PNet) (s:Nat) (v:List UInt8) (k:Nat):List Nat:=(List.range k).filter (Zkg c n s v)
def Zhx (c:PSG) (n:PNet) (s:Nat) (v:List UInt8) (k:Nat):Bool:=decide (k<n.signals.length)&&((!decide (ZiX n k=1)&&decide (toC c s k<0))&&Zp n v k)
def Zap (c:PSG) (n:PNet) (s:Nat) (v:List UInt8) (k:Nat):List Nat:=(List.range k).filter (Zhx c n s v)
def eNn (i:Nat):PV:=pI (i:Int)
theorem ZeU {good:Nat→Bool} {k:Nat} (h:good k=true):(List.range (k+1)).filter good=(List.range k).filter good++[k]:=by
 rw[List.range_succ,List.filter_append];simp[h]
theorem Zdz {good:Nat→Bool} {k:Nat} (h:good k=false):(List.range (k+1)).filter good=(List.range k).filter good:=by
 rw[List.range_succ,List.filter_append];simp[h]
theorem ZeV (good:Nat→Bool) (k:Nat):((List.range k).filter good).length≤k:=by
 have:=List.length_filter_le good (List.range k)
 simpa using this
theorem Zpj (c:PSG) (n:PNet) (h:Go1 c n) (s:Nat) (v:List UInt8) (hs:s<c.codes.length) (hb:Z1 v n.wires.length=true):
 Za6 [Zb2 c n,ePs ⟨s,v⟩]=some (.tup [.lst ((ZaE c n s v n.wires.length).map fun k=>ePs (Zas c n s v k)),.lst ((ZaE c n s v n.wires.length).map eNn)]):=by
 obtain ⟨h1,h2,h3,h4,h5,h6⟩:=h.vals hb
 show (fun x0 x1=>Za6 [x0,x1]) _ _=_
 rw[ZhT]
 simp only[Zb2,ePs,List.length_map,EVS]
 refine (Zel (R:=PV) 0 n.wires.length (fun k=>[.lst ((ZaE c n s v k).map eNn),.lst ((ZaE c n s v k).map fun k=>ePs (Zas c n s v k)),pI (Int.ofNat k)]) (some (.tup [.lst ((ZaE c n s v n.wires.length).map fun k=>ePs (Zas c n s v k)),.lst ((ZaE c n s v n.wires.length).map eNn)])) _ (by omega) (fun again k k1 k2=> ?_) (fun again=> ?_) (Nat.zero_le _) _ (by simp[ZaE]))
 ·have a1:=Zux c n h s v k hs hb k2
  have a2:=ZAU c n h s v k hs hb k2
  have hcl:(ZaE c n s v k).length≤k:=ZeV _ k
  simp only[Zb2,ePs] at a1 a2
  have hm:n.wires.length≤9223372036854775807:=by omega
  have hla:(ZaE c n s v k).length+[ePs (Zas c n s v k)].length≤4294967296∧[ePs (Zas c n s v k)].all (Zal 2)=true:=⟨by simp;omega,rfl⟩
  have hlb:(ZaE c n s v k).length+[pI (k:Int)].length≤4294967296∧[pI (k:Int)].all (Zal 1)=true:=⟨by simp;omega,rfl⟩
  simp only[ePs] at hla
  simp only[Zr k2,Zn4,a1,EVS]
  cases hE:Zkg c n s v k
  ·have e1:ZaE c n s v (k+1)=ZaE c n s v k:=Zdz hE
   simp only[Zi k2 hm,e1,EVS]
  ·have e1:ZaE c n s v (k+1)=ZaE c n s v k++[k]:=ZeU hE
   simp only[a2,if_pos hla,if_pos hlb,Zi k2 hm,e1,Zn4,List.map_append,List.map_cons,List.map_nil,eNn,EVS]
   rfl
 ·simp only[ZV,EVS]
theorem ZwN (c:PSG) (n:PNet) (s:Nat) (v:List UInt8):∀(k:Nat),n.signals.length≤k→Zap c n s v k=Zap c n s v n.signals.length:=by
 intro k hk
 induction k with
 | zero => have:n.signals.length=0:=by omega
           rw[this]
 | succ k ih=>
  by_cases c1:n.signals.length≤k
  ·have:Zhx c n s v k=false:=by unfold Zhx;rw[decide_eq_false (by omega)];rfl
   rw[←ih c1]
   exact Zdz this
  ·rw[show n.signals.length=k+1 by omega]
theorem Zpk (c:PSG) (n:PNet) (h:Go1 c n) (s:Nat) (v:List UInt8) (hs:s<c.codes.length) (hb:Z1 v n.wires.length=true):
 Za7 [Zb2 c n,ePs ⟨s,v⟩]=some (.lst ((Zap c n s v n.wires.length).map eNn)):=by
 obtain ⟨h1,h2,h3,h4,h5,h6⟩:=h.vals hb
 rw[ZwN c n s v _ h5]
 show (fun x0 x1=>Za7 [x0,x1]) _ _=_
 rw[ZhV]
 simp only[Zb2,ePs,List.length_map,EVS]
 refine (Zel (R:=PV) 0 n.signals.length (fun k=>[.lst ((Zap c n s v k).map eNn),pI (Int.ofNat k)]) (some (.lst ((Zap c n s v n.signals.length).map eNn))) _ (by omega) (fun again k k1 k2=> ?_) (fun again=> ?_) (Nat.zero_le _) _ (by simp[Zap]))
 ·have hkw:k<n.wires.length:=by omega
  have g:=ZdV n v k h.fitn h2 h1 hkw
  simp only[Zo] at g
  have hcl:(Zap c n s v k).length≤k:=ZeV _ k
  have hm:n.signals.length≤9223372036854775807:=by omega
  have hlb:(Zap c n s v k).length+[pI (k:Int)].length≤4294967296∧[pI (k:Int)].all (Zal 1)=true:=⟨by simp;omega,rfl⟩
  obtain ⟨row,r1,r2⟩:=Zma c hs (show k<c.signals.length by omega)
  have hw:Zk (.lst (n.wires.map Zn)) (.int .i64 (k:Int))=some (Zn n.wires[k]):=Zj (List.getElem?_eq_getElem hkw)
  have hkd:ZiX n k=n.wires[k].kind:=by unfold ZiX;rw[List.getElem?_eq_getElem hkw]
  have hE:Zhx c n s v k=((!decide (n.wires[k].kind=1)&&decide (toC c s k<0))&&Zp n v k):=by unfold Zhx;rw[decide_eq_true k2,hkd];rfl
  cases c2:decide (n.wires[k].kind=1)<;>cases c3:decide (toC c s k<0)<;>cases c4:Zp n v k<;>rw[c2,c3,c4] at hE<;>
   simp only[Bool.not_true,Bool.not_false,Bool.and_true,Bool.and_false,Bool.true_and,Bool.false_and] at hE
  all_goals first
   | (have e1:Zap c n s v (k+1)=Zap c n s v k:=Zdz hE
      simp only[Zr k2,hw,Zn,List.drop_succ_cons,List.drop_zero,c2,c3,c4,r1,r2,Zm3,g,Zi k2 hm,e1,EVS])
   | (have e1:Zap c n s v (k+1)=Zap c n s v k++[k]:=ZeU hE
      simp only[Zr k2,hw,Zn,List.drop_succ_cons,List.drop_zero,c2,c3,c4,r1,r2,Zm3,g,if_pos hlb,Zi k2 hm,e1,List.map_append,List.map_cons,List.map_nil,eNn,EVS])
 ·simp only[ZV,EVS]
theorem Zuy (c:PSG) (n:PNet) (h:Go1 c n) (s:Nat) (v:List UInt8) (hs:s<c.codes.length) (hb:Z1 v n.wires.length=true):
 Zgw [eSG c,Zo n,ePs ⟨s,v⟩]=some (.tup [.lst ((ZaE c n s v n.wires.length).map fun k=>ePs (Zas c n s v k)),.lst ((ZaE c n s v n.wires.length).map eNn),.lst ((Zap c n s v n.wires.length).map eNn)]):=by
 obtain ⟨h1,h2,h3,h4,h5,h6⟩:=h.vals hb
 have g0:=Zjc n v h.fitn h2 h1 (by omega)
 simp only[Zo] at g0
 show (fun x0 x1 x2=>Zgw [x0,x1,x2]) _ _ _=_
 rw[Ztz]
 simp only[eSG,Zo,ePs,ZK,g0,List.length_map,EVS]
 refine (Zel (R:=PV) 0 n.wires.length (fun k=>[.lst ((ZaE c n s v k).map fun k=>ePs (Zas c n s v k)),.lst ((ZaE c n s v k).map eNn),.lst ((Zap c n s v k).map eNn),pI (Int.ofNat k)]) (some (.tup [.lst ((ZaE c n s v n.wires.length).map fun k=>ePs (Zas c n s v k)),.lst ((ZaE c n s v n.wires.length).map eNn),.lst ((Zap c n s v n.wires.length).map eNn)])) _ (by omega) (fun again k k1 k2=> ?_) (fun again=> ?_) (Nat.zero_le _) _ (by simp[ZaE,Zap]))
 ·have g1:=Zzn (ZaX (Zp n v) n.wires.length) k (by unfold ZA;have:=Zk7 (Zp n v) n.wires.length;omega)
  rw[ZwM _ _ _ k2] at g1
  have g2:=ZsF v k (by omega) h2
  have hcl:(ZaE c n s v k).length≤k:=ZeV _ k
  have hcx:(Zap c n s v k).length≤k:=ZeV _ k
  have hm:n.wires.length≤9223372036854775807:=by omega
  have hlb:(ZaE c n s v k).length+[pI (k:Int)].length≤4294967296∧[pI (k:Int)].all (Zal 1)=true:=⟨by simp;omega,rfl⟩
  have hlx:(Zap c n s v k).length+[pI (k:Int)].length≤4294967296∧[pI (k:Int)].all (Zal 1)=true:=⟨by simp;omega,rfl⟩
  by_cases c1:k<n.signals.length
  ·have hd:=Zr c1
   have hsg:Zk (.lst (n.signals.map ZD)) (.int .i64 (k:Int))=some (ZD n.signals[k]):=Zj (List.getElem?_eq_getElem c1)
   have hin:inAt n k=decide (n.signals[k].2=1):=by unfold inAt;rw[List.getElem?_eq_getElem c1]
   have hki:=ZBQ h.net c1
   rw[hin] at hki
   have g3:=ZzH c n s k h hs (by omega)
   simp only[eSG] at g3
   have hla:(ZaE c n s v k).length+[PV.agg [pI (toC c s k),.str (ZbJ v k)]].length≤4294967296∧[PV.agg [pI (toC c s k),.str (ZbJ v k)]].all (Zal 2)=true:=⟨by simp;omega,rfl⟩
   have hfl:Zas c n s v k=⟨toC c s k,ZbJ v k⟩:=by unfold Zas;rw[if_pos c1]
   have hE:Zkg c n s v k=(decide (0≤toC c s k)&&(decide (n.signals[k].2=1)||Zp n v k)):=by unfold Zkg;rw[if_neg (by omega),hki]
   have hX:Zhx c n s v k=((!decide (n.signals[k].2=1)&&decide (toC c s k<0))&&Zp n v k):=by unfold Zhx;rw[decide_eq_true c1,hki];rfl
   by_cases c3:0≤toC c s k
   ·have c3':decide (0≤toC c s k)=true:=decide_eq_true c3
    have c3'':decide (toC c s k<0)=false:=decide_eq_false (by omega)
    rw[c3'] at hE
    rw[c3''] at hX
    simp only[Bool.and_false,Bool.false_and,Bool.true_and] at hE hX
    have e2:Zap c n s v (k+1)=Zap c n s v k:=Zdz hX
    cases c2:decide (n.signals[k].2=1)<;>cases c4:Zp n v k<;>rw[c2,c4] at hE<;>rw[c4] at g1<;>simp only[Bool.or_true,Bool.or_false,Bool.true_or,Bool.false_or] at hE
    ·have e1:ZaE c n s v (k+1)=ZaE c n s v k:=Zdz hE
     simp only[Zr k2,hd,hsg,ZR,g3,g1,c2,c3',List.drop_succ_cons,List.drop_zero,Zi k2 hm,e1,e2,EVS]
    ·have e1:ZaE c n s v (k+1)=ZaE c n s v k++[k]:=ZeU hE
     simp only[Zr k2,hd,hsg,ZR,g3,g2,g1,c2,c3',List.drop_succ_cons,List.drop_zero,if_pos hla,if_pos hlb,Zi k2 hm,e1,e2,hfl,ePs,List.map_append,List.map_cons,List.map_nil,eNn,EVS]
    ·have e1:ZaE c n s v (k+1)=ZaE c n s v k++[k]:=ZeU hE
     simp only[Zr k2,hd,hsg,ZR,g3,g2,g1,c2,c3',List.drop_succ_cons,List.drop_zero,if_pos hla,if_pos hlb,Zi k2 hm,e1,e2,hfl,ePs,List.map_append,List.map_cons,List.map_nil,eNn,EVS]
    ·have e1:ZaE c n s v (k+1)=ZaE c n s v k++[k]:=ZeU hE
     simp only[Zr k2,hd,hsg,ZR,g3,g2,g1,c2,c3',List.drop_succ_cons,List.drop_zero,if_pos hla,if_pos hlb,Zi k2 hm,e1,e2,hfl,ePs,List.map_append,List.map_cons,List.map_nil,eNn,EVS]
   ·have c3':decide (0≤toC c s k)=false:=decide_eq_false c3
    have c3'':decide (toC c s k<0)=true:=decide_eq_true (by omega)
    rw[c3'] at hE
    rw[c3''] at hX
    simp only[Bool.and_true,Bool.false_and,Bool.true_and] at hE hX
    have e1:ZaE c n s v (k+1)=ZaE c n s v k:=Zdz hE
    cases c2:decide (n.signals[k].2=1)<;>cases c4:Zp n v k<;>rw[c2,c4] at hX<;>rw[c4] at g1<;>simp only[Bool.not_true,Bool.not_false,Bool.and_true,Bool.and_false,Bool.true_and,Bool.false_and] at hX
    ·have e2:Zap c n s v (k+1)=Zap c n s v k:=Zdz hX
     simp only[Zr k2,hd,hsg,ZR,g3,g1,c2,c3',List.drop_succ_cons,List.drop_zero,Zi k2 hm,e1,e2,EVS]
    ·have e2:Zap c n s v (k+1)=Zap c n s v k++[k]:=ZeU hX
     simp only[Zr k2,hd,hsg,ZR,g3,g1,c2,c3',List.drop_succ_cons,List.drop_zero,if_pos hlx,Zi k2 hm,e1,e2,List.map_append,List.map_cons,List.map_nil,eNn,EVS]
    ·have e2:Zap c n s v (k+1)=Zap c n s v k:=Zdz hX
     simp only[Zr k2,hd,hsg,ZR,g3,g1,c2,c3',List.drop_succ_cons,List.drop_zero,Zi k2 hm,e1,e2,EVS]
    ·have e2:Zap c n s v (k+1)=Zap c n s v k:=Zdz hX
     simp only[Zr k2,hd,hsg,ZR,g3,g1,c2,c3',List.drop_succ_cons,List.drop_zero,Zi k2 hm,e1,e2,EVS]
  ·have hd:decide ((k:Int)<(n.signals.length:Int))=false:=by simp only[decide_eq_false_iff_not];omega
   have hE:Zkg c n s v k=Zp n v k:=by unfold Zkg;rw[if_pos (by omega)]
   have hX:Zhx c n s v k=false:=by unfold Zhx;rw[decide_eq_false c1];rfl
   have e2:Zap c n s v (k+1)=Zap c n s v k:=Zdz hX
   have hfl:Zas c n s v k=⟨(s:Int),ZbJ v k⟩:=by unfold Zas;rw[if_neg c1]
   have hla:(ZaE c n s v k).length+[PV.agg [pI (s:Int),.str (ZbJ v k)]].length≤4294967296∧[PV.agg [pI (s:Int),.str (ZbJ v k)]].all (Zal 2)=true:=⟨by simp;omega,rfl⟩
   have hge:decide (0≤(s:Int))=true:=decide_eq_true (by omega)
   cases c4:Zp n v k<;>rw[c4] at hE g1
   ·have e1:ZaE c n s v (k+1)=ZaE c n s v k:=Zdz hE
    simp only[Zr k2,hd,ZR,g1,hge,Zi k2 hm,e1,e2,EVS]
   ·have e1:ZaE c n s v (k+1)=ZaE c n s v k++[k]:=ZeU hE
    simp only[Zr k2,hd,ZR,g2,g1,hge,if_pos hla,if_pos hlb,Zi k2 hm,e1,e2,hfl,ePs,List.map_append,List.map_cons,List.map_nil,eNn,EVS]
 ·simp only[ZV,EVS]
def StB (c:PSG) (n:PNet) (b:PSt):Prop:=∃s:Nat,b.state=s∧s<c.codes.length∧Z1 b.values n.wires.length=true
def Zc3 (k:Nat) (P:ProdG) (w:Nat) (b:PSt):ProdG:=
 if b∈P.states then ⟨P.states,P.flips++[⟨k,w,(P.states.idxOf b:Nat)⟩],P.extra⟩ else ⟨P.states++[b],P.flips++[⟨k,w,(P.states.length:Nat)⟩],P.extra⟩
def inU (c:PSG) (n:PNet) (k s:Nat) (v:List UInt8):List Nat→ProdG→ProdG
 |[],P=>P
 |w::r,P=>inU c n k s v r (Zc3 k P w (Zas c n s v w))
def exU (k:Nat) (l:List Nat) (P:ProdG):ProdG:=⟨P.states,P.flips,P.extra++l.map fun w:Nat=>⟨(k:Int),(w:Int), -1⟩⟩
def rdU (c:PSG) (n:PNet) (k:Nat) (b:PSt) (P:ProdG):ProdG:=
 exU k (Zap c n b.state.toNat b.values n.wires.length) (inU c n k b.state.toNat b.values (ZaE c n b.state.toNat b.values n.wires.length) P)
def Zkh (c:PSG) (n:PNet):Nat→Nat→ProdG→Option ProdG
 |0,_,P=>some P
 | f+1,k,P=>match P.states[k]? with
  |none=>some P
  |some b=>if 600<(rdU c n k b P).states.length then none else Zkh c n f (k+1) (rdU c n k b P)
def Zff (c:PSG) (n:PNet):Option ProdG:=Zkh c n 601 0 ⟨[Zhw c n],[],[]⟩
theorem Zg6 (k:Nat) (P:ProdG) (w:Nat) (b:PSt):P.states.length≤(Zc3 k P w b).states.length∧(Zc3 k P w b).states.length≤P.states.length+1∧(Zc3 k P w b).flips.length=P.flips.length+1∧(Zc3 k P w b).extra=P.extra:=by
 unfold Zc3
 split<;>simp
theorem Zgd (c:PSG) (n:PNet) (k s:Nat) (v:List UInt8):∀(l:List Nat) (P:ProdG),P.states.length≤(inU c n k s v l P).states.length∧(inU c n k s v l P).states.length≤P.states.length+l.length∧(inU c n k s v l P).flips.length=P.flips.length+l.length∧(inU c n k s v l P).extra=P.extra
 |[],P=>by simp[inU]
 | w::r,P=>by
  unfold inU
  obtain ⟨h1,h2,h3,h4⟩:=Zg6 k P w (Zas c n s v w)
  obtain ⟨g1,g2,g3,g4⟩:=Zgd c n k s v r (Zc3 k P w (Zas c n s v w))
  simp only[List.length_cons]
  refine ⟨by omega,by omega,by omega,g4.trans h4⟩
theorem Zys {k:Nat} {P:ProdG} {w:Nat} {b x:PSt} {i:Nat} (h:P.states[i]?=some x):(Zc3 k P w b).states[i]?=some x:=by
 unfold Zc3
 split
 ·exact h
 ·have:=(List.getElem?_eq_some_iff.1 h).1
  show (P.states++[b])[i]?=_
  rw[List.getElem?_append_left this]
  exact h
theorem ZwO {c:PSG} {n:PNet} {k s:Nat} {v:List UInt8} {x:PSt} {i:Nat}:∀(l:List Nat) (P:ProdG),P.states[i]?=some x→(inU c n k s v l P).states[i]?=some x
 |[],P,h=>h
 |w::r,P,h=>ZwO r _ (Zys h)
theorem Zow {c:PSG} {n:PNet} {s:Nat} {v:List UInt8} {N w:Nat} (h:w∈ZaE c n s v N):w<N∧Zkg c n s v w=true:=by
 unfold ZaE at h
 rw[List.mem_filter] at h
 exact ⟨List.mem_range.1 h.1,h.2⟩
theorem ZAV {c:PSG} {n:PNet} (h:Go1 c n) {s:Nat} {v:List UInt8} {w:Nat} (hs:s<c.codes.length) (hb:Z1 v n.wires.length=true) (hw:Zkg c n s v w=true):StB c n (Zas c n s v w):=by
 unfold Zas
 by_cases c1:w<n.signals.length
 ·rw[if_pos c1]
  unfold Zkg at hw
  rw[if_neg (by omega),Bool.and_eq_true,decide_eq_true_eq] at hw
  have hsl:w<c.signals.length:=by rw[h.same];exact c1
  have:=toC_in h hs hsl
  exact ⟨(toC c s w).toNat,by show toC c s w=_;omega,by omega,Zpi hb⟩
 ·rw[if_neg c1]
  exact ⟨s,rfl,hs,Zpi hb⟩
theorem ZBT {c:PSG} {n:PNet} {k:Nat} {P:ProdG} {w:Nat} {b:PSt} (hP:∀x∈P.states,StB c n x) (hb:StB c n b):∀x∈(Zc3 k P w b).states,StB c n x:=by
 unfold Zc3
 split
 ·exact hP
 ·intro x hx
  rcases List.mem_append.1 hx with hx|hx
  ·exact hP x hx
  ·rw[List.mem_singleton] at hx;subst hx;exact hb
theorem ZAW {c:PSG} {n:PNet} (h:Go1 c n) {k s:Nat} {v:List UInt8} (hs:s<c.codes.length) (hb:Z1 v n.wires.length=true):∀(l:List Nat) (P:ProdG),(∀w∈l,Zkg c n s v w=true)→(∀x∈P.states,StB c n x)→∀x∈(inU c n k s v l P).states,StB c n x
 |[],P,_,hP=>hP
 |w::r,P,hl,hP=>ZAW h hs hb r _ (fun x hx=>hl x (List.mem_cons_of_mem _ hx)) (ZBT hP (ZAV h hs hb (hl w List.mem_cons_self)))
theorem rdU_ok {c:PSG} {n:PNet} (h:Go1 c n) {k:Nat} {b:PSt} {P:ProdG} (hb:StB c n b) (hP:∀x∈P.states,StB c n x):∀x∈(rdU c n k b P).states,StB c n x:=by
 obtain ⟨s,h1,h2,h3⟩:=hb
 unfold rdU exU
 rw[h1,Int.toNat_natCast]
 exact ZAW h h2 h3 _ _ (fun w hw=>(Zow hw).2) hP
theorem ZkD {n:PNet} {N:Nat}:∀(f k:Nat) (v:List UInt8),Z1 v N=true→Z1 (Zhf n f k v) N=true
 |0,k,v,h=>h
 | f+1,k,v,h=>by
  unfold Zhf
  exact ZkD f _ _ (ZpI h _)
theorem Zm4 {c:PSG} {n:PNet} (h:Go1 c n):StB c n (Zhw c n):=by
 obtain ⟨x,hx,hb⟩:=h.code
 refine ⟨0,rfl,by have:=h.one;omega, ?_⟩
 unfold Zhw ZeA
 rw[List.getD_eq_getElem?_getD,hx]
 exact ZkD _ _ _ (ZpJ hb (ZaQ h.net).1)
theorem StB.mk' {c:PSG} {n:PNet} {b:PSt} (h:StB c n b):∃s:Nat,b=⟨(s:Int),b.values⟩∧s<c.codes.length∧Z1 b.values n.wires.length=true:=by
 obtain ⟨s,h1,h2,h3⟩:=h
 refine ⟨s, ?_,h2,h3⟩
 cases b
 simp only at h1
 rw[h1]
structure Pi (c:PSG) (n:PNet) (k:Nat) (P:ProdG):Prop where
 ok:∀x∈P.states,StB c n x
 len:P.states.length≤600
 fl:P.flips.length≤24 * k
 ex:P.extra.length≤24 * k
theorem ZkY (c:PSG) (n:PNet) (s:Nat) (v:List UInt8) (N:Nat):(Zap c n s v N).length≤N:=ZeV _ _
theorem Zpl (c:PSG) (n:PNet) (s:Nat) (v:List UInt8) (N:Nat):(ZaE c n s v N).length≤N:=ZeV _ _
theorem Pi.next {c:PSG} {n:PNet} (h:Go1 c n) {k:Nat} {P:ProdG} (hP:Pi c n k P) {b:PSt} (hb:P.states[k]?=some b) (hl:¬600<(rdU c n k b P).states.length):Pi c n (k+1) (rdU c n k b P):=by
 have hbs:=hP.ok b (List.mem_of_getElem? hb)
 have hn:=(ZaQ h.net).2
 have h1:=Zpl c n b.state.toNat b.values n.wires.length
 have h2:=ZkY c n b.state.toNat b.values n.wires.length
 obtain ⟨g1,g2,g3,g4⟩:=Zgd c n k b.state.toNat b.values (ZaE c n b.state.toNat b.values n.wires.length) P
 have h3:=hP.fl
 have h4:=hP.ex
 refine ⟨rdU_ok h hbs hP.ok,by omega, ?_, ?_⟩
 ·show (inU c n k b.state.toNat b.values _ P).flips.length≤_
  omega
 ·show ((inU c n k b.state.toNat b.values _ P).extra++List.map _ _).length≤_
  rw[g4,List.length_append,List.length_map]
  omega
theorem ZAX (x y:PSt):eqV (some [(0,TD.int IntKind.i64),(1,TD.str)]) TD.struct (.agg [pI x.state,.str x.values]) (.agg [pI y.state,.str y.values])=some (decide (x=y)):=by
 have e:decide (x=y)=((x.state==y.state)&&((x.values==y.values)&&true)):=by
  rw[Bool.eq_iff_iff]
  cases x;cases y
  simp only[decide_eq_true_eq,Bool.and_eq_true,PSt.mk.injEq,beq_iff_eq,and_true]
 rw[e]
 show (some (x.state==y.state)).bind (fun b=>(some ((x.values==y.values)&&true)).map fun c=>b&&c)=_
 rfl
theorem ZrH (b:PSt):∀(l:List PSt) (k:Nat),ixf (fun x=>decide (x=b)) k l=if b∈l then ((k+l.idxOf b:Nat):Int) else -1
 |[],k=>by simp[ixf]
 | x::r,k=>by
  unfold ixf
  by_cases c:x=b
  ·subst c
   simp
  ·have h:(x::r).idxOf b=r.idxOf b+1:=by rw[List.idxOf_cons,beq_eq_false_iff_ne.2 c];rfl
   have hm:b∈x::r↔b∈r:=by rw[List.mem_cons];exact ⟨fun h=>h.resolve_left (fun e=>c e.symm),.inr⟩
   rw[decide_eq_false c,if_neg (by simp),ZrH b r (k+1),h]
   simp only[hm]
   rw[show k+1+r.idxOf b=k+(r.idxOf b+1) by omega]
theorem Zuz (l:List PSt) (b:PSt) (hl:ZA l):Zgx [.lst (l.map ePs),ePs b]=some (pI (if b∈l then (l.idxOf b:Nat) else -1)):=by
 unfold ZA at hl
 show (fun x0 x1=>Zgx [x0,x1]) _ _=_
 rw[ZtB]
 simp only[ePs,EVS]
 refine (congrArg (fun m:Option PV=>m.bind fun r=>if r.sc=true then some r else none) (Zc4 l (fun x=>decide (x=b)) _ hl (fun again k x hx=> ?_) (fun again=> ?_))).trans ?_
 ·have hk:=Ze hx
  have hi:Zk (.lst (l.map ePs)) (.int .i64 (k:Int))=some (ePs x):=Zj hx
  have he:=ZAX x b
  have hf:(fun b:PSt=>PV.agg [pI b.state,PV.str b.values])=ePs:=rfl
  simp only[ePs] at hi
  cases c:decide (x=b)<;>rw[c] at he<;>simp only[Zr hk,Zi hk hl,hi,ZK,sp2,he,Bool.false_eq_true,if_false,if_true,EVS]
 ·simp only[ZV,EVS]
  rfl
 ·rw[ZrH,Nat.zero_add]
  rfl
def Zmb :PV:=.agg [.lst [],.lst [],.lst []]
def ZuA {R:Type} (c:PSG) (n:PNet) (k s:Nat) (v:List UInt8) (z:Option R) (P:ProdG) (_:Nat) (w:Nat):Sum ProdG (Option R):=
 if Zas c n s v w∉P.states∧P.states.length=600 then .inr z else .inl (Zc3 k P w (Zas c n s v w))
theorem Zpm {R:Type} (c:PSG) (n:PNet) (k s:Nat) (v:List UInt8) (z:Option R) (e:ProdG→Option R):∀(l:List Nat) (i:Nat) (P:ProdG),P.states.length≤600→
 Z5 (ZuA c n k s v z) e i P l=if (inU c n k s v l P).states.length≤600 then e (inU c n k s v l P) else z
 |[],i,P,h=>by rw[show inU c n k s v [] P=P from rfl,if_pos h];rfl
 | w ::r,i,P,h=>by
  unfold Z5 ZuA inU
  by_cases c1:Zas c n s v w∉P.states∧P.states.length=600
  ·rw[if_pos c1]
   have h1:(Zc3 k P w (Zas c n s v w)).states.length=601:=by unfold Zc3;rw[if_neg c1.1];simp[c1.2]
   have h2:=(Zgd c n k s v r (Zc3 k P w (Zas c n s v w))).1
   rw[if_neg (by omega)]
  ·rw [if_neg c1]
   have h1:(Zc3 k P w (Zas c n s v w)).states.length≤600:=by
    unfold Zc3
    split
    ·exact h
    ·rename_i hm
     have:P.states.length≠600:=fun e=>c1 ⟨hm,e⟩
     simp
     omega
   exact Zpm c n k s v z e r (i+1) _ h1
theorem ZsG {R:Type} (k:Nat) (e:ProdG→Option R):∀(l:List Nat) (i:Nat) (P:ProdG),Z5 (fun (P:ProdG) (_:Nat) (w:Nat)=>.inl ⟨P.states,P.flips,P.extra++[⟨(k:Int),(w:Int), -1⟩]⟩) e i P l=e (exU k l P)
 |[],i,P=>by cases P;simp[Z5,exU]
 | w::r,i,P=>by
  show Z5 _ e (i+1) _ r=_
  rw[ZsG k e r]
  unfold exU
  simp[List.append_assoc]
theorem ZrI (a b c x y z:PV):splice (splice (splice [a,b,c] 0 [x]) 1 [y]) 2 [z]=[x,y,z]:=rfl
theorem grp3 (a b c x y z:PV):Zpe [a,b,c] 0 (.agg [x,y,z])=some (.agg [x,y,z]):=rfl
theorem Zf5 (a b c x y z:PV):splice [a,b,c] 0 [x,y,z]=[x,y,z]:=rfl
def prR (r:Option ProdG):PV:=match r with|some P=>.tup [ePr P,pB true]|none=>.tup [Zmb,pB false]
theorem Zpn (c:PSG) (n:PNet) (h:Go1 c n):Zd6 [eSG c,Zo n]=some (prR (Zff c n)):=by
 have g0:=ZsE c n h
 have hn24:=(ZaQ h.net).2
 show (fun x0 x1=>Zd6 [x0,x1]) _ _=_
 rw[Zog]
 simp only[eSG,Zo,ePs] at g0
 simp only[eSG,Zo,ZK,ZR,g0,Zf5,grp3,EVS]
 unfold Zff
 refine (ZaP (R:=PV) (fun q:{q:ProdG×Nat // Pi c n q.2 q.1∧q.2≤q.1.states.length}=>[ePr q.1.1,pI (Int.ofNat q.1.2)]) (fun q=>601 - q.1.2) (fun q=>some (prR (Zkh c n (601 - q.1.2) q.1.2 q.1.1))) _ (fun again q ih=> ?_) _ ⟨(⟨[Zhw c n],[],[]⟩,0),⟨fun x hx=>by rw[List.mem_singleton] at hx;subst hx;exact Zm4 h,by simp,by simp,by simp⟩,by simp⟩ (by simp only;omega))
 obtain ⟨⟨P,k⟩,hP,hk⟩:=q
 dsimp only at ih hP hk⊢
 have hlen:=hP.len
 by_cases ck:k<P.states.length
 ·obtain ⟨b,hb⟩:∃b,P.states[k]?=some b:=⟨P.states[k],List.getElem?_eq_getElem ck⟩
  obtain ⟨s,hbe,hs,hbits⟩:=(hP.ok b (List.mem_of_getElem? hb)).mk'
  obtain ⟨v,hv⟩:∃v,b.values=v:=⟨_,rfl⟩
  rw[hv] at hbe hbits
  subst hbe
  have g1:=Zuy c n h s v hs hbits
  have p1:ZaM (P.states.map ePs) (.int .i64 (k:Int))=some (.int .i64 (k:Int)):=ZbG (by rw[List.length_map];exact ck)
  have q1:(P.states.map ePs)[k]?=some (.agg [pI (s:Int),.str v]):=by rw[List.getElem?_map,hb];rfl
  have hcl:=Zpl c n s v n.wires.length
  have hxl:=ZkY c n s v n.wires.length
  simp only[eSG,Zo,ePs] at g1
  simp only[ePr,List.length_map,Zr ck,p1,q1,Int.toNat_natCast,ZK,ZR,g1,EVS]
  have hst:Zkh c n (601 - k) k P=if 600<(rdU c n k ⟨(s:Int),v⟩ P).states.length then none else Zkh c n (600 - k) (k+1) (rdU c n k ⟨(s:Int),v⟩ P):=by
   rw[show 601 - k=(600 - k)+1 by omega]
   show (match P.states[k]? with|none=>some P|some b=>_)=_
   rw[hb]
  rw[hst]
  obtain ⟨L,hL⟩:∃L,ZaE c n s v n.wires.length=L:=⟨_,rfl⟩
  obtain ⟨X,hX⟩:∃X,Zap c n s v n.wires.length=X:=⟨_,rfl⟩
  have hrd:rdU c n k ⟨(s:Int),v⟩ P=exU k X (inU c n k s v L P):=by unfold rdU;rw[Int.toNat_natCast,hL,hX]
  have hLok:∀w∈L,Zkg c n s v w=true:=fun w hw=>by rw[←hL] at hw;exact (Zow hw).2
  rw[hrd,hL,hX]
  rw[hL] at hcl
  rw[hX] at hxl
  refine (ZaI (R:=PV) L (fun (P:ProdG) i=>[ePr P,pI (Int.ofNat i)]) (fun i Q=>Q.states.length≤600∧Q.flips.length=P.flips.length+i∧Q.extra=P.extra) (ZuA c n k s v (some (.tup [Zmb,pB false]))) (fun Q=>again [ePr (exU k X Q),pI (Int.ofNat (k+1))]) _ (by omega) (fun Q i w Q' hi hw he=> ?_) (fun again1 Q i w hi hw=> ?_) (fun again1 Q hi=> ?_) (b:=P) ⟨hlen,rfl,rfl⟩).trans ((Zpm c n k s v _ _ L 0 P hlen).trans ?_)
  ·unfold ZuA at he
   split at he
   ·cases he
   ·rename_i c1
    cases he
    obtain ⟨a1,a2,a3,a4⟩:=Zg6 k Q w (Zas c n s v w)
    refine ⟨?_,by omega,a4.trans hi.2.2⟩
    unfold Zc3
    split
    ·exact hi.1
    ·rename_i hm
     have:Q.states.length≠600:=fun e=>c1 ⟨hm,e⟩
     have:=hi.1
     simp
     omega
  ·have hil:=Ze hw
   obtain ⟨i1,i2,i3⟩:=hi
   have hPf:=hP.fl
   have hix:Zk (.lst (L.map fun k=>ePs (Zas c n s v k))) (.int .i64 (i:Int))=some (ePs (Zas c n s v w)):=Zj (enc:=fun k=>ePs (Zas c n s v k)) hw
   have hiw:Zk (.lst (L.map eNn)) (.int .i64 (i:Int))=some (pI (w:Int)):=Zj (enc:=eNn) hw
   have g2:=Zuz Q.states (Zas c n s v w) (by unfold ZA;omega)
   obtain ⟨bb,hbb⟩:∃bb,Zas c n s v w=bb:=⟨_,rfl⟩
   rw[hbb] at hix g2
   have hnx:=Zi hil (show L.length≤9223372036854775807 by omega)
   have hlb:Q.states.length+[PV.agg [pI bb.state,.str bb.values]].length≤4294967296∧[PV.agg [pI bb.state,.str bb.values]].all (Zal 2)=true:=⟨by simp;omega,rfl⟩
   have hla:∀t:Int,Q.flips.length+[PV.agg [pI (k:Int),pI (w:Int),pI t]].length≤4294967296∧[PV.agg [pI (k:Int),pI (w:Int),pI t]].all (Zal 3)=true:=fun t=>⟨by simp;omega,rfl⟩
   unfold ZuA Zc3
   rw[hbb]
   simp only[ePs] at hix g2
   by_cases c1:bb∈Q.states
   ·rw[if_neg (fun h=>h.1 c1),if_pos c1]
    rw[if_pos c1] at g2
    have hneg:decide (((Q.states.idxOf bb:Nat):Int)<0)=false:=by simp only[decide_eq_false_iff_not];omega
    simp only[ePr,List.length_map,Zr hil,hix,ZK,sp2,g2,hneg,hiw,ZrI,if_pos (hla _),hnx,List.map_append,List.map_cons,List.map_nil,eFl,EVS]
   ·rw[if_neg c1] at g2
    have hneg:decide ((-1:Int)<0)=true:=rfl
    by_cases c2:Q.states.length=600
    ·rw[if_pos ⟨c1,c2⟩]
     have h6:decide ((Q.states.length:Int)=600)=true:=by simp only[decide_eq_true_eq];omega
     simp only[ePr,List.length_map,Zr hil,hix,ZK,sp2,g2,hneg,h6,Zf5,EVS]
     rfl
    ·rw[if_neg (fun h=>c2 h.2),if_neg c1]
     have h6:decide ((Q.states.length:Int)=600)=false:=by simp only[decide_eq_false_iff_not];omega
     simp only[ePr,List.length_map,Zr hil,hix,ZK,sp2,g2,hneg,h6,hiw,ZrI,if_pos hlb,if_pos (hla _),hnx,List.map_append,List.map_cons,List.map_nil,eFl,EVS]
     rfl
  ·have hxx:X.length≤9223372036854775807:=by omega
   have hPe:=hP.ex
   simp only[List.length_map,ZV,EVS]
   refine (ZaI (R:=PV) X (fun (P:ProdG) i=>[ePr P,pI (Int.ofNat i)]) (fun i Q'=>Q'.states.length≤600∧Q'.extra.length=P.extra.length+i) (fun (P:ProdG) (_:Nat) (w:Nat)=>.inl ⟨P.states,P.flips,P.extra++[⟨(k:Int),(w:Int), -1⟩]⟩) (fun Q=>again [ePr Q,pI (Int.ofNat (k+1))]) _ hxx (fun Q' i w Q2 hi' hw he=> ?_) (fun again2 Q' i w hi' hw=> ?_) (fun again2 Q' hi'=> ?_) (b:=Q) ⟨hi.1,by rw[hi.2.2];rfl⟩).trans (ZsG k _ X 0 Q)
   ·cases he
    exact ⟨hi'.1,by simp;omega⟩
   ·have hil:=Ze hw
    have hiw:Zk (.lst (X.map eNn)) (.int .i64 (i:Int))=some (pI (w:Int)):=Zj (enc:=eNn) hw
    have hla:Q'.extra.length+[PV.agg [pI (k:Int),pI (w:Int),pI (-1)]].length≤4294967296∧[PV.agg [pI (k:Int),pI (w:Int),pI (-1)]].all (Zal 3)=true:=⟨by simp;omega,rfl⟩
    have hneg:(Int.negSucc 0)=(-1:Int):=rfl
    simp only[ePr,List.length_map,Zr hil,hiw,ZrI,hneg,if_pos hla,Zi hil hxx,List.map_append,List.map_cons,List.map_nil,eFl,EVS]
   ·simp only[ZV,Zi ck (show P.states.length≤9223372036854775807 by omega),EVS]
  ·by_cases c6:(inU c n k s v L P).states.length≤600
   ·have hx6:¬600<(exU k X (inU c n k s v L P)).states.length:=by show ¬600<(inU c n k s v L P).states.length;omega
    rw[if_pos c6,if_neg hx6]
    have hnx:=Pi.next h hP hb (by rw[hrd];exact hx6)
    rw[hrd] at hnx
    have hkl:k+1≤(exU k X (inU c n k s v L P)).states.length:=by
     have:=(Zgd c n k s v L P).1
     show k+1≤(inU c n k s v L P).states.length
     omega
    have:=ih ⟨(exU k X (inU c n k s v L P),k+1),hnx,hkl⟩ (by simp only;omega)
    rw[show 601 - (k+1)=600 - k by omega] at this
    exact this
   ·rw[if_neg c6,if_pos (show 600<(exU k X (inU c n k s v L P)).states.length by show 600<(inU c n k s v L P).states.length;omega)]
    rfl
 ·obtain rfl:k=P.states.length:=by omega
  have hst:Zkh c n (601 - P.states.length) P.states.length P=some P:=by
   rw[show 601 - P.states.length=(600 - P.states.length)+1 by omega]
   show (match P.states[P.states.length]? with|none=>some P|some b=>_)=_
   rw[List.getElem?_eq_none (by omega)]
  rw[hst]
  simp only[ePr,List.length_map,ZV,ZR,Zf5,EVS]
  rfl
def ZsH (g:Nat→PV):Nat→List PSt→List (PV×PV)
 |_,[]=>[]
 |k,b::r=>(ePs b,g k)::ZsH g (k+1) r
theorem ZrJ (g:Nat→PV) (a:PSt):∀(l:List PSt) (k:Nat),ZsH g k (l++[a])=ZsH g k l++[(ePs a,g (k+l.length))]
 |[],k=>rfl
 | x::r,k=>by
  show (ePs x,g k)::ZsH g (k+1) (r++[a])=_
  rw[ZrJ g a r (k+1)]
  simp only[ZsH,List.length_cons,List.cons_append]
  rw[show k+1+r.length=k+(r.length+1) by omega]
theorem findP (g:Nat→PV) (s:PSt):∀(l:List PSt) (k i:Nat),Zfb (some [(0,TD.int IntKind.i64),(1,TD.str)]) TD.struct (ZsH g k l) (.agg [pI s.state,.str s.values]) i=some (if s∈l then some (i+l.idxOf s,g (k+l.idxOf s)) else none)
 |[],k,i=>rfl
 | x::r,k,i=>by
  unfold ZsH Zfb
  rw[show ePs x=.agg [pI x.state,.str x.values] from rfl,ZAX]
  by_cases c:x=s
  ·subst c
   simp
  ·have h:(x::r).idxOf s=r.idxOf s+1:=by rw[List.idxOf_cons,beq_eq_false_iff_ne.2 c];rfl
   have hm:s∈x::r↔s∈r:=by rw[List.mem_cons];exact ⟨fun h=>h.resolve_left (fun e=>c e.symm),.inr⟩
   simp only[obs,c,show ¬s=x from fun e=>c e.symm,decide_false,Bool.false_eq_true,if_false,findP g s r (k+1) (i+1),hm,h]
   by_cases c2:s∈r
   ·rw[if_pos c2,if_pos c2,show i+1+r.idxOf s=i+(r.idxOf s+1) by omega,show k+1+r.idxOf s=k+(r.idxOf s+1) by omega]
   ·rw[if_neg c2,if_neg c2]
theorem keyP (a:PSt):((eqV (some [(0,TD.int IntKind.i64),(1,TD.str)]) TD.struct (.agg [pI a.state,.str a.values]) (.agg [pI a.state,.str a.values])).elim false fun x=>true)=true:=by rw[ZAX];rfl
theorem ZAY (l:List (PV×PV)):Zwo (.map l)=some l:=rfl
theorem zpInt' :Zbb (TI.mk 1 8 (TD.int .i64) [ZC.int .i64] [] false)=.int .i64 0:=rfl
def ixP (l:List PSt):PV:=.map (ZsH (fun i=>pI i) 0 l)
theorem ZAZ (l:List PSt) (a:PSt):PV.map (ZsH (fun i=>pI i) 0 l++[(.agg [pI a.state,.str a.values],pI (l.length:Int))])=ixP (l++[a]):=by
 unfold ixP
 rw[ZrJ,Nat.zero_add]
 rfl
theorem ZrK {R:Type} (c:PSG) (n:PNet) (k s:Nat) (v:List UInt8) (e:ProdG→Option R):∀(l:List Nat) (i:Nat) (P:ProdG),Z5 (fun (P:ProdG) (_:Nat) (w:Nat)=>.inl (Zc3 k P w (Zas c n s v w))) e i P l=e (inU c n k s v l P)
 |[],i,P=>rfl
 |w::r,i,P=>ZrK c n k s v e r (i+1) _
theorem ZsI (c:PSG) (n:PNet) (h:Go1 c n):ZbE [Zb2 c n]=some (prR (Zff c n)):=by
 have g0:=Zuw c n h
 have hn24:=(ZaQ h.net).2
 obtain ⟨f0,hf0⟩:∃f0,Zhw c n=f0:=⟨_,rfl⟩
 have p00:ZaM [PV.agg [pI f0.state,.str f0.values]] (.int .i64 ((0:Nat):Int))=some (.int .i64 ((0:Nat):Int)):=ZbG (by simp)
 have hk0:=keyP f0
 have hix0:PV.map ([]++[(PV.agg [pI f0.state,.str f0.values],pI 0)])=ixP [f0]:=rfl
 simp only[Int.natCast_zero] at p00
 show (fun x0=>ZbE [x0]) _=_
 rw[Zjm]
 rw[hf0] at g0
 simp only[Zb2,ePs] at g0
 simp only[Zb2,Zn4,g0,Zf5,grp3,p00,Int.toNat_zero,List.getElem?_cons_zero,ZK,hk0,hix0,if_true,EVS]
 unfold Zff
 rw[hf0]
 refine (ZaP (R:=PV) (fun q:{q:ProdG×Nat // Pi c n q.2 q.1∧q.2≤q.1.states.length}=>[ixP q.1.1.states,ePr q.1.1,pI (Int.ofNat q.1.2)]) (fun q=>601 - q.1.2) (fun q=>some (prR (Zkh c n (601 - q.1.2) q.1.2 q.1.1))) _ (fun again q ih=> ?_) _ ⟨(⟨[f0],[],[]⟩,0),⟨fun x hx=>by rw[List.mem_singleton] at hx;subst hx;rw[←hf0];exact Zm4 h,by simp,by simp,by simp⟩,by simp⟩ (by simp only;omega))
 obtain ⟨⟨P,k⟩,hP,hk⟩:=q
 dsimp only at ih hP hk⊢
 have hlen:=hP.len
 by_cases ck:k<P.states.length
 ·obtain ⟨b,hb⟩:∃b,P.states[k]?=some b:=⟨P.states[k],List.getElem?_eq_getElem ck⟩
  obtain ⟨s,hbe,hs,hbits⟩:=(hP.ok b (List.mem_of_getElem? hb)).mk'
  obtain ⟨v,hv⟩:∃v,b.values=v:=⟨_,rfl⟩
  rw[hv] at hbe hbits
  subst hbe
  have g1:=Zpj c n h s v hs hbits
  have g3:=Zpk c n h s v hs hbits
  have p1:ZaM (P.states.map ePs) (.int .i64 (k:Int))=some (.int .i64 (k:Int)):=ZbG (by rw[List.length_map];exact ck)
  have q1:(P.states.map ePs)[k]?=some (.agg [pI (s:Int),.str v]):=by rw[List.getElem?_map,hb];rfl
  have hcl:=Zpl c n s v n.wires.length
  have hxl:=ZkY c n s v n.wires.length
  simp only[Zb2,ePs] at g1 g3
  simp only[ePr,List.length_map,Zr ck,p1,q1,Int.toNat_natCast,Zn4,ZK,g1,EVS]
  have hst:Zkh c n (601 - k) k P=if 600<(rdU c n k ⟨(s:Int),v⟩ P).states.length then none else Zkh c n (600 - k) (k+1) (rdU c n k ⟨(s:Int),v⟩ P):=by
   rw[show 601 - k=(600 - k)+1 by omega]
   show (match P.states[k]? with|none=>some P|some b=>_)=_
   rw[hb]
  rw[hst]
  obtain ⟨L,hL⟩:∃L,ZaE c n s v n.wires.length=L:=⟨_,rfl⟩
  obtain ⟨X,hX⟩:∃X,Zap c n s v n.wires.length=X:=⟨_,rfl⟩
  have hrd:rdU c n k ⟨(s:Int),v⟩ P=exU k X (inU c n k s v L P):=by unfold rdU;rw[Int.toNat_natCast,hL,hX]
  have hLok:∀w∈L,Zkg c n s v w=true:=fun w hw=>by rw[←hL] at hw;exact (Zow hw).2
  rw[hX] at g3
  rw[hrd,hL]
  rw[hL] at hcl
  rw[hX] at hxl
  refine (ZaI (R:=PV) L (fun (P:ProdG) i=>[ixP P.states,ePr P,pI (Int.ofNat i)]) (fun i Q=>(Q.states.length≤P.states.length+i∧Q.states[k]?=some ⟨(s:Int),v⟩)∧Q.flips.length=P.flips.length+i∧Q.extra=P.extra) (fun (P:ProdG) (_:Nat) (w:Nat)=>.inl (Zc3 k P w (Zas c n s v w))) (fun Q=>if 600<Q.states.length then some (.tup [Zmb,pB false]) else again [ixP Q.states,ePr (exU k X Q),pI (Int.ofNat (k+1))]) _ (by omega) (fun Q i w Q' hi hw he=> ?_) (fun again1 Q i w hi hw=> ?_) (fun again1 Q hi=> ?_) (b:=P) ⟨⟨by omega,hb⟩,rfl,rfl⟩).trans ((ZrK c n k s v _ L 0 P).trans ?_)
  ·cases he
   obtain ⟨a1,a2,a3,a4⟩:=Zg6 k Q w (Zas c n s v w)
   exact ⟨⟨by omega,Zys hi.1.2⟩,by omega,a4.trans hi.2.2⟩
  ·have hil:=Ze hw
   obtain ⟨⟨i1,i0⟩,i2,i3⟩:=hi
   have hPf:=hP.fl
   have hix:Zk (.lst (L.map fun k=>ePs (Zas c n s v k))) (.int .i64 (i:Int))=some (ePs (Zas c n s v w)):=Zj (enc:=fun k=>ePs (Zas c n s v k)) hw
   have hiw:Zk (.lst (L.map eNn)) (.int .i64 (i:Int))=some (pI (w:Int)):=Zj (enc:=eNn) hw
   obtain ⟨bb,hbb⟩:∃bb,Zas c n s v w=bb:=⟨_,rfl⟩
   rw[hbb] at hix
   have g2:=findP (fun i=>pI i) bb Q.states 0 0
   have hkk:=keyP bb
   have hnx:=Zi hil (show L.length≤9223372036854775807 by omega)
   have hlb:Q.states.length+[PV.agg [pI bb.state,.str bb.values]].length≤4294967296∧[PV.agg [pI bb.state,.str bb.values]].all (Zal 2)=true:=⟨by simp;omega,rfl⟩
   have hla:∀t:Int,Q.flips.length+[PV.agg [pI (k:Int),pI (w:Int),pI t]].length≤4294967296∧[PV.agg [pI (k:Int),pI (w:Int),pI t]].all (Zal 3)=true:=fun t=>⟨by simp;omega,rfl⟩
   unfold Zc3
   rw[hbb]
   simp only[ePs] at hix
   by_cases c1:bb∈Q.states
   ·rw[if_pos c1]
    rw[if_pos c1] at g2
    simp only[Nat.zero_add] at g2
    simp only[ePr,ixP,List.length_map,Zr hil,hix,ZK,sp2,ZAY,hkk,g2,hiw,ZrI,Option.elim_some,if_pos (hla _),hnx,List.map_append,List.map_cons,List.map_nil,eFl,if_true,EVS]
   ·rw[if_neg c1]
    rw[if_neg c1] at g2
    have hN:=ZAZ Q.states bb
    unfold ixP at hN
    simp only[ePr,ixP,List.length_map,Zr hil,hix,ZK,sp2,ZAY,hkk,g2,hiw,ZrI,zpInt',Option.elim_none,if_pos hlb,if_pos (hla _),hnx,hN,List.map_append,List.map_cons,List.map_nil,eFl,if_true,EVS]
    rfl
  ·obtain ⟨⟨i1,i0⟩,i2,i3⟩:=hi
   have hxx:X.length≤9223372036854775807:=by omega
   have hPe:=hP.ex
   have p2:ZaM (Q.states.map ePs) (.int .i64 (k:Int))=some (.int .i64 (k:Int)):=ZbG (by rw[List.length_map];exact (List.getElem?_eq_some_iff.1 i0).1)
   have q2:(Q.states.map ePs)[k]?=some (.agg [pI (s:Int),.str v]):=by rw[List.getElem?_map,i0];rfl
   simp only[ePr,List.length_map,ZV,p2,q2,Int.toNat_natCast,Zn4,ZK,g3,EVS]
   refine (ZaI (R:=PV) X (fun (P:ProdG) i=>[ePr P,pI (Int.ofNat i)]) (fun i Q'=>Q'.states=Q.states∧Q'.extra.length=P.extra.length+i) (fun (P:ProdG) (_:Nat) (w:Nat)=>.inl ⟨P.states,P.flips,P.extra++[⟨(k:Int),(w:Int), -1⟩]⟩) (fun Q'=>if 600<Q'.states.length then some (.tup [Zmb,pB false]) else again [ixP Q'.states,ePr Q',pI (Int.ofNat (k+1))]) _ hxx (fun Q' i w Q2 hi' hw he=> ?_) (fun again2 Q' i w hi' hw=> ?_) (fun again2 Q' hi'=> ?_) (b:=Q) ⟨rfl,by rw[i3];rfl⟩).trans (ZsG k _ X 0 Q)
   ·cases he
    exact ⟨hi'.1,by simp;omega⟩
   ·have hil:=Ze hw
    have p3:ZaM (X.map eNn) (.int .i64 (i:Int))=some (.int .i64 (i:Int)):=ZbG (by rw[List.length_map];exact hil)
    have q3:(X.map eNn)[i]?=some (pI (w:Int)):=by rw[List.getElem?_map,hw];rfl
    have hla:Q'.extra.length+[PV.agg [pI (k:Int),pI (w:Int),pI (-1)]].length≤4294967296∧[PV.agg [pI (k:Int),pI (w:Int),pI (-1)]].all (Zal 3)=true:=⟨by simp;omega,rfl⟩
    have hneg:(Int.negSucc 0)=(-1:Int):=rfl
    simp only[ePr,List.length_map,Zr hil,p3,q3,Int.toNat_natCast,ZrI,hneg,if_pos hla,Zi hil hxx,List.map_append,List.map_cons,List.map_nil,eFl,EVS]
   ·have hks:=(List.getElem?_eq_some_iff.1 i0).1
    by_cases c6:600<Q'.states.length
    ·have c6':decide ((600:Int)<(Q'.states.length:Int))=true:=by simp only[decide_eq_true_eq];omega
     rw[if_pos c6]
     simp only[ePr,List.length_map,ZV,c6',Zf5,EVS]
     rfl
    ·have c6':decide ((600:Int)<(Q'.states.length:Int))=false:=by simp only[decide_eq_false_iff_not];omega
     rw[if_neg c6]
     rw[hi'.1] at c6'
     simp only[ePr,List.length_map,ZV,c6',Zi ck (show P.states.length≤9223372036854775807 by omega),hi'.1,EVS]
  ·by_cases c6:(inU c n k s v L P).states.length≤600
   ·have hx6:¬600<(exU k X (inU c n k s v L P)).states.length:=by show ¬600<(inU c n k s v L P).states.length;omega
    rw[if_neg (show ¬600<(inU c n k s v L P).states.length by omega),if_neg hx6]
    have hnx:=Pi.next h hP hb (by rw[hrd];exact hx6)
    rw[hrd] at hnx
    have hkl:k+1≤(exU k X (inU c n k s v L P)).states.length:=by
     have:=(Zgd c n k s v L P).1
     show k+1≤(inU c n k s v L P).states.length
     omega
    have:=ih ⟨(exU k X (inU c n k s v L P),k+1),hnx,hkl⟩ (by simp only;omega)
    rw[show 601 - (k+1)=600 - k by omega] at this
    exact this
   ·rw[if_pos (show 600<(inU c n k s v L P).states.length by omega),if_pos (show 600<(exU k X (inU c n k s v L P)).states.length by show 600<(inU c n k s v L P).states.length;omega)]
    rfl
 ·obtain rfl:k=P.states.length:=by omega
  have hst:Zkh c n (601 - P.states.length) P.states.length P=some P:=by
   rw[show 601 - P.states.length=(600 - P.states.length)+1 by omega]
   show (match P.states[P.states.length]? with|none=>some P|some b=>_)=_
   rw[List.getElem?_eq_none (by omega)]
  rw[hst]
  simp only[ePr,List.length_map,ZV,ZR,Zf5,EVS]
  rfl
structure PrU (c:PSG) (n:PNet) (P:ProdG):Prop where
 ok:∀x∈P.states,StB c n x
 one:1≤P.states.length
 len:P.states.length≤600
 few:P.flips.length≤14400
 xfew:P.extra.length≤14400
 fl:∀f∈P.flips,0≤f.from_∧f.from_<P.states.length∧0≤f.to∧f.to<P.states.length∧0≤f.wire∧f.wire<n.wires.length
 xl:∀f∈P.extra,0≤f.from_∧f.from_<P.states.length∧f.to= -1∧0≤f.wire∧f.wire<n.wires.length
structure Pj (n:PNet) (P:ProdG):Prop where
 fl:∀f∈P.flips,0≤f.from_∧f.from_<P.states.length∧0≤f.to∧f.to<P.states.length∧0≤f.wire∧f.wire<n.wires.length
 xl:∀f∈P.extra,0≤f.from_∧f.from_<P.states.length∧f.to= -1∧0≤f.wire∧f.wire<n.wires.length
theorem Pj.add {n:PNet} {P:ProdG} (h:Pj n P) {k w:Nat} {b:PSt} (hk:k<P.states.length) (hw:w<n.wires.length):Pj n (Zc3 k P w b):=by
 unfold Zc3
 split
 ·rename_i hm
  refine ⟨fun f hf=> ?_,h.xl⟩
  rcases List.mem_append.1 hf with hf|hf
  ·exact h.fl f hf
  ·rw[List.mem_singleton] at hf
   subst hf
   have:=List.idxOf_lt_length_of_mem hm
   dsimp only
   omega
 ·refine ⟨fun f hf=> ?_,fun f hf=> ?_⟩
  ·rcases List.mem_append.1 hf with hf|hf
   ·have:=h.fl f hf
    simp only[List.length_append,List.length_singleton]
    omega
   ·rw[List.mem_singleton] at hf
    subst hf
    simp only[List.length_append,List.length_singleton]
    omega
  ·have:=h.xl f hf
   simp only[List.length_append,List.length_singleton]
   omega
theorem Pj.ins {c:PSG} {n:PNet} {k s:Nat} {v:List UInt8}:∀(l:List Nat) (P:ProdG),Pj n P→k<P.states.length→(∀w∈l,w<n.wires.length)→Pj n (inU c n k s v l P)
 |[],P,h,_,_=>h
 | w::r,P,h,hk,hl=>by
  unfold inU
  refine Pj.ins r _ (h.add hk (hl w List.mem_cons_self)) ?_ fun x hx=>hl x (List.mem_cons_of_mem _ hx)
  have:=(Zg6 k P w (Zas c n s v w)).1
  omega
theorem Pj.rd {c:PSG} {n:PNet} {k:Nat} {b:PSt} {P:ProdG} (h:Pj n P) (hk:k<P.states.length):Pj n (rdU c n k b P):=by
 have h1:=Pj.ins (c:=c) (s:=b.state.toNat) (v:=b.values) (ZaE c n b.state.toNat b.values n.wires.length) P h hk fun w hw=>(Zow hw).1
 have h2:=(Zgd c n k b.state.toNat b.values (ZaE c n b.state.toNat b.values n.wires.length) P).1
 unfold rdU exU
 refine ⟨h1.fl,fun f hf=> ?_⟩
 rcases List.mem_append.1 hf with hf|hf
 ·exact h1.xl f hf
 ·obtain ⟨w,hw,rfl⟩:=List.mem_map.1 hf
  unfold Zap at hw
  have:=List.mem_range.1 (List.mem_filter.1 hw).1
  dsimp only
  omega
theorem Zyt {c:PSG} {n:PNet} (h:Go1 c n):∀(f k:Nat) (P Q:ProdG),Pi c n k P→Pj n P→k≤P.states.length→1≤P.states.length→k+f≤601→Zkh c n f k P=some Q→PrU c n Q
 | 0,k,P,Q,hP,hj,hk,h1,hf,he=>by
  cases he
  have:=hP.fl
  have:=hP.ex
  have:=hP.len
  exact ⟨hP.ok,h1,hP.len,by omega,by omega,hj.fl,hj.xl⟩
 | f +1,k,P,Q,hP,hj,hk,h1,hf,he=>by
  unfold Zkh at he
  split at he
  ·cases he
   have:=hP.fl
   have:=hP.ex
   have:=hP.len
   exact ⟨hP.ok,h1,hP.len,by omega,by omega,hj.fl,hj.xl⟩
  ·rename_i b hb
   split at he
   ·cases he
   ·rename_i hl
    have hkl:=(List.getElem?_eq_some_iff.1 hb).1
    have hn:=Pi.next h hP hb hl
    have hm:=(Zgd c n k b.state.toNat b.values (ZaE c n b.state.toNat b.values n.wires.length) P).1
    have hst:(rdU c n k b P).states=(inU c n k b.state.toNat b.values (ZaE c n b.state.toNat b.values n.wires.length) P).states:=rfl
    exact Zyt h f (k+1) _ Q hn (hj.rd hkl) (by rw[hst];omega) (by rw[hst];omega) (by omega) he
theorem ZiY {c:PSG} {n:PNet} (h:Go1 c n) {P:ProdG} (he:Zff c n=some P):PrU c n P:=by
 unfold Zff at he
 exact Zyt h 601 0 _ P ⟨fun x hx=>by rw[List.mem_singleton] at hx;subst hx;exact Zm4 h,by simp,by simp,by simp⟩ ⟨by simp,by simp⟩ (by simp) (by simp) (by omega) he
theorem capsAB (a b:List PV):Zbu 2 (.tup [.agg a,.agg b])=some [.agg a,.agg b]:=by simp[Zbu,PV.parts,PV.isU]
def eG :Nat→Nat→Nat
 |0,_=>0
 |f+1,n=>eG f (n / 2)+eG f ((n+1) / 2)+n / 2
theorem ZsJ (f n:Nat):eG (f+1) n=eG f (n / 2)+eG f ((n+1) / 2)+n / 2:=rfl
theorem Zhy :∀(f a b:Nat),a≤b→a+b≤2 ^ f→eG f a+eG f b+a≤eG f (a+b)
 | 0,a,b,h,hs=>by
  have:a=0:=by simp at hs;omega
  subst this
  simp[eG]
 | f +1,a,b,h,hs=>by
  rw[Nat.pow_succ] at hs
  rw[ZsJ,ZsJ,ZsJ]
  obtain ⟨x,hx⟩:∃x,x=a / 2:=⟨_,rfl⟩
  obtain ⟨y,hy⟩:∃y,y=b / 2:=⟨_,rfl⟩
  rcases Nat.mod_two_eq_zero_or_one a with ha|ha<;>rcases Nat.mod_two_eq_zero_or_one b with hb|hb
  ·have e1:a / 2=x:=hx.symm
   have e2:(a+1) / 2=x:=by omega
   have e3:b / 2=y:=hy.symm
   have e4:(b+1) / 2=y:=by omega
   have e5:(a+b) / 2=x+y:=by omega
   have e6:(a+b+1) / 2=x+y:=by omega
   rw[e1,e2,e3,e4,e5,e6]
   have:=Zhy f x y (by omega) (by omega)
   omega
  ·have e1:a / 2=x:=hx.symm
   have e2:(a+1) / 2=x:=by omega
   have e3:b / 2=y:=hy.symm
   have e4:(b+1) / 2=y+1:=by omega
   have e5:(a+b) / 2=x+y:=by omega
   have e6:(a+b+1) / 2=x+(y+1):=by omega
   rw[e1,e2,e3,e4,e5,e6]
   have h1:=Zhy f x y (by omega) (by omega)
   have h2:=Zhy f x (y+1) (by omega) (by omega)
   omega
  ·have e1:a / 2=x:=hx.symm
   have e2:(a+1) / 2=x+1:=by omega
   have e3:b / 2=y:=hy.symm
   have e4:(b+1) / 2=y:=by omega
   have e5:(a+b) / 2=x+y:=by omega
   have e6:(a+b+1) / 2=x+1+y:=by omega
   rw[e1,e2,e3,e4,e5,e6]
   have h1:=Zhy f x y (by omega) (by omega)
   have h2:=Zhy f (x+1) y (by omega) (by omega)
   omega
  ·have e1:a / 2=x:=hx.symm
   have e2:(a+1) / 2=x+1:=by omega
   have e3:b / 2=y:=hy.symm
   have e4:(b+1) / 2=y+1:=by omega
   have e5:(a+b) / 2=x+(y+1):=by omega
   have e6:(a+b+1) / 2=x+(y+1):=by omega
   rw[e1,e2,e3,e4,e5,e6]
   have h1:=Zhy f x (y+1) (by omega) (by omega)
   by_cases c:x+1≤y
   ·have h2:=Zhy f (x+1) y c (by omega)
    rw[show x+1+y=x+(y+1) by omega] at h2
    omega
   ·have hxy:x=y:=by omega
    subst hxy
    omega
theorem ZsK (f a b:Nat) (hs:a+b≤2 ^ f):eG f a+eG f b+min a b≤eG f (a+b):=by
 by_cases c:a≤b
 ·rw[Nat.min_eq_left c]
  exact Zhy f a b c hs
 ·have:=Zhy f b a (by omega) (by omega)
  rw[Nat.min_eq_right (by omega),Nat.add_comm a b]
  omega
theorem ZBU (f a b:Nat) (h:a≤b) (hs:b≤2 ^ f):eG f a≤eG f b:=by
 have:=ZsK f a (b - a) (by omega)
 rw[show a+(b - a)=b by omega] at this
 omega
def edB (n:Nat):Nat:=11 * n+2 * eG 10 n
theorem ZBV (a b:Nat) (h:a+b≤1024):edB a+edB b+2 * min a b≤edB (a+b):=by
 unfold edB
 have:=ZsK 10 a b (by omega)
 omega
theorem ZBW {n:Nat} (h:n≤600):edB n≤11920:=by
 have h1:=ZBU 10 n 600 h (by omega)
 have h2:eG 10 600=2660:=by decide+kernel
 unfold edB
 omega
theorem ZA0 :(List.range 84).all (fun n=>n<42||decide (5 * n≤2 * eG 10 n))=true:=by decide+kernel
theorem ed_big :∀(n:Nat),42≤n→n≤1024→5 * n≤2 * eG 10 n:=by
 intro n
 induction n using Nat.strongRecOn with
 | ind n ih=>
  intro h1 h2
  by_cases c:n<84
  ·have:=List.all_eq_true.1 ZA0 n (List.mem_range.2 c)
   simp only[Bool.or_eq_true,decide_eq_true_eq] at this
   omega
  ·have g1:=ih (n / 2) (by omega) (by omega) (by omega)
   have g2:=ih (n - n / 2) (by omega) (by omega) (by omega)
   have:=ZsK 10 (n / 2) (n - n / 2) (by omega)
   rw[show n / 2+(n - n / 2)=n by omega] at this
   omega
def tabN :Nat→List Nat
 |0=>[0,0,0,0,0,0,0,0,0,0,0,0,0,0,0,0,0,0,0,0,0,0,0,0,0,0,0,0,0,0,0,0,0,0,0,0,0,0,0,0,0,0]
 |1=>[0,0,2,3,4,5,6,7,8,9,10,11,12,13,14,15,16,17,18,19,20,21,22,23,24,25,26,27,28,29,30,31,32,33,34,35,36,37,38,39,40,41]
 |2=>[0,0,2,5,8,10,12,14,16,18,20,22,24,26,28,30,32,34,36,38,40,42,44,46,48,50,52,54,56,58,60,62,64,66,68,70,72,74,76,78,80,82]
 |3=>[0,0,2,5,9,13,16,20,24,27,30,33,36,39,42,45,48,51,54,57,60,63,66,69,72,75,78,81,84,87,90,93,96,99,102,105,108,111,114,117,120,123]
 |4=>[0,0,2,5,9,14,19,23,28,33,37,41,45,50,54,59,64,68,72,76,80,84,88,92,96,100,104,108,112,116,120,124,128,132,136,140,144,148,152,156,160,164]
 |5=>[0,0,2,5,9,14,20,26,31,37,43,48,53,58,64,69,75,81,86,91,96,101,106,111,116,122,127,132,137,143,148,154,160,165,170,175,180,185,190,195,200,205]
 |6=>[0,0,2,5,9,14,20,27,34,40,47,54,60,66,72,79,85,92,99,105,111,117,123,129,135,141,148,154,160,166,173,179,186,193,199,205,211,217,223,229,235,241]
 |7=>[0,0,2,5,9,14,20,27,35,43,50,58,66,73,80,87,95,102,110,118,125,132,139,146,153,160,167,175,182,189,196,204,211,219,227,234,241,248,255,262,269,276]
 |_=>[0,0,2,5,9,14,20,27,35,44,53,61,70,79,87,95,103,112,120,129,138,146,154,162,170,178,186,194,203,211,219,227,236,244,253,262,270,278,286,294,302,310]
def tb (j n:Nat):Nat:=(tabN j).getD n 0
theorem ZA1 :(List.range 8).all (fun j=>(List.range 42).all fun n=>decide (tb j n≤tb (j+1) n)&&(List.range n).all fun a=>a==0||decide (tb j a+tb j (n - a)+n≤tb (j+1) n))=true:=by decide+kernel
theorem ZBX :(List.range 42).all (fun n=>decide (2 * tb 8 n≤edB n))=true:=by decide+kernel
theorem ZsL {j n:Nat} (hj:j<8) (hn:n<42):tb j n≤tb (j+1) n:=by
 have:=List.all_eq_true.1 (List.all_eq_true.1 ZA1 j (List.mem_range.2 hj)) n (List.mem_range.2 hn)
 rw[Bool.and_eq_true,decide_eq_true_eq] at this
 exact this.1
theorem ZBY {j a b:Nat} (hj:j<8) (ha:1≤a) (hb:1≤b) (hn:a+b<42):tb j a+tb j b+(a+b)≤tb (j+1) (a+b):=by
 have:=List.all_eq_true.1 (List.all_eq_true.1 ZA1 j (List.mem_range.2 hj)) (a+b) (List.mem_range.2 hn)
 rw[Bool.and_eq_true] at this
 have:=List.all_eq_true.1 this.2 a (List.mem_range.2 (by omega))
 rw[Bool.or_eq_true,decide_eq_true_eq] at this
 rcases this with h|h
 ·have:a=0:=by simpa using h
  omega
 ·rw[show a+b - a=b by omega] at h
  exact h
theorem tb_8 {j n:Nat} (hj:j≤8) (hn:n<42):tb j n≤tb 8 n:=by
 have : ∀ d j:Nat,j+d=8→tb j n≤tb 8 n:=by
  intro d
  induction d with
  | zero => intro j h;have:j=8:=by omega
            subst this;exact Nat.le_refl _
  |succ d ih=>intro j h;exact Nat.le_trans (ZsL (by omega) hn) (ih (j+1) (by omega))
 exact this (8 - j) j (by omega)
theorem tb_0 (n:Nat):tb 0 n=0:=by
 unfold tb tabN
 rw[List.getD_eq_getElem?_getD]
 by_cases h:n<42
 ·have:∀i,i<42→([0,0,0,0,0,0,0,0,0,0,0,0,0,0,0,0,0,0,0,0,0,0,0,0,0,0,0,0,0,0,0,0,0,0,0,0,0,0,0,0,0,0]:List Nat)[i]?.getD 0=0:=by decide
  exact this n h
 ·rw[List.getElem?_eq_none (by simp;omega)];rfl
structure Wd {σ:Type} (bt can:σ→Nat→Bool) (fl:σ→Nat→σ) (dom:σ→Prop) (m W:Nat):Prop where
 other:∀b i j,dom b→i<W→j<W→i≠j→bt (fl b i) j=bt b j
 own:∀b i,dom b→i<W→bt (fl b i) i= !bt b i
 one:∀b j,dom b→m≤j→j<W→can b j=true→can (fl b j) j=false
 inj:∀b b' j,dom b→dom b'→m≤j→j<W→bt b j=bt b' j→fl b j=fl b' j→b=b'
section
variable {σ :Type} {bt can:σ→Nat→Bool} {fl:σ→Nat→σ} {dom:σ→Prop} {m W:Nat}
def ZbZ (bt:σ→Nat→Bool) (A:List σ) (j:Nat) (u:Bool):List σ:=A.filter fun b=>bt b j==u
theorem ZuB (A:List σ) (j:Nat):A.length=(ZbZ bt A j true).length+(ZbZ bt A j false).length:=by
 unfold ZbZ
 induction A with
 |nil=>rfl
 | cons a A ih=>
  simp only[List.filter_cons,List.length_cons]
  cases bt a j<;>simp at ih⊢<;>omega
theorem ZfL {A:List σ} {j:Nat} {u:Bool} {b:σ}:b∈ZbZ bt A j u↔b∈A∧bt b j=u:=by
 unfold ZbZ
 rw[List.mem_filter,beq_iff_eq]
theorem ZuC (p:σ→Bool) (A:List σ) (j:Nat):A.countP p=(ZbZ bt A j true).countP p+(ZbZ bt A j false).countP p:=by
 unfold ZbZ
 induction A with
 |nil=>rfl
 | cons a A ih=>
  simp only[List.filter_cons,List.countP_cons]
  cases bt a j<;>simp[List.countP_cons] at ih⊢<;>omega
theorem Zmc {A:List σ} (hA:∀b∈A,dom b) {j:Nat} {u:Bool}:∀b∈ZbZ bt A j u,dom b:=fun b hb=>hA b (ZfL.1 hb).1
variable [DecidableEq σ]
def edE (can:σ→Nat→Bool) (fl:σ→Nat→σ) (A:List σ) (j:Nat):Nat:=A.countP fun b=>can b j&&decide (fl b j∈A)
def edT (can:σ→Nat→Bool) (fl:σ→Nat→σ) (A:List σ):Nat→Nat
 |0=>0
 |j+1=>edT can fl A j+edE can fl A j
theorem ZA2 (h:Wd bt can fl dom m W) {A:List σ} (hA:∀b∈A,dom b) {i j:Nat} (hi:i<W) (hj:j<W) (hij:i≠j):edE can fl A i=edE can fl (ZbZ bt A j true) i+edE can fl (ZbZ bt A j false) i:=by
 have key:∀u:Bool,(ZbZ bt A j u).countP (fun b=>can b i&&decide (fl b i∈A))=edE can fl (ZbZ bt A j u) i:=fun u=>by
  unfold edE
  refine List.countP_congr fun b hb=> ?_
  obtain ⟨hb1,hb2⟩:=ZfL.1 hb
  have hd:(fl b i∈A)↔fl b i∈ZbZ bt A j u:=by
   rw[ZfL,h.other b i j (hA b hb1) hi hj hij]
   exact ⟨fun h=>⟨h,hb2⟩,fun h=>h.1⟩
  simp only[hd]
 have h1:edE can fl A i=(ZbZ bt A j true).countP (fun b=>can b i&&decide (fl b i∈A))+(ZbZ bt A j false).countP (fun b=>can b i&&decide (fl b i∈A)):=ZuC _ A j
 rw[h1,key true,key false]
theorem Zpo (h:Wd bt can fl dom m W) {A:List σ} (hA:∀b∈A,dom b) {j:Nat} (hj:j<W):∀i:Nat,i≤j→edT can fl A i=edT can fl (ZbZ bt A j true) i+edT can fl (ZbZ bt A j false) i
 |0,_=>rfl
 | i+1,hi=>by
  show edT can fl A i+edE can fl A i=(edT can fl (ZbZ bt A j true) i+edE can fl (ZbZ bt A j true) i)+(edT can fl (ZbZ bt A j false) i+edE can fl (ZbZ bt A j false) i)
  rw[Zpo h hA hj i (by omega),ZA2 h hA (show i<W by omega) hj (by omega)]
  omega
theorem ZA3 (A:List σ) (j:Nat):edE can fl A j≤A.length:=List.countP_le_length
theorem ZuD (h:Wd bt can fl dom m W) {A:List σ} (hA:∀b∈A,dom b) {j:Nat} (hj:j<W) {u:Bool} (hu:ZbZ bt A j u=[]):edE can fl A j=0:=by
 unfold edE
 rw[List.countP_eq_zero]
 intro b hb hc
 rw[Bool.and_eq_true,decide_eq_true_eq] at hc
 have h1:=h.own b j (hA b hb) hj
 by_cases c:bt b j=u
 ·have:b∈ZbZ bt A j u:=ZfL.2 ⟨hb,c⟩
  rw[hu] at this;cases this
 ·have:fl b j∈ZbZ bt A j u:=ZfL.2 ⟨hc.2,by rw[h1];revert c;cases bt b j<;>cases u<;>simp⟩
  rw[hu] at this;cases this
theorem ZA4 (A:List σ):∀j:Nat,edT can fl A j≤j * A.length
 |0=>by simp[edT]
 | j+1=>by
  have h1:=ZA4 A j
  have h2:=ZA3 (can:=can) (fl:=fl) A j
  show edT can fl A j+edE can fl A j≤_
  rw[Nat.succ_mul]
  omega
theorem Zm5 (h:Wd bt can fl dom m W):∀(j:Nat),j≤8→j≤W→∀A:List σ,(∀b∈A,dom b)→A.length<42→edT can fl A j≤tb j A.length
 |0,_,_,A,_,_=>by rw[tb_0];exact Nat.le_refl _
 | j +1,h8,hW,A,hA,hl=>by
  have hs:=ZuB (bt:=bt) A j
  have ht:=Zpo h hA (show j<W by omega) j (Nat.le_refl _)
  have i1:=Zm5 h j (by omega) (by omega) (ZbZ bt A j true) (Zmc hA) (by omega)
  have i2:=Zm5 h j (by omega) (by omega) (ZbZ bt A j false) (Zmc hA) (by omega)
  show edT can fl A j+edE can fl A j≤_
  rw[ht]
  by_cases c1:(ZbZ bt A j true).length=0
  ·have e0:=ZuD h hA (show j<W by omega) (List.length_eq_zero_iff.1 c1)
   have hm:=ZsL (j:=j) (n:=A.length) (by omega) hl
   rw[c1] at i1 hs
   rw[show (ZbZ bt A j false).length=A.length by omega] at i2
   have:tb j 0≤0:=by
    have:∀j,j≤8→tb j 0=0:=by decide
    rw[this j (by omega)];exact Nat.le_refl _
   omega
  ·by_cases c2:(ZbZ bt A j false).length=0
   ·have e0:=ZuD h hA (show j<W by omega) (List.length_eq_zero_iff.1 c2)
    have hm:=ZsL (j:=j) (n:=A.length) (by omega) hl
    rw[c2] at i2 hs
    rw[show (ZbZ bt A j true).length=A.length by omega] at i1
    have:tb j 0≤0:=by
     have:∀j,j≤8→tb j 0=0:=by decide
     rw[this j (by omega)];exact Nat.le_refl _
    omega
   ·have e1:=ZA3 (can:=can) (fl:=fl) A j
    have:=ZBY (j:=j) (a:=(ZbZ bt A j true).length) (b:=(ZbZ bt A j false).length) (by omega) (by omega) (by omega) (by omega)
    rw[←hs] at this
    omega
theorem Zzo (h:Wd bt can fl dom m W) (hm:m≤8) (hW:m≤W) (A:List σ) (hA:∀b∈A,dom b) (hl:A.length≤1024):2 * edT can fl A m≤edB A.length:=by
 by_cases c:A.length<42
 ·have h1:=Zm5 h m hm hW A hA c
  have h2:=tb_8 hm c
  have h3:=List.all_eq_true.1 ZBX A.length (List.mem_range.2 c)
  rw[decide_eq_true_eq] at h3
  omega
 ·have h1:=ZA4 (can:=can) (fl:=fl) A m
  have h2:m * A.length≤8 * A.length:=Nat.mul_le_mul_right _ hm
  have h3:=ed_big A.length (by omega) hl
  unfold edB
  omega
theorem Zpp :∀(X Y:List σ),X.Nodup→(∀x∈X,x∈Y)→X.length≤Y.length
 |[],Y,_,_=>by simp
 | x::X,Y,hn,hs=>by
  have hn':=List.nodup_cons.1 hn
  have hx:=hs x List.mem_cons_self
  have:=Zpp X (Y.erase x) hn'.2 fun y hy=>(List.mem_erase_of_ne (fun e=>hn'.1 (by rw[←e];exact hy))).2 (hs y (List.mem_cons_of_mem _ hy))
  rw[List.length_erase_of_mem hx] at this
  have hp:0<Y.length:=List.length_pos_of_mem hx
  simp only[List.length_cons]
  omega
theorem ZnL (h:Wd bt can fl dom m W) {A:List σ} (hA:∀b∈A,dom b) (hn:A.Nodup) {j:Nat} (hm:m≤j) (hj:j<W) (u:Bool):edE can fl A j≤(ZbZ bt A j u).length:=by
 unfold edE
 rw[List.countP_eq_length_filter]
 let g:σ→σ:=fun b=>if bt b j=u then b else fl b j
 have hlen:((A.filter fun b=>can b j&&decide (fl b j∈A)).map g).length=(A.filter fun b=>can b j&&decide (fl b j∈A)).length:=List.length_map ..
 rw[←hlen]
 have hX:∀b∈A.filter (fun b=>can b j&&decide (fl b j∈A)),b∈A∧can b j=true∧fl b j∈A:=fun b hb=>by
  rw[List.mem_filter,Bool.and_eq_true,decide_eq_true_eq] at hb
  exact hb
 refine Zpp _ _ ?_ fun y hy=> ?_
 ·rw[List.nodup_iff_pairwise_ne,List.pairwise_map]
  have hp:(A.filter fun b=>can b j&&decide (fl b j∈A)).Nodup:=hn.filter _
  refine List.Pairwise.imp_of_mem ?_ hp
  intro b b' hb hb' hne he
  obtain ⟨k1,k2,k3⟩:=hX b hb
  obtain ⟨l1,l2,l3⟩:=hX b' hb'
  simp only[g] at he
  by_cases c1:bt b j=u<;>by_cases c2:bt b' j=u
  ·rw[if_pos c1,if_pos c2] at he;exact hne he
  ·rw[if_pos c1,if_neg c2] at he
   have:=h.one b' j (hA b' l1) hm hj l2
   rw[←he,k2] at this;cases this
  ·rw[if_neg c1,if_pos c2] at he
   have:=h.one b j (hA b k1) hm hj k2
   rw[he,l2] at this;cases this
  ·rw[if_neg c1,if_neg c2] at he
   refine hne (h.inj b b' j (hA b k1) (hA b' l1) hm hj ?_ he)
   revert c1 c2
   cases bt b j<;>cases bt b' j<;>cases u<;>simp
 ·obtain ⟨b,hb,rfl⟩:=List.mem_map.1 hy
  obtain ⟨k1,k2,k3⟩:=hX b hb
  simp only[g]
  by_cases c1:bt b j=u
  ·rw[if_pos c1];exact ZfL.2 ⟨k1,c1⟩
  ·rw[if_neg c1]
   refine ZfL.2 ⟨k3, ?_⟩
   rw[h.own b j (hA b k1) hj]
   revert c1
   cases bt b j<;>cases u<;>simp
theorem ZsM (h:Wd bt can fl dom m W) (hm:m≤8) (hW:m≤W):∀(d:Nat),m+d≤W→∀A:List σ,(∀b∈A,dom b)→A.Nodup→A.length≤1024→2 * edT can fl A (m+d)≤edB A.length
 |0,_,A,hA,_,hl=>Zzo h hm hW A hA hl
 | d+1,hd,A,hA,hn,hl=>by
  have hj:m+d<W:=by omega
  have hs:=ZuB (bt:=bt) A (m+d)
  have ht:=Zpo h hA hj (m+d) (Nat.le_refl _)
  have i1:=ZsM h hm hW d (by omega) (ZbZ bt A (m+d) true) (Zmc hA) (hn.filter _) (by omega)
  have i2:=ZsM h hm hW d (by omega) (ZbZ bt A (m+d) false) (Zmc hA) (hn.filter _) (by omega)
  have e1:=ZnL h hA hn (show m≤m+d by omega) hj true
  have e2:=ZnL h hA hn (show m≤m+d by omega) hj false
  have hsup:=ZBV (ZbZ bt A (m+d) true).length (ZbZ bt A (m+d) false).length (by omega)
  rw[←hs] at hsup
  show 2 * (edT can fl A (m+d)+edE can fl A (m+d))≤_
  rw[ht]
  have:edE can fl A (m+d)≤min (ZbZ bt A (m+d) true).length (ZbZ bt A (m+d) false).length:=by omega
  omega
end
def btS (b:PSt) (j:Nat):Bool:=Zha b.values j
def cnS (c:PSG) (n:PNet) (b:PSt) (j:Nat):Bool:=Zkg c n b.state.toNat b.values j
def flS (c:PSG) (n:PNet) (b:PSt) (j:Nat):PSt:=Zas c n b.state.toNat b.values j
theorem Zfj {v:List UInt8} {i j:Nat} (h:i≠j):(ZbJ v i)[j]?=v[j]?:=by
 unfold ZbJ
 rw[List.getElem?_set_ne h]
theorem ZsN {v:List UInt8} {i j:Nat} (h:i≠j):Zha (ZbJ v i) j=Zha v j:=by
 unfold Zha
 rw[Zfj h]
theorem ZrL {v:List UInt8} {i:Nat} (hi:i<v.length) (hb:ZfR v[i]=true):Zha (ZbJ v i) i= !Zha v i:=by
 have hv:v[i]?=some v[i]:=List.getElem?_eq_getElem hi
 unfold Zha ZbJ
 rw[List.getElem?_set_self hi,hv,List.getD_eq_getElem?_getD,hv]
 rcases (Zmn v[i]).1 hb with h|h<;>rw[h]<;>rfl
theorem ZBZ {x y:UInt8} (hx:ZfR x=true) (hy:ZfR y=true) (h:flB x=flB y):x=y:=by
 rcases (Zmn x).1 hx with rfl|rfl<;>rcases (Zmn y).1 hy with rfl|rfl<;>first|rfl|(exfalso;revert h;decide)
theorem Zzp {n:PNet} (hv:Zdm n=true) {k:Nat} (hk:n.signals.length≤k) (hl:k<n.wires.length):(n.wires[k].kind=2∨n.wires[k].kind=3)∧∀p∈n.wires[k].ins,0≤p.1∧p.1<k:=by
 have hw:n.wires[k]?=some n.wires[k]:=List.getElem?_eq_getElem hl
 unfold Zdm at hv
 simp only[Bool.and_eq_true] at hv
 have h1:=ZjV _ _ _ hv.2 k _ hw
 rw[Nat.zero_add] at h1
 unfold ZbK Zml ZrS at h1
 have hd:decide ((k:Int)<(n.signals.length:Int))=false:=by simp only[decide_eq_false_iff_not];omega
 rw[hd] at h1
 simp only[Bool.and_eq_true,Bool.false_or,Bool.or_eq_true,decide_eq_true_eq] at h1
 refine ⟨h1.1.1.1.1.2,fun p hp=> ?_⟩
 have h2:=h1.1.2.2.1
 rw[Zaj] at h2
 have h3:=List.all_eq_true.1 h2 p hp
 unfold Zi3 inR at h3
 simp only[Bool.and_eq_true,decide_eq_true_eq,Bool.not_eq_true',Bool.and_eq_false_iff,decide_eq_false_iff_not] at h3
 omega
theorem ZfM {α:Type} (f g:α→Bool):∀(l:List α) (k:Nat),(∀x∈l,f x=g x)→ZM (fun _ x=>f x) k l=ZM (fun _ x=>g x) k l
 |[],k,_=>rfl
 | x::l,k,h=>by
  unfold ZM
  rw[h x List.mem_cons_self,ZfM f g l (k+1) fun y hy=>h y (List.mem_cons_of_mem _ hy)]
theorem ZrM {p:Int×Bool} {v:List UInt8} {k:Nat} (h:0≤p.1∧p.1<k):Zcu p (ZbJ v k)=Zcu p v:=by
 unfold Zcu
 rw[Zfj (by omega)]
theorem Zzq {n:PNet} (hv:Zdm n=true) {k:Nat} (hk:n.signals.length≤k) (hl:k<n.wires.length) (v:List UInt8):ZfS n (ZbJ v k) k n.wires[k]=ZfS n v k n.wires[k]:=by
 obtain ⟨h1,h2⟩:=Zzp hv hk hl
 unfold ZfS
 rw[ZfM (fun p=>Zcu p (ZbJ v k)) (fun p=>Zcu p v) _ 0 fun p hp=>ZrM (h2 p hp),ZfM (fun p=> !Zcu p (ZbJ v k)) (fun p=> !Zcu p v) _ 0 fun p hp=>by rw[ZrM (h2 p hp)]]
 rcases h1 with h|h
 ·rw[decide_eq_true h];rfl
 ·have:decide (n.wires[k].kind=2)=false:=by rw[h];rfl
  rw[this,decide_eq_true h];rfl
theorem wdP (c:PSG) (n:PNet) (h:Go1 c n):Wd btS (cnS c n) (flS c n) (StB c n) n.signals.length n.wires.length:=by
 have hvl:∀b,StB c n b→b.values.length=n.wires.length∧∀i (hi:i<b.values.length),ZfR b.values[i]=true:=fun b hb=>by
  obtain ⟨s,_,_,h3⟩:=hb
  exact ⟨(ZaN.1 h3).2,fun i hi=>(ZaN.1 h3).1 _ (List.getElem_mem hi)⟩
 refine ⟨fun b i j hb hi hj hij=>ZsN hij,fun b i hb hi=> ?_,fun b j hb hm hj hc=> ?_,fun b b' j hb hb' hm hj he hf=> ?_⟩
 ·obtain ⟨l1,l2⟩:=hvl b hb
  exact ZrL (by omega) (l2 i (by omega))
 ·obtain ⟨l1,l2⟩:=hvl b hb
  unfold cnS Zkg at hc⊢
  rw[if_pos hm] at hc⊢
  show Zp n (ZbJ b.values j) j=false
  unfold Zp at hc⊢
  rw[List.getElem?_eq_getElem hj] at hc⊢
  dsimp only at hc⊢
  rw[Zzq h.net hm hj,ZrL (by omega) (l2 j (by omega))]
  revert hc
  cases ZfS n b.values j n.wires[j]<;>cases Zha b.values j<;>simp
 ·obtain ⟨l1,l2⟩:=hvl b hb
  obtain ⟨m1,m2⟩:=hvl b' hb'
  unfold flS Zas at hf
  rw[if_neg (by omega),if_neg (by omega)] at hf
  simp only[PSt.mk.injEq] at hf
  obtain ⟨s,hs,_,_⟩:=hb
  obtain ⟨s',hs',_,_⟩:=hb'
  have hst:b.state=b'.state:=by rw[hs,hs'] at hf⊢;simpa using hf.1
  have hvv:b.values=b'.values:=by
   apply List.ext_getElem (by omega)
   intro i h1 h2
   by_cases c1:i=j
   ·subst c1
    have e:=congrArg (fun l:List UInt8=>l[i]?) hf.2
    simp only[ZbJ] at e
    rw[List.getElem?_set_self h1,List.getElem?_set_self h2,List.getD_eq_getElem?_getD,List.getElem?_eq_getElem h1,List.getD_eq_getElem?_getD,List.getElem?_eq_getElem h2] at e
    simp only[Option.getD_some,Option.some.injEq] at e
    exact ZBZ (l2 i h1) (m2 i h2) e
   ·have e:=congrArg (fun l:List UInt8=>l[i]?) hf.2
    change (ZbJ b.values j)[i]?=(ZbJ b'.values j)[i]? at e
    rw[Zfj (fun e=>c1 e.symm),Zfj (fun e=>c1 e.symm),List.getElem?_eq_getElem h1,List.getElem?_eq_getElem h2] at e
    simpa using e
  cases b
  cases b'
  simp only at hst hvv
  rw[hst,hvv]
def degS (c:PSG) (n:PNet) (b:PSt):Nat:=(ZaE c n b.state.toNat b.values n.wires.length).length
def ZsO (c:PSG) (n:PNet) (l:List PSt):Nat:=(l.map (degS c n)).sum
structure Pk (c:PSG) (n:PNet) (k:Nat) (P:ProdG):Prop where
 nd:P.states.Nodup
 cnt:P.flips.length=ZsO c n (P.states.take k)
 cls:∀(i:Nat) (b:PSt),i<k→P.states[i]?=some b→∀w,w<n.wires.length→cnS c n b w=true→flS c n b w∈P.states
theorem ZuE {k:Nat} {P:ProdG} {w:Nat} {b:PSt}:(∀x∈P.states,x∈(Zc3 k P w b).states)∧b∈(Zc3 k P w b).states:=by
 unfold Zc3
 split
 ·rename_i h;exact ⟨fun x hx=>hx,h⟩
 ·exact ⟨fun x hx=>List.mem_append_left _ hx,by simp⟩
theorem ZB0 {k:Nat} {P:ProdG} {w:Nat} {b:PSt} (h:P.states.Nodup):(Zc3 k P w b).states.Nodup:=by
 unfold Zc3
 split
 ·exact h
 ·rename_i hm
  refine List.nodup_append.2 ⟨h,by simp,fun x hx y hy e=> ?_⟩
  rw[List.mem_singleton] at hy
  subst hy
  exact hm (e▸hx)
theorem Zyu {c:PSG} {n:PNet} {k s:Nat} {v:List UInt8}:∀(l:List Nat) (P:ProdG),P.states.Nodup→(inU c n k s v l P).states.Nodup∧(∀x∈P.states,x∈(inU c n k s v l P).states)∧∀w∈l,Zas c n s v w∈(inU c n k s v l P).states
 |[],P,h=>⟨h,fun x hx=>hx,by simp⟩
 | w::r,P,h=>by
  unfold inU
  obtain ⟨g1,g2,g3⟩:=Zyu r (Zc3 k P w (Zas c n s v w)) (ZB0 h)
  refine ⟨g1,fun x hx=>g2 x (ZuE.1 x hx),fun x hx=> ?_⟩
  rcases List.mem_cons.1 hx with rfl|hx
  ·exact g2 _ ZuE.2
  ·exact g3 x hx
theorem ZuF {c:PSG} {n:PNet} {k s:Nat} {v:List UInt8} {j:Nat}:∀(l:List Nat) (P:ProdG),j≤P.states.length→(inU c n k s v l P).states.take j=P.states.take j
 |[],P,_=>rfl
 | w::r,P,hj=>by
  unfold inU
  have h1:(Zc3 k P w (Zas c n s v w)).states.take j=P.states.take j:=by
   unfold Zc3
   split
   ·rfl
   ·exact List.take_append_of_le_length hj
  rw[ZuF r _ (by have:=(Zg6 k P w (Zas c n s v w)).1;omega),h1]
theorem Pk.next {c:PSG} {n:PNet} {k:Nat} {P:ProdG} (hP:Pk c n k P) {b:PSt} (hb:P.states[k]?=some b):Pk c n (k+1) (rdU c n k b P):=by
 have hkl:=(List.getElem?_eq_some_iff.1 hb).1
 obtain ⟨s,hs⟩:∃s,b.state.toNat=s:=⟨_,rfl⟩
 obtain ⟨g1,g2,g3⟩:=Zyu (c:=c) (n:=n) (k:=k) (s:=b.state.toNat) (v:=b.values) (ZaE c n b.state.toNat b.values n.wires.length) P hP.nd
 have hst:(rdU c n k b P).states=(inU c n k b.state.toNat b.values (ZaE c n b.state.toNat b.values n.wires.length) P).states:=rfl
 have hfl:(rdU c n k b P).flips=(inU c n k b.state.toNat b.values (ZaE c n b.state.toNat b.values n.wires.length) P).flips:=rfl
 obtain ⟨_,_,l3,_⟩:=Zgd c n k b.state.toNat b.values (ZaE c n b.state.toNat b.values n.wires.length) P
 refine ⟨by rw[hst];exact g1, ?_,fun i x hi hx w hw hc=> ?_⟩
 ·rw[hfl,l3,hst,ZuF _ _ (by omega),hP.cnt,List.take_add_one,hb]
  unfold ZsO
  rw[List.map_append,List.sum_append]
  simp[degS]
 ·rw [hst] at hx⊢
  by_cases c1:i=k
  ·subst c1
   have:x=b:=by
    have:=ZwO (c:=c) (n:=n) (k:=i) (s:=b.state.toNat) (v:=b.values) (ZaE c n b.state.toNat b.values n.wires.length) P hb
    rw[this] at hx
    exact (Option.some.inj hx).symm
   subst this
   refine g3 w ?_
   unfold ZaE
   exact List.mem_filter.2 ⟨List.mem_range.2 hw,hc⟩
  ·have hil:i<P.states.length:=by omega
   have hxP:P.states[i]?=some x:=by
    have h1:=ZwO (c:=c) (n:=n) (k:=k) (s:=b.state.toNat) (v:=b.values) (ZaE c n b.state.toNat b.values n.wires.length) P (List.getElem?_eq_getElem hil)
    rw[h1] at hx
    rw[List.getElem?_eq_getElem hil]
    exact hx
   exact g2 _ (hP.cls i x (by omega) hxP w hw hc)
theorem Zyv {c:PSG} {n:PNet}:∀(f k:Nat) (P Q:ProdG),Pk c n k P→P.states.length≤600→k+f=601→Zkh c n f k P=some Q→∃k',Q.states.length≤k'∧Pk c n k' Q
 | 0,k,P,Q,hP,hl,hf,he=>by
  cases he
  exact ⟨k,by omega,hP⟩
 | f +1,k,P,Q,hP,hl,hf,he=>by
  unfold Zkh at he
  split at he
  ·rename_i hb
   cases he
   exact ⟨k,List.getElem?_eq_none_iff.1 hb,hP⟩
  ·rename_i b hb
   split at he
   ·cases he
   ·rename_i hl'
    exact Zyv f (k+1) _ Q (hP.next hb) (by omega) (by omega) he
theorem ZuG (c:PSG) (n:PNet) (A L:List PSt) (hc:∀b∈L,∀w,w<n.wires.length→cnS c n b w=true→flS c n b w∈A):∀j,j≤n.wires.length→(L.map fun b=>((List.range j).filter (cnS c n b)).length).sum=(List.range j).foldl (fun a i=>a+L.countP fun b=>cnS c n b i&&decide (flS c n b i∈A)) 0
 | 0,_=>by
  show (L.map fun _=>0).sum=0
  clear hc
  induction L with
  |nil=>rfl
  |cons a L ih=>rw[List.map_cons,List.sum_cons,ih]
 | j +1,hj=>by
  rw[List.range_succ,List.foldl_append,←ZuG c n A L hc j (by omega)]
  simp only[List.foldl_cons,List.foldl_nil]
  have:∀M:List PSt,(∀b∈M,b∈L)→(M.map fun b=>((List.range j++[j]).filter (cnS c n b)).length).sum=(M.map fun b=>((List.range j).filter (cnS c n b)).length).sum+M.countP fun b=>cnS c n b j&&decide (flS c n b j∈A):=by
   intro M hM
   induction M with
   |nil=>rfl
   | cons b M ih=>
    have hb:=hc b (hM b List.mem_cons_self) j (by omega)
    have e0:((List.range j++[j]).filter (cnS c n b)).length=((List.range j).filter (cnS c n b)).length+([j].filter (cnS c n b)).length:=by rw[List.filter_append,List.length_append]
    rw[List.map_cons,List.sum_cons,List.map_cons,List.sum_cons,List.countP_cons,ih fun x hx=>hM x (List.mem_cons_of_mem _ hx),e0]
    cases c1:cnS c n b j
    ·have e:([j].filter (cnS c n b)).length=0:=by simp[c1]
     rw[e]
     simp only[Bool.false_and,Bool.false_eq_true,if_false]
     omega
    ·have e:([j].filter (cnS c n b)).length=1:=by simp[c1]
     have hd:=decide_eq_true (hb c1)
     rw[e]
     simp only[hd,Bool.true_and,if_true]
     omega
  exact this L fun b hb=>hb
theorem ZuH (can:PSt→Nat→Bool) (fl:PSt→Nat→PSt) (A:List PSt):∀j,edT can fl A j=(List.range j).foldl (fun a i=>a+A.countP fun b=>can b i&&decide (fl b i∈A)) 0
 |0=>rfl
 | j+1=>by
  rw[List.range_succ,List.foldl_append,←ZuH can fl A j]
  rfl
theorem ZwP {c:PSG} {n:PNet} (h:Go1 c n) {P:ProdG} (he:Zff c n=some P):P.flips.length≤6000:=by
 have hP:=ZiY h he
 unfold Zff at he
 obtain ⟨k,hk,hpk⟩:=Zyv 601 0 _ P ⟨by simp,by simp[ZsO],fun i b hi=>by omega⟩ (by simp) (by omega) he
 have hcnt:=hpk.cnt
 rw[List.take_of_length_le hk] at hcnt
 have hcls:∀b∈P.states,∀w,w<n.wires.length→cnS c n b w=true→flS c n b w∈P.states:=fun b hb=>by
  obtain ⟨i,hi⟩:=List.getElem?_of_mem hb
  exact hpk.cls i b (by have:=(List.getElem?_eq_some_iff.1 hi).1;omega) hi
 have h1:=ZuG c n P.states P.states hcls n.wires.length (Nat.le_refl _)
 rw[←ZuH] at h1
 have hsg:n.signals.length≤8:=by rw[←h.same];exact h.smany
 have hsw:=(ZaQ h.net).1
 have h2:=ZsM (wdP c n h) hsg hsw (n.wires.length - n.signals.length) (by omega) P.states hP.ok hpk.nd (by have:=hP.len;omega)
 rw[show n.signals.length+(n.wires.length - n.signals.length)=n.wires.length by omega] at h2
 have h3:=ZBW hP.len
 have hds:ZsO c n P.states=(P.states.map fun b=>((List.range n.wires.length).filter (cnS c n b)).length).sum:=rfl
 rw[←h1,←hds,←hcnt] at h2
 omega
abbrev T3 :=Nat×Nat×Nat
def eT3 (v:T3):PV:=.agg [pI (v.1:Int),pI (v.2.1:Int),pI (v.2.2:Int)]
def esT (l:List T3):List (Nat×Nat):=l.map fun v=>(v.1,v.2.2)
def Zmd (d:Int) (far:List Int) (v:T3):List Int:=if far.getD v.1 (-1)=d∧far.getD v.2.2 (-1)<0 then far.set v.2.2 (d+1) else far
theorem ZA5 {R:Type} (d:Int) (e:List Int→Option R):∀(l:List T3) (k:Nat) (far:List Int),Z5 (fun (far:List Int) (_:Nat) (v:T3)=>.inl (Zmd d far v)) e k far l=e (ZeP d (esT l) far)
 |[],k,far=>rfl
 | v::l,k,far=>by
  show Z5 _ e (k+1) (Zmd d far v) l=_
  rw[ZA5 d e l]
  rfl
theorem Zyw {R α:Type} (es:List (Nat×Nat)) (e:List Int→Option R):∀(l:List α) (k:Nat) (far:List Int),Z5 (fun (far:List Int) (d:Nat) (_:α)=>.inl (ZeP (d:Int) es far)) e k far l=e (farG es l.length k far)
 |[],k,far=>rfl
 | v::l,k,far=>by
  show Z5 _ e (k+1) (ZeP (k:Int) es far) l=_
  rw[Zyw es e l]
  rfl
theorem ZnM (d:Int):∀(r:List (Nat×Nat)) (far:List Int),(ZeP d r far).length=far.length
 |[],far=>rfl
 | e::r,far=>by
  unfold ZeP
  rw[ZnM d r]
  split<;>simp
theorem ZcQ {far:List Int} {k:Nat} (h:k<far.length):(far.map pI)[k]?=some (pI (far.getD k (-1))):=by
 rw[List.getElem?_map,List.getElem?_eq_getElem h,List.getD_eq_getElem?_getD,List.getElem?_eq_getElem h];rfl
theorem Zez {far:List Int} {k:Nat} (h:k<far.length):ZaM (far.map pI) (.int .i64 (k:Int))=some (.int .i64 (k:Int)):=ZbG (by rw[List.length_map];exact h)
theorem ZA6 {R:Type} (n:Nat) (e:Option R) (f:(List PV→Option R)→List PV→Option R) (hn:n≤1000000)
 (h1:∀again (row:List Int) (k:Nat),row.length=n→k<n→f again [.lst (row.map pI),pI (Int.ofNat k)]=again [.lst ((row.set k (-1)).map pI),pI (Int.ofNat (k+1))])
 (h2:∀again,f again [.lst ((List.replicate n (-1)).map pI),pI (Int.ofNat n)]=e) (z:Int):Zm f 18446744073709551616 [.lst ((List.replicate n z).map pI),pI (Int.ofNat 0)]=e:=by
 have key:=ZaP (R:=R) (fun q:{k:Nat // k≤n}=>[.lst ((List.replicate q.1 (-1)++List.replicate (n - q.1) z).map pI),pI (Int.ofNat q.1)]) (fun q=>n+1 - q.1) (fun _=>e) f (fun again q ih=> ?_) 18446744073709551616 ⟨0,Nat.zero_le _⟩ (by simp only;omega)
 ·simpa using key
 ·obtain ⟨k,hk⟩:=q
  dsimp only at ih⊢
  by_cases hlt:k<n
  ·rw[h1 again _ k (by simp;omega) hlt]
   have hr:List.replicate (n - k) z=z::List.replicate (n - (k+1)) z:=by
    rw[show n - k=(n - (k+1))+1 by omega];rfl
   have e1:(List.replicate k (-1)++List.replicate (n - k) z).set k (-1)=List.replicate (k+1) (-1)++List.replicate (n - (k+1)) z:=by
    rw[List.set_append,if_neg (by simp),List.length_replicate,hr,Nat.sub_self,List.set_cons_zero,List.replicate_succ',List.append_assoc]
    rfl
   rw[e1]
   exact ih ⟨k+1,hlt⟩ (by simp only;omega)
  ·obtain rfl:k=n:=by omega
   have:=h2 again
   simpa using this
theorem Zzr (n:Nat) (marks:List PV) (mv:List T3) (hm:marks.length=n) (h1:0<n) (h2:n≤1000) (hin:∀v∈mv,v.1<n∧v.2.2<n) (hl:mv.length≤1000000):
 Zj0 [.agg [.lst marks,.lst (mv.map eT3)],pI ((0:Nat):Int)]=some (.lst ((Zbr n (esT mv) 0).map pI)):=by
 have hmk:=ZtX (TI.mk 1 8 (TD.int .i64) [ZC.int .i64] [] false) n (by omega)
 have hz:Zbb (TI.mk 1 8 (TD.int .i64) [ZC.int .i64] [] false)=pI 0:=rfl
 rw[hz] at hmk
 have hes:∀e∈esT mv,e.1<n∧e.2<n:=fun e he=>by
  obtain ⟨v,hv,rfl⟩:=List.mem_map.1 he
  exact hin v hv
 have hp0:ZaM ((List.replicate n (-1)).map pI) (.int .i64 ((0:Nat):Int))=some (.int .i64 ((0:Nat):Int)):=Zez (by simp;omega)
 have hg0:((List.replicate n (-1)).map pI)[0]?=some (pI (-1)):=by rw[List.getElem?_map,List.getElem?_replicate,if_pos h1];rfl
 have hs0:((List.replicate n (-1)).map pI).set 0 (pI 0)=(((List.replicate n (-1)).set 0 0)).map pI:=by rw[←ZjY]
 simp only[Int.natCast_zero] at hp0⊢
 have ht0:Int.toNat 0=0:=rfl
 have hneg:(Int.negSucc 0)=(-1:Int):=rfl
 show (fun x0 x1=>Zj0 [x0,x1]) _ _=_
 rw[Zxi]
 have hrp:List.replicate n (pI 0)=(List.replicate n (0:Int)).map pI:=by rw[List.map_replicate]
 simp only[hm,hmk,hrp,EVS]
 refine (ZA6 (R:=PV) n (some (.lst ((Zbr n (esT mv) 0).map pI))) _ (by omega) (fun again row k hr hk=> ?_) (fun again=> ?_) 0)
 ·have p1:=Zez (far:=row) (k:=k) (by omega)
  have q1:=ZcQ (far:=row) (k:=k) (by omega)
  have st:(row.map pI).set k (pI (-1))=(row.set k (-1)).map pI:=ZjY pI row k (-1)
  simp only[List.length_map,List.length_replicate,Zr hk,Zi hk (show n≤9223372036854775807 by omega),p1,q1,hneg,Zw4,st,EVS]
 ·simp only[List.length_map,List.length_replicate,ZV,hp0,ht0,hg0,Zw4,hs0,EVS]
  obtain ⟨f0,hf0⟩:∃f0,(List.replicate n (-1:Int)).set 0 0=f0:=⟨_,rfl⟩
  have hl0:f0.length=n:=by rw[←hf0];simp
  rw[←ZCn h1 hes]
  unfold farN
  rw[hf0]
  refine (ZaI (R:=PV) (List.range n) (fun (far:List Int) d=>[.lst (far.map pI),pI (Int.ofNat d)]) (fun _ far=>far.length=n) (fun (far:List Int) d _=>.inl (ZeP (d:Int) (esT mv) far)) (fun far=>some (.lst (far.map pI))) _ (by rw[List.length_range];omega) (fun far d x far' hf hx he=> ?_) (fun again far d x hf hx=> ?_) (fun again far hf=> ?_) hl0).trans ((Zyw _ _ _ _ _).trans (by rw[List.length_range]))
  ·cases he;rw[ZnM];exact hf
  ·have hd:d<n:=by have:=Ze hx;simpa using this
   have hfl:(List.map pI far).length=n:=by rw[List.length_map];exact hf
   simp only[hfl,Zr hd,List.length_map,EVS]
   refine (ZaI (R:=PV) mv (fun (far:List Int) k=>[.lst (far.map pI),pI (Int.ofNat k)]) (fun _ far=>far.length=n) (fun (far:List Int) _ v=>.inl (Zmd (d:Int) far v)) (fun far=>again [.lst (far.map pI),pI (Int.ofNat (d+1))]) _ (by omega) (fun far k v far' hf hv he=> ?_) (fun again' far k v hf hv=> ?_) (fun again' far hf=> ?_) hf).trans (ZA5 _ _ _ _ _)
   ·cases he;unfold Zmd;split<;>simp[hf]
   ·have hk:=Ze hv
    obtain ⟨l1,l2⟩:=hin v (List.mem_of_getElem? hv)
    have hi:Zk (.lst (mv.map eT3)) (.int .i64 (k:Int))=some (eT3 v):=Zj hv
    have p1:=Zez (far:=far) (k:=v.1) (by omega)
    have p2:=Zez (far:=far) (k:=v.2.2) (by omega)
    have q1:=ZcQ (far:=far) (k:=v.1) (by omega)
    have q2:=ZcQ (far:=far) (k:=v.2.2) (by omega)
    have st:(far.map pI).set v.2.2 (pI ((d:Int)+1))=(far.set v.2.2 ((d:Int)+1)).map pI:=ZjY pI far _ _
    have hw:IntKind.i64.wrap ((d:Int)+1)=(d:Int)+1:=Zaw (by omega) (by omega)
    unfold Zmd
    by_cases c1:far.getD v.1 (-1)=d
    ·by_cases c2:far.getD v.2.2 (-1)<0
     ·rw[if_pos ⟨c1,c2⟩]
      simp only[Zr hk,Zi hk (show mv.length≤9223372036854775807 by omega),hi,eT3,p1,p2,q1,q2,Int.toNat_natCast,c1,c2,decide_true,hw,Zw4,st,EVS]
     ·rw[if_neg fun h=>c2 h.2]
      simp only[Zr hk,Zi hk (show mv.length≤9223372036854775807 by omega),hi,eT3,p1,p2,q1,q2,Int.toNat_natCast,c1,c2,decide_true,decide_false,EVS]
    ·rw[if_neg fun h=>c1 h.1]
     simp only[Zr hk,Zi hk (show mv.length≤9223372036854775807 by omega),hi,eT3,p1,p2,q1,q2,Int.toNat_natCast,c1,decide_false,EVS]
   ·simp only[ZV,Zi hd (show n≤9223372036854775807 by omega),EVS]
  ·have hfl:(List.map pI far).length=n:=by rw[List.length_map];exact hf
   simp only[List.length_range,hfl,ZV,EVS]
def eN (i:Nat):PV:=pI (i:Int)
def Zm6 :Nat→List Flip→List T3
 |_,[]=>[]
 |i,f::r=>(f.from_.toNat,i,f.to.toNat)::Zm6 (i+1) r
def esF (l:List Flip):List (Nat×Nat):=l.map fun f=>(f.from_.toNat,f.to.toNat)
theorem ZiZ :∀(l:List Flip) (i:Nat),(Zm6 i l).length=l.length
 |[],_=>rfl
 |f::l,i=>by simp[Zm6,ZiZ l]
theorem ZwQ :∀(l:List Flip) (i:Nat),esT (Zm6 i l)=esF l
 |[],_=>rfl
 | f::l,i=>by
  show (f.from_.toNat,f.to.toNat)::esT (Zm6 (i+1) l)=_
  rw[ZwQ l];rfl
theorem ZsP :∀(l:List Flip) (i j:Nat),(Zm6 i l)[j]?=(l[j]?).map fun f=>(f.from_.toNat,i+j,f.to.toNat)
 |[],i,j=>rfl
 |f::l,i,0=>rfl
 | f::l,i,j+1=>by
  show (Zm6 (i+1) l)[j]?=_
  rw[ZsP l]
  simp only[List.getElem?_cons_succ]
  rw[show i+1+j=i+(j+1) by omega]
theorem Zyx {R:Type} (e:List T3→Option R):∀(l:List Flip) (i:Nat) (acc:List T3),Z5 (fun (acc:List T3) (i:Nat) (f:Flip)=>.inl (acc++[(f.from_.toNat,i,f.to.toNat)])) e i acc l=e (acc++Zm6 i l)
 |[],i,acc=>by simp[Z5,Zm6]
 | f::l,i,acc=>by
  show Z5 _ e (i+1) (acc++[(f.from_.toNat,i,f.to.toNat)]) l=_
  rw[Zyx e l,List.append_assoc]
  rfl
theorem Zyy {R:Type} (e:List (Nat×Nat)→Option R):∀(l:List Flip) (i:Nat) (acc:List (Nat×Nat)),Z5 (fun (acc:List (Nat×Nat)) (_:Nat) (f:Flip)=>.inl (acc++[(f.from_.toNat,f.to.toNat)])) e i acc l=e (acc++esF l)
 |[],i,acc=>by simp[Z5,esF]
 | f::l,i,acc=>by
  show Z5 _ e (i+1) (acc++[(f.from_.toNat,f.to.toNat)]) l=_
  rw[Zyy e l,List.append_assoc]
  rfl
structure PrOk (p:ProdG):Prop where
 one:1≤p.states.length
 many:p.states.length≤600
 few:p.flips.length≤6000
 fl:∀f∈p.flips,0≤f.from_∧f.from_<p.states.length∧0≤f.to∧f.to<p.states.length∧0≤f.wire∧f.wire≤23
theorem ZuI {p:ProdG} (h:Zje p=true):PrOk p:=by
 unfold Zje inR at h
 simp only[Bool.and_eq_true,decide_eq_true_eq] at h
 obtain ⟨⟨⟨h1,h2⟩,h3⟩,h4⟩:=h
 refine ⟨by omega,by omega,by omega,fun f hf=> ?_⟩
 have:=List.all_eq_true.1 h4 f hf
 unfold Ziu inR at this
 simp only[Bool.and_eq_true,decide_eq_true_eq] at this
 omega
theorem PrOk.es {p:ProdG} (h:PrOk p):∀e∈esF p.flips,e.1<p.states.length∧e.2<p.states.length:=fun e he=>by
 obtain ⟨f,hf,rfl⟩:=List.mem_map.1 he
 have:=h.fl f hf
 dsimp only
 omega
def Zdd (p:ProdG):List Int:=Zbr p.states.length (esF p.flips) 0
theorem PrOk.dist {p:ProdG} (h:PrOk p):IsDist p.states.length (esF p.flips) 0 (Zdd p):=Zhk (by have:=h.one;omega) h.es
def ZdQ (p:ProdG) (k:Nat):List Nat:=ZnC (esF p.flips) (Zdd p) ((Zdd p).getD k (-1)).toNat k []
theorem Zzs {es:List (Nat×Nat)} {far:List Int} {f k i x:Nat} {acc:List Nat} (h0:0<far.getD k (-1)) (hi:es.findIdx? (Zf4 far k)=some i) (hx:es[i]?=some (x,k)):ZnC es far (f+1) k acc=ZnC es far f x (i::acc):=by
 rw[ZnC,if_neg (by omega),hi]
 dsimp only
 rw[List.getD_eq_getElem?_getD,hx]
 rfl
theorem ZrN {R α:Type} (q:α→Bool) (z:Nat→α→Option R) (e:Option R):∀(l:List α) (k i:Nat) (x:α),l.findIdx? q=some i→l[i]?=some x→rgo (fun k x=>if q x=true then some (z k x) else none) e k l=z (k+i) x
 |[],k,i,x,h,_=>by simp at h
 | a::l,k,i,x,h,hx=>by
  unfold rgo
  rw[List.findIdx?_cons] at h
  cases c:q a
  ·rw[c] at h
   simp only[Bool.false_eq_true,if_false] at h⊢
   obtain ⟨j,hj,rfl⟩:=Option.map_eq_some_iff.1 h
   rw[ZrN q z e l (k+1) j x hj (by simpa using hx)]
   congr 1
   omega
  ·rw[c] at h
   simp only[if_true,Option.some.injEq] at h⊢
   subst h
   simp at hx
   subst hx
   rfl
theorem ZuJ {α:Type} (q:α→Bool):∀(l:List α) (k i:Nat),l.findIdx? q=some i→ixf q k l=((k+i:Nat):Int)
 |[],k,i,h=>by simp at h
 | a::l,k,i,h=>by
  rw[List.findIdx?_cons] at h
  unfold ixf
  cases c:q a
  ·rw[c] at h
   simp only[Bool.false_eq_true,if_false] at h⊢
   obtain ⟨j,hj,rfl⟩:=Option.map_eq_some_iff.1 h
   rw[ZuJ q l (k+1) j hj]
   congr 1
   omega
  ·rw[c] at h
   simp only[if_true,Option.some.injEq] at h⊢
   subst h
   rfl
theorem ZnN {α β:Type} (g:α→β) (q:β→Bool):∀l:List α,(l.map g).findIdx? q=l.findIdx? fun x=>q (g x)
 |[]=>rfl
 | a::l=>by
  rw[List.map_cons,List.findIdx?_cons,List.findIdx?_cons,ZnN g q l]
theorem ZrO {R:Type} {n:Nat} {es:List (Nat×Nat)} {far:List Int} (hd:IsDist n es 0 far) (hes:∀e∈es,e.1<n∧e.2<n) (z:List Nat→Option R) (enc:Nat→List Nat→List PV) (f:(List PV→Option R)→List PV→Option R)
 (h1:∀again (k:Nat) (acc:List Nat) (i x:Nat),k<n→0<far.getD k (-1)→k≠0→acc.length≤n→es.findIdx? (Zf4 far k)=some i→es[i]?=some (x,k)→x<n→far.getD x (-1)=far.getD k (-1) - 1→f again (enc k acc)=again (enc x (i::acc)))
 (h2:∀again (acc:List Nat),acc.length≤n→f again (enc 0 acc)=z acc) (hn:n≤1000000) (k:Nat) (hk:k<n) (h0:0≤far.getD k (-1)):Zm f 18446744073709551616 (enc k [])=z (ZnC es far (far.getD k (-1)).toNat k []):=by
 have key:=ZaP (R:=R) (fun q:{q:Nat×List Nat // q.1<n∧0≤far.getD q.1 (-1)∧q.2.length+(far.getD q.1 (-1)).toNat≤n}=>enc q.1.1 q.1.2) (fun q=>(far.getD q.1.1 (-1)).toNat) (fun q=>z (ZnC es far (far.getD q.1.1 (-1)).toNat q.1.1 q.1.2)) f (fun again q ih=> ?_) 18446744073709551616 ⟨(k,[]),hk,h0,by have:=hd.small k hk;simp only[List.length_nil];omega⟩ (by have:=hd.small k hk;dsimp only;omega)
 ·exact key
 ·obtain ⟨⟨k,acc⟩,hk,h0,hl⟩:=q
  dsimp only at ih hk h0 hl⊢
  by_cases c:k=0
  ·subst c
   have e0:far.getD 0 (-1)=0:=(hd.zero_iff hk).2 rfl
   rw[h2 again acc (by omega),e0]
   rfl
  ·have hp:0<far.getD k (-1):=by
    have:far.getD k (-1)≠0:=fun e=>c ((hd.zero_iff hk).1 e)
    omega
   obtain ⟨i,x,b1,b2,b3,b4⟩:=hd.back hes hk hp
   rw[h1 again k acc i x hk hp c (by omega) b1 b2 b3 b4]
   obtain ⟨m,hm⟩:∃m,(far.getD k (-1)).toNat=m+1:=⟨(far.getD k (-1)).toNat - 1,by omega⟩
   have:=ih ⟨(x,i::acc),b3,by dsimp only;omega,by dsimp only;simp only[List.length_cons];omega⟩ (by dsimp only;omega)
   dsimp only at this
   rw[this,hm,Zzs hp b1 b2,show (far.getD x (-1)).toNat=m by omega]
theorem Zyz {p:ProdG} (h:PrOk p) {f:Flip} (hf:f∈p.flips):f.from_=((f.from_.toNat:Nat):Int)∧f.to=((f.to.toNat:Nat):Int):=by
 have:=h.fl f hf
 omega
theorem mk_mv (a b c:PV):splice (splice (splice [PV.int .i64 0,PV.int .i64 0,PV.int .i64 0] 0 [a]) 1 [b]) 2 [c]=[a,b,c]:=rfl
theorem gs0 (a b:PV):Zpe [.lst [],.lst []] 0 (.agg [a,b])=some (.agg [a,b]):=rfl
def Zpq (p:ProdG) (k:Nat):Int:=(Zdd p).getD k (-1)
theorem ZwR (p:ProdG) (k:Nat) (h:PrOk p) (hk:k<p.states.length):ZhH [ePr p,pI (k:Int)]=some (if 0≤Zpq p k then .tup [.lst ((ZdQ p k).map eN),pB true] else .tup [.lst [],pB false]):=by
 have h1:=h.one
 have h2:=h.many
 have h3:=h.few
 have hd:=h.dist
 have hmk:=ZtX (TI.mk 1 16 TD.str [ZC.str] [] false) p.states.length (by omega)
 show (fun x0 x1=>ZhH [x0,x1]) _ _=_
 rw[Zvd]
 simp only[ePr,List.length_map,hmk,EVS]
 obtain ⟨marks,hma⟩:∃m,List.replicate p.states.length (Zbb (TI.mk 1 16 TD.str [ZC.str] [] false))=m:=⟨_,rfl⟩
 have hml:marks.length=p.states.length:=by rw[←hma,List.length_replicate]
 rw[hma]
 clear hma hmk
 simp only[sp2,gs0,EVS]
 have hmg:∀(i:Nat) (f:Flip),p.flips[i]?=some f→(Zm6 0 p.flips).take i++[(f.from_.toNat,i,f.to.toNat)]=(Zm6 0 p.flips).take (i+1):=fun i f hf=>by
  rw[List.take_add_one,ZsP,hf,Nat.zero_add];rfl
 refine (ZaI (R:=PV) p.flips (fun (acc:List T3) i=>[.agg [.lst marks,.lst (acc.map eT3)],pI (Int.ofNat i)]) (fun i acc=>acc=(Zm6 0 p.flips).take i) (fun (acc:List T3) i f=>.inl (acc++[(f.from_.toNat,i,f.to.toNat)])) (fun mv=>some (if 0≤Zpq p k then .tup [.lst ((ZdQ p k).map eN),pB true] else .tup [.lst [],pB false])) _ (by omega) (fun acc i f acc' hi hf he=> ?_) (fun again acc i f hi hf=> ?_) (fun again acc hi=> ?_) (b:=[]) rfl).trans (Zyx _ _ _ _)
 ·cases he;rw[hi];exact hmg i f hf
 ·have hl:=Ze hf
  have hix:Zk (.lst (p.flips.map eFl)) (.int .i64 (i:Int))=some (eFl f):=Zj hf
  obtain ⟨e1,e2⟩:=Zyz h (List.mem_of_getElem? hf)
  have hil:acc.length≤p.flips.length:=by rw[hi,List.length_take,ZiZ];omega
  have hla:acc.length+[PV.agg [pI f.from_,pI (i:Int),pI f.to]].length≤4294967296∧[PV.agg [pI f.from_,pI (i:Int),pI f.to]].all (Zal 3)=true:=⟨by simp;omega,rfl⟩
  have hps:acc.map eT3++[PV.agg [pI f.from_,pI (i:Int),pI f.to]]=(acc++[(f.from_.toNat,i,f.to.toNat)]).map eT3:=by
   rw[List.map_append];simp only[List.map_cons,List.map_nil,eT3];rw[←e1,←e2]
  simp only[Zr hl,Zi hl (show p.flips.length≤9223372036854775807 by omega),hix,eFl,mk_mv,List.length_map,if_pos hla,hps,EVS]
 ·have hacc:acc=Zm6 0 p.flips:=by rw[hi,List.take_of_length_le];rw[ZiZ];omega
  have hmi:∀v∈acc,v.1<p.states.length∧v.2.2<p.states.length:=fun v hv=>by
   have:=h.es (v.1,v.2.2) (by rw[←ZwQ p.flips 0,←hacc];exact List.mem_map.2 ⟨v,hv,rfl⟩)
   exact this
  have g1:=Zzr p.states.length marks acc hml (by omega) (by omega) hmi (by rw[hacc,ZiZ];omega)
  have hes:esT acc=esF p.flips:=by rw[hacc];exact ZwQ _ _
  have hal:acc.length≤6000:=by rw[hacc,ZiZ];exact h3
  rw[hes] at g1
  have hfl:=hd.len
  unfold Zdd at hfl
  have p1:=Zez (far:=Zdd p) (k:=k) (by rw[hd.len];exact hk)
  have q1:=ZcQ (far:=Zdd p) (k:=k) (by rw[hd.len];exact hk)
  unfold Zdd at p1 q1
  unfold Zpq ZdQ
  simp only[Int.natCast_zero] at g1
  simp only[ZV,g1,p1,q1,Int.toNat_natCast,EVS]
  have hfd:Zbr p.states.length (esF p.flips) 0=Zdd p:=rfl
  rw[hfd]
  by_cases c0:(Zdd p).getD k (-1)<0
  ·rw[if_neg (show ¬(0≤(Zdd p).getD k (-1)) by omega)]
   simp only[c0,EVS]
  ·rw [if_pos (show 0≤(Zdd p).getD k (-1) by omega)]
   simp only[c0,EVS]
   refine ZrO (R:=PV) hd h.es (fun l=>some (PV.tup [PV.lst (l.map eN),pB true])) (fun (k:Nat) (acc:List Nat)=>[pI (k:Int),.lst (acc.map eN)]) _ (fun again k out i x hk hp hk0 hl b1 b2 b3 b4=> ?_) (fun again out hl=> ?_) (by omega) k hk (by omega)
   ·have hkn:decide ((k:Int)=0)=false:=by simp only[decide_eq_false_iff_not];omega
    have hv:acc[i]?=some (x,i,k):=by
     rw[hacc,ZsP]
     unfold esF at b2
     rw[List.getElem?_map,Option.map_eq_some_iff] at b2
     obtain ⟨f,hf,he⟩:=b2
     cases he
     rw[hf,Nat.zero_add];rfl
    have hq:acc.findIdx? (fun v=>Zf4 (Zdd p) k (v.1,v.2.2))=some i:=by
     rw[←ZnN (fun v:T3=>(v.1,v.2.2))]
     have:acc.map (fun v:T3=>(v.1,v.2.2))=esF p.flips:=hes
     rw[this]
     exact b1
    simp only[hkn,List.length_map,EVS]
    refine (Zsb (R:=PV) acc (fun j v=>if Zf4 (Zdd p) k (v.1,v.2.2)=true then some (again [pI ((v.1:Nat):Int),.lst ((v.2.1::out).map eN)]) else none) (again [pI (k:Int),.lst (out.map eN)]) _ (by omega) (fun again' j v hv=> ?_) (fun again'=> ?_)).trans ((ZrN _ _ _ _ _ _ _ hq hv).trans rfl)
    ·have hj:=Ze hv
     have hi:Zk (.lst (acc.map eT3)) (.int .i64 (j:Int))=some (eT3 v):=Zj hv
     obtain ⟨l1,l2⟩:=hmi v (List.mem_of_getElem? hv)
     have p1:=Zez (far:=Zdd p) (k:=v.1) (by rw[hd.len];exact l1)
     have q1:=ZcQ (far:=Zdd p) (k:=v.1) (by rw[hd.len];exact l1)
     have p2:=Zez (far:=Zdd p) (k:=k) (by rw[hd.len];exact hk)
     have q2:=ZcQ (far:=Zdd p) (k:=k) (by rw[hd.len];exact hk)
     have hw:IntKind.i64.wrap ((Zdd p).getD k (-1) - 1)=(Zdd p).getD k (-1) - 1:=Zaw (by omega) (by have:=hd.small k hk;omega)
     have hla:[pI (v.2.1:Int)].length+out.length≤4294967296∧(out.map eN).all (Zal 1)=true:=⟨by simp;omega,by simp[eN,Zal];intros;rfl⟩
     unfold Zf4
     dsimp only
     have hi1:decide ((v.2.2:Int)=(k:Int))=decide (v.2.2=k):=by rw[decide_eq_decide];omega
     by_cases c1:v.2.2=k
     ·by_cases c2:0≤(Zdd p).getD v.1 (-1)
      ·by_cases c3:(Zdd p).getD v.1 (-1)=(Zdd p).getD k (-1) - 1
       ·have hps:PV.int .i64 (v.2.1:Int)::out.map eN=(v.2.1::out).map eN:=rfl
        have c3':decide ((Zdd p).getD v.1 (-1)=(Zdd p).getD k (-1) - 1)=true:=decide_eq_true c3
        simp only[Zr hj,Zi hj (show acc.length≤9223372036854775807 by omega),hi,eT3,hi1,c1,c2,c3',p1,q1,p2,q2,hw,Int.toNat_natCast,decide_true,Bool.and_self,and_self,if_true,List.cons_append,List.nil_append,if_pos hla,EVS]
        rfl
       ·simp only[Zr hj,Zi hj (show acc.length≤9223372036854775807 by omega),hi,eT3,hi1,c1,c2,c3,p1,q1,p2,q2,hw,Int.toNat_natCast,decide_true,decide_false,Bool.and_self,Bool.and_false,Bool.false_eq_true,if_false,EVS]
      ·have c3:(Zdd p).getD v.1 (-1)≠(Zdd p).getD k (-1) - 1:=by omega
       simp only[Zr hj,Zi hj (show acc.length≤9223372036854775807 by omega),hi,eT3,hi1,c1,c2,c3,p1,q1,p2,q2,hw,Int.toNat_natCast,decide_true,decide_false,Bool.and_self,Bool.and_false,Bool.false_eq_true,if_false,EVS]
     ·simp only[Zr hj,Zi hj (show acc.length≤9223372036854775807 by omega),hi,eT3,hi1,c1,p1,q1,p2,q2,hw,Int.toNat_natCast,decide_true,decide_false,Bool.false_and,Bool.false_eq_true,if_false,EVS]
    ·simp only[ZV,EVS]
   ·have hkn:decide (((0:Nat):Int)=0)=true:=rfl
    simp only[EVS]
theorem mk_st2 (a b:PV):splice (splice [PV.int .i64 0,PV.int .i64 0] 0 [a]) 1 [b]=[a,b]:=rfl
theorem caps2 (a b:List PV):Zbu 2 (.tup [.agg a,.agg b])=some [.agg a,.agg b]:=by simp[Zbu,PV.parts,PV.isU]
theorem Zpr (e:Nat×Nat) (k:Nat) (far:List Int) (n:Nat) (hl:far.length=n) (he:e.1<n) (hk:k<n) (hb: -1≤far.getD k (-1)∧far.getD k (-1)≤1000000):ZdY [pSt e,.agg [pI (k:Int)],.agg [.lst (far.map pI)]]=some (pB (Zf4 far k e)):=by
 have p1:Zk (.lst (far.map pI)) (.int .i64 (e.1:Int))=some (pI (far.getD e.1 (-1))):=Zol (ZcQ (by omega))
 have p2:Zk (.lst (far.map pI)) (.int .i64 (k:Int))=some (pI (far.getD k (-1))):=Zol (ZcQ (by omega))
 have hw:IntKind.i64.wrap (far.getD k (-1) - 1)=far.getD k (-1) - 1:=Zaw (by omega) (by omega)
 have hi1:decide ((e.2:Int)=(k:Int))=decide (e.2=k):=by rw[decide_eq_decide];omega
 show (fun x0 x1 x2=>ZdY [x0,x1,x2]) _ _ _=_
 rw[Zoa]
 have hpe:pSt e=.agg [pI (e.1:Int),pI (e.2:Int)]:=rfl
 unfold Zf4
 cases c:decide (e.2=k)<;>simp only[hpe,hi1,c,p1,p2,hw,EVS]
theorem ZcG (l:List (Nat×Nat)) (k:Nat) (far:List Int) (n:Nat) (hf:far.length=n) (hl:l.length≤1000000) (he:∀e∈l,e.1<n) (hk:k<n) (hb: -1≤far.getD k (-1)∧far.getD k (-1)≤1000000):ZO [.lst (l.map pSt),.tup [.agg [pI (k:Int)],.agg [.lst (far.map pI)]]]=some (pI (ixf (Zf4 far k) 0 l)):=by
 show (fun x0 x1=>ZO [x0,x1]) _ _=_
 rw[Zcw]
 simp only[EVS]
 refine (congrArg (fun m:Option PV=>m.bind fun r=>if r.sc=true then some r else none) (Zc4 l (Zf4 far k) _ (by omega) (fun again j e hx=> ?_) (fun again=> ?_))).trans ?_
 ·have hj:=Ze hx
  have hi:Zk (.lst (l.map pSt)) (.int .i64 (j:Int))=some (pSt e):=Zj hx
  have g:=Zpr e k far n hf (he e (List.mem_of_getElem? hx)) hk hb
  have hpe:pSt e=.agg [pI (e.1:Int),pI (e.2:Int)]:=rfl
  rw[hpe] at g hi
  cases c:Zf4 far k e<;>simp only[Zr hj,Zi hj (show l.length≤9223372036854775807 by omega),hi,caps2,g,c,List.append_nil,List.cons_append,List.nil_append,Bool.false_eq_true,if_false,if_true,EVS]
 ·simp only[ZV,EVS]
  rfl
 ·simp only[EVS]
theorem ZsQ (n:Nat) (es:List (Nat×Nat)) (k:Nat) (h1:0<n) (h2:n≤1000) (hes:∀e∈es,e.1<n∧e.2<n) (hl:es.length≤100000) (hk:k<n):
 Zfn [pI (n:Int),.lst (es.map pSt),pI (k:Int)]=some (if 0≤(Zbr n es 0).getD k (-1) then .tup [.lst ((ZnC es (Zbr n es 0) ((Zbr n es 0).getD k (-1)).toNat k []).map eN),pB true] else .tup [.lst [],pB false]):=by
 have hd:=Zhk h1 hes
 have g1:=ZkI n 0 es h2 h1 hl hes
 obtain ⟨far,hfar⟩:∃far,Zbr n es 0=far:=⟨_,rfl⟩
 rw[hfar] at hd g1⊢
 have p1:=Zez (far:=far) (k:=k) (by rw[hd.len];exact hk)
 have q1:=ZcQ (far:=far) (k:=k) (by rw[hd.len];exact hk)
 simp only[Int.natCast_zero] at g1
 show (fun x0 x1 x2=>Zfn [x0,x1,x2]) _ _ _=_
 rw[ZqZ]
 simp only[g1,p1,q1,Int.toNat_natCast,EVS]
 by_cases c0:far.getD k (-1)<0
 ·rw[if_neg (show ¬(0≤far.getD k (-1)) by omega)]
  simp only[c0,EVS]
 ·rw [if_pos (show 0≤far.getD k (-1) by omega)]
  simp only[c0,EVS]
  refine ZrO (R:=PV) hd hes (fun l=>some (PV.tup [PV.lst (l.map eN),pB true])) (fun (k:Nat) (acc:List Nat)=>[.lst (acc.reverse.map eN),.agg [pI (k:Int)]]) _ (fun again k out i x hk hp hk0 hl' b1 b2 b3 b4=> ?_) (fun again out hl'=> ?_) (by omega) k hk (by omega)
  ·have p1:=Zez (far:=far) (k:=k) (by rw[hd.len];exact hk)
   have q1:=ZcQ (far:=far) (k:=k) (by rw[hd.len];exact hk)
   have hgt:decide (0<far.getD k (-1))=true:=decide_eq_true hp
   have hsm:=hd.small k hk
   have g2:=ZcG es k far n hd.len (by omega) (fun e he=>(hes e he).1) hk ⟨by omega,by omega⟩
   rw[ZuJ _ _ 0 _ b1,Nat.zero_add] at g2
   have hi:Zk (.lst (es.map pSt)) (.int .i64 (i:Int))=some (pSt (x,k)):=Zj b2
   have hpe:pSt (x,k)=.agg [pI (x:Int),pI (k:Int)]:=rfl
   have hla:out.length+[pI (i:Int)].length≤4294967296∧[pI (i:Int)].all (Zal 1)=true:=⟨by simp;omega,rfl⟩
   have hps:out.reverse.map eN++[pI (i:Int)]=(i::out).reverse.map eN:=by simp[eN]
   simp only[hgt,p1,q1,Int.toNat_natCast,List.drop_zero,g2,hi,hpe,List.length_reverse,if_pos hla,hps,ZBk,EVS]
  ·have hk0:0<n:=h1
   have p1:=Zez (far:=far) (k:=0) (by rw[hd.len];exact hk0)
   have q1:=ZcQ (far:=far) (k:=0) (by rw[hd.len];exact hk0)
   have e0:far.getD 0 (-1)=0:=(hd.zero_iff hk0).2 rfl
   rw[e0] at q1
   simp only[Int.natCast_zero] at p1
   have g4:Zck [.lst (out.reverse.map eN)]=some (.lst (out.map eN)):=by
    have hm:∀l:List Nat,l.map eN=(l.map fun i:Nat=>(i:Int)).map pI:=fun l=>by rw[List.map_map];rfl
    rw[hm,hm]
    show ZlE _ _=_
    unfold ZlE
    simp only
    rw[Zqm]
    simp only[obs]
    rw[if_pos (by simp;omega)]
    simp
   have hgt:decide ((0:Int)<0)=false:=rfl
   have ht0:Int.toNat 0=0:=rfl
   simp only[p1,q1,ht0,hgt,g4,EVS]
theorem ZuK {es:List (Nat×Nat)} {far:List Int}:∀(f k:Nat) (acc:List Nat),∀x∈ZnC es far f k acc,x∈acc∨x<es.length
 |0,k,acc,x,hx=>.inl hx
 | f +1,k,acc,x,hx=>by
  unfold ZnC at hx
  split at hx
  ·exact .inl hx
  ·split at hx
   ·rename_i i hi
    rcases ZuK f _ _ x hx with h|h
    ·rcases List.mem_cons.1 h with rfl|h
     ·exact .inr (List.findIdx?_eq_some_iff_getElem.1 hi).1
     ·exact .inl h
    ·exact .inr h
   ·exact .inl hx
theorem ZuL {es:List (Nat×Nat)} {far:List Int}:∀(f k:Nat) (acc:List Nat),(ZnC es far f k acc).length≤acc.length+f
 |0,k,acc=>Nat.le_refl _
 | f +1,k,acc=>by
  unfold ZnC
  split
  ·omega
  ·split
   ·refine Nat.le_trans (ZuL f _ _) ?_
    simp only[List.length_cons]
    omega
   ·omega
theorem Zme {p:ProdG} {k:Nat}:∀x∈ZdQ p k,x<p.flips.length:=fun x hx=>by
 rcases ZuK _ _ _ x hx with h|h
 ·cases h
 ·unfold esF at h;simpa using h
theorem Zmf {p:ProdG} {k:Nat} (h:PrOk p) (hk:k<p.states.length):(ZdQ p k).length≤600:=by
 have h1:=ZuL (es:=esF p.flips) (far:=Zdd p) ((Zdd p).getD k (-1)).toNat k []
 have h2:=h.dist.small k hk
 have h3:=h.many
 unfold ZdQ
 simp only[List.length_nil] at h1
 omega
def ZaA (p:ProdG) (i:Nat):Flip:=p.flips.getD i ⟨0,0,0⟩
theorem Zmg {p:ProdG} {i:Nat} (h:i<p.flips.length):p.flips[i]?=some (ZaA p i):=by
 unfold ZaA
 rw[List.getD_eq_getElem?_getD,List.getElem?_eq_getElem h]
 rfl
theorem ZuM {R:Type} (p:ProdG) (e:List Flip→Option R):∀(l:List Nat) (i:Nat) (acc:List Flip),Z5 (fun (acc:List Flip) (_:Nat) (i:Nat)=>.inl (acc++[ZaA p i])) e i acc l=e (acc++l.map (ZaA p))
 |[],i,acc=>by simp[Z5]
 | f::l,i,acc=>by
  show Z5 _ e (i+1) (acc++[ZaA p f]) l=_
  rw[ZuM p e l,List.append_assoc]
  rfl
theorem ZuN (p:ProdG) (k:Nat) (h:PrOk p) (hk:k<p.states.length):Zgj [ePr p,pI (k:Int)]=some (if 0≤Zpq p k then .tup [.lst (((ZdQ p k).map (ZaA p)).map eFl),pB true] else .tup [.lst [],pB false]):=by
 have h1:=h.one
 have h2:=h.many
 have h3:=h.few
 show (fun x0 x1=>Zgj [x0,x1]) _ _=_
 rw[Ztc]
 simp only[ePr,List.length_map,EVS]
 refine (ZaI (R:=PV) p.flips (fun (acc:List (Nat×Nat)) i=>[.lst (acc.map pSt),pI (Int.ofNat i)]) (fun i acc=>acc=(esF p.flips).take i) (fun (acc:List (Nat×Nat)) _ f=>.inl (acc++[(f.from_.toNat,f.to.toNat)])) (fun mv=>some (if 0≤Zpq p k then .tup [.lst (((ZdQ p k).map (ZaA p)).map eFl),pB true] else .tup [.lst [],pB false])) _ (by omega) (fun acc i f acc' hi hf he=> ?_) (fun again acc i f hi hf=> ?_) (fun again acc hi=> ?_) (b:=[]) rfl).trans (Zyy _ _ _ _)
 ·cases he
  rw[hi,List.take_add_one]
  unfold esF
  rw[List.getElem?_map,hf]
  rfl
 ·have hl:=Ze hf
  have hix:Zk (.lst (p.flips.map eFl)) (.int .i64 (i:Int))=some (eFl f):=Zj hf
  obtain ⟨e1,e2⟩:=Zyz h (List.mem_of_getElem? hf)
  have hil:acc.length≤p.flips.length:=by rw[hi,List.length_take];unfold esF;rw[List.length_map];omega
  have hla:acc.length+[PV.agg [pI f.from_,pI f.to]].length≤4294967296∧[PV.agg [pI f.from_,pI f.to]].all (Zal 2)=true:=⟨by simp;omega,rfl⟩
  have hps:acc.map pSt++[PV.agg [pI f.from_,pI f.to]]=(acc++[(f.from_.toNat,f.to.toNat)]).map pSt:=by
   rw[List.map_append];simp only[List.map_cons,List.map_nil,pSt];rw[←e1,←e2]
  simp only[Zr hl,Zi hl (show p.flips.length≤9223372036854775807 by omega),hix,eFl,mk_st2,List.length_map,if_pos hla,hps,EVS]
 ·have hacc:acc=esF p.flips:=by rw[hi,List.take_of_length_le];unfold esF;rw[List.length_map];omega
  have g1:=ZsQ p.states.length (esF p.flips) k (by omega) (by omega) h.es (by unfold esF;rw[List.length_map];omega) hk
  have hfd:Zbr p.states.length (esF p.flips) 0=Zdd p:=rfl
  rw[hfd] at g1
  subst hacc
  unfold Zpq
  by_cases c0:0≤(Zdd p).getD k (-1)
  ·rw[if_pos c0] at g1⊢
   have hw:ZnC (esF p.flips) (Zdd p) ((Zdd p).getD k (-1)).toNat k []=ZdQ p k:=rfl
   rw[hw] at g1
   have hwl:=Zmf h hk
   simp only[ZV,g1,List.length_map,EVS]
   refine (ZaI (R:=PV) (ZdQ p k) (fun (acc:List Flip) i=>[.lst (acc.map eFl),pI (Int.ofNat i)]) (fun i acc=>acc.length=i) (fun (acc:List Flip) _ i=>.inl (acc++[ZaA p i])) (fun l=>some (.tup [.lst (l.map eFl),pB true])) _ (by omega) (fun acc i x acc' hi hf he=> ?_) (fun again acc i x hi hf=> ?_) (fun again acc hi=> ?_) (b:=[]) rfl).trans (ZuM _ _ _ _ _)
   ·cases he;simp[hi]
   ·have hl:=Ze hf
    have p1:ZaM ((ZdQ p k).map eN) (.int .i64 (i:Int))=some (.int .i64 (i:Int)):=ZbG (by rw[List.length_map];exact hl)
    have q1:((ZdQ p k).map eN)[i]?=some (pI (x:Int)):=by rw[List.getElem?_map,hf];rfl
    have hix:Zk (.lst (p.flips.map eFl)) (.int .i64 (x:Int))=some (eFl (ZaA p x)):=Zj (Zmg (Zme x (List.mem_of_getElem? hf)))
    have hla:acc.length+[eFl (ZaA p x)].length≤4294967296∧[eFl (ZaA p x)].all (Zal 3)=true:=⟨by simp;omega,rfl⟩
    have hps:acc.map eFl++[eFl (ZaA p x)]=(acc++[ZaA p x]).map eFl:=by simp
    simp only[eFl] at hla hps hix
    simp only[Zr hl,Zi hl (show (ZdQ p k).length≤9223372036854775807 by omega),p1,q1,hix,Int.toNat_natCast,List.length_map,eFl,if_pos hla,hps,EVS]
   ·simp only[ZV,EVS]
  ·rw[if_neg c0] at g1⊢
   simp only[ZV,g1,List.length_map,EVS]
   refine (ZaP (R:=PV) (fun _:Unit=>[.lst [],pI 0]) (fun _=>0) (fun _=>some (.tup [.lst [],pB false])) _ (fun again _ _=> ?_) 18446744073709551616 () (by omega))
   simp only[List.length_nil,EVS]
   rfl
def ZuO (p:ProdG) (k:Int):Bool:=Zje p&&inR k 0 ((p.states.length:Int) - 1)
theorem ZB1 {p:ProdG} {k:Int} (h:ZuO p k=true):PrOk p∧∃m:Nat,k=m∧m<p.states.length:=by
 unfold ZuO inR at h
 simp only[Bool.and_eq_true,decide_eq_true_eq] at h
 exact ⟨ZuI h.1,k.toNat,by omega,by omega⟩
def sgnB (v:List UInt8) (k:Nat):UInt8:=if (match v[k]? with|some b=>decide ((b.toNat:Int)=49)|none=>false)=true then 43 else 45
def Zct (n:PNet) (k:Nat):List UInt8:=match n.wires[k]? with|some w=>w.name|none=>[]
def ZfN (n:PNet) (v:List UInt8) (k:Nat):List UInt8:=Zct n k++[sgnB v k]
theorem Zzt (sep:List UInt8) (l:List (List UInt8)) (x:List UInt8):Lib.join (l++[x]) sep=match l with|[]=>x|_=>Lib.join l sep++sep++x:=by
 cases l with
 |nil=>simp[Lib.join_one]
 | cons a r=>
  simp only[List.cons_append,Lib.join_cons,Lib.joinTail,List.map_append,List.flatten_append,List.map_cons,List.map_nil,List.flatten_cons,List.flatten_nil,List.append_nil,List.append_assoc]
theorem ZsR (l:List (List UInt8)) (h:∀x∈l,x.length≤7):(Lib.join l [32]).length≤8 * l.length:=by
 cases l with
 |nil=>simp[Lib.join_nil]
 | cons a r=>
  rw[Lib.join_cons]
  have h1:=h a List.mem_cons_self
  have h2:(Lib.joinTail [32] r).length≤8 * r.length:=by
   have hr:∀x∈r,x.length≤7:=fun x hx=>h x (List.mem_cons_of_mem _ hx)
   clear h
   induction r with
   |nil=>simp[Lib.joinTail]
   | cons b r ih=>
    have:=ih fun x hx=>hr x (List.mem_cons_of_mem _ hx)
    have hb:=hr b List.mem_cons_self
    unfold Lib.joinTail at this⊢
    simp only[List.map_cons,List.flatten_cons,List.length_append,List.length_cons,List.length_nil] at this⊢
    omega
  simp only[List.length_append,List.length_cons]
  omega
theorem ZuP {α:Type} (q:Nat→α→Bool):∀(l:List α) (j i:Nat) (x:α),ZM q j l=true→l[i]?=some x→q (j+i) x=true
 |[],j,i,x,h,hx=>by simp at hx
 | a::l,j,0,x,h,hx=>by
  unfold ZM at h
  rw[Bool.and_eq_true] at h
  simp at hx
  subst hx
  exact h.1
 | a::l,j,i+1,x,h,hx=>by
  unfold ZM at h
  rw[Bool.and_eq_true] at h
  have:=ZuP q l (j+1) i x h.2 (by simpa using hx)
  rw[show j+(i+1)=j+1+i by omega]
  exact this
theorem Zi0 {n:PNet} (hv:Zdm n=true) (k:Nat):(Zct n k).length≤6:=by
 unfold Zct
 cases hw:n.wires[k]? with
 |none=>simp
 | some w=>
  unfold Zdm at hv
  simp only[Bool.and_eq_true] at hv
  have:=ZuP _ _ _ _ _ hv.2 hw
  unfold ZbK Zml ZaO at this
  simp only[Bool.and_eq_true,decide_eq_true_eq] at this
  show w.name.length≤6
  omega
theorem Zmh {n:PNet} (hv:Zdm n=true) (v:List UInt8) (k:Nat):(ZfN n v k).length≤7:=by
 have:=Zi0 hv k
 unfold ZfN
 rw[List.length_append,List.length_singleton]
 omega
theorem ZuQ (n:PNet) (k:Nat) (v:List UInt8) (hv:Zdm n=true) (hk:k<n.wires.length) (hl:v.length=n.wires.length):Zgi [Zo n,pI (k:Int),.str v]=some (.str (ZfN n v k)):=by
 have hb:Zao (.str v) (.int .i64 (k:Int))=some (pU v[k]):=Zq (List.getElem?_eq_getElem (by omega))
 have hw:Zk (.lst (n.wires.map Zn)) (.int .i64 (k:Int))=some (Zn n.wires[k]):=Zj (List.getElem?_eq_getElem hk)
 have hn:Zct n k=n.wires[k].name:=by unfold Zct;rw[List.getElem?_eq_getElem hk]
 have hnl:=Zi0 hv k
 rw[hn] at hnl
 have ha:∀b:UInt8,Zd .add TD.str (.str n.wires[k].name) (.str [b])=some (.str (n.wires[k].name++[b])):=fun b=>ZbH (by simp;omega)
 show (fun x0 x1 x2=>Zgi [x0,x1,x2]) _ _ _=_
 rw[Zta]
 unfold ZfN sgnB
 rw[hn,List.getElem?_eq_getElem (show k<v.length by omega)]
 cases c:decide ((v[k].toNat:Int)=49)<;>simp only[Zo,hb,hw,c,Zn,List.drop_zero,ha,EVS]<;>rfl
def Zf6 (p:ProdG) (f:Flip):PSt:=p.states.getD f.to.toNat ⟨0,[]⟩
def okF (n:PNet) (p:ProdG) (f:Flip):Bool:= !decide ((n.wires.length:Int)≤f.wire)&&Z1 (Zf6 p f).values n.wires.length
def ZeW (n:PNet) (p:ProdG) (f:Flip):List UInt8:=ZfN n (Zf6 p f).values f.wire.toNat
theorem Zps {p:ProdG} (h:PrOk p) {f:Flip} (hf:f∈p.flips):p.states[f.to.toNat]?=some (Zf6 p f):=by
 have:=h.fl f hf
 unfold Zf6
 rw[List.getD_eq_getElem?_getD,List.getElem?_eq_getElem (by omega)]
 rfl
def Zpt (n:PNet) (p:ProdG) (k:Int):Bool:=Zdm n&&ZuO p k
def ffP (n:PNet) (p:ProdG) (k:Int):List UInt8×Bool:=
 if Zpt n p k=true∧0≤Zpq p k.toNat∧(((ZdQ p k.toNat).map (ZaA p)).all (okF n p))=true then (Lib.join (((ZdQ p k.toNat).map (ZaA p)).map (ZeW n p)) [32],true) else ([],false)
theorem ZsS {R α:Type} (ok:α→Bool) (wd:α→List UInt8) (z:Option R) (e:List (List UInt8)→Option R):∀(l:List α) (i:Nat) (acc:List (List UInt8)),Z5 (fun (acc:List (List UInt8)) (_:Nat) (f:α)=>if ok f=true then .inl (acc++[wd f]) else .inr z) e i acc l=if (l.all ok)=true then e (acc++l.map wd) else z
 |[],i,acc=>by simp[Z5]
 | f::l,i,acc=>by
  unfold Z5
  cases c:ok f
  ·simp[c]
  ·simp only[if_true]
   rw[ZsS ok wd z e l]
   simp[c,List.append_assoc]
theorem ZyA {n:PNet} {p:ProdG} {k:Int} (h:Zpt n p k=true):Zdm n=true∧PrOk p∧∃m:Nat,k=m∧m<p.states.length:=by
 unfold Zpt at h
 rw[Bool.and_eq_true] at h
 exact ⟨h.1,ZB1 h.2⟩
theorem Zm7 (n:PNet) (p:ProdG) (k:Int) (hn:n.Fit) (hp:PrFit p):ZdC [Zo n,ePr p,pI k]=some (.tup [.str (ffP n p k).1,pB (ffP n p k).2]):=by
 have g0:=ZfQ n hn
 rw[←ZBd] at g0
 have g1:=ZqV p hp
 have g2:=Zah k 0 ((p.states.length:Int) - 1)
 have hst:=hp.states
 unfold ZA at hst
 have hw:IntKind.i64.wrap ((p.states.length:Int) - 1)=(p.states.length:Int) - 1:=Zaw (by omega) (by omega)
 show (fun x0 x1 x2=>ZdC [x0,x1,x2]) _ _ _=_
 rw[Znm]
 unfold ffP
 cases hok:Zpt n p k
 ·rw[if_neg (by simp)]
  unfold Zpt ZuO at hok
  simp only[ePr,Zo] at g0 g1⊢
  cases c0:Zdm n
  ·rw[c0] at g0;simp only[ZK,ZR,g0,EVS];rfl
  cases c1:Zje p
  ·rw[c0] at g0;rw[c1] at g1;simp only[ZK,ZR,g0,g1,EVS];rfl
  ·rw[c0] at g0
   rw[c1] at g1
   rw[c0,c1,Bool.true_and,Bool.true_and] at hok
   rw[hok] at g2
   simp only[ZK,ZR,List.length_map,hw,g0,g1,g2,EVS];rfl
 ·obtain ⟨c0,h,m,rfl,hm⟩:=ZyA hok
  unfold Zpt ZuO at hok
  simp only[Bool.and_eq_true] at hok
  rw[c0] at g0
  rw[hok.2.1] at g1
  rw[hok.2.2] at g2
  have g3:=ZuN p m h hm
  have hwl:=Zmf h hm
  have hn24:=(ZaQ c0).2
  rw[Int.toNat_natCast]
  simp only[ePr,Zo] at g0 g1 g3⊢
  by_cases cf:0≤Zpq p m
  ·rw [if_pos cf] at g3
   obtain ⟨L,hL⟩:∃L,(ZdQ p m).map (ZaA p)=L:=⟨_,rfl⟩
   have hLl:L.length≤600:=by rw[←hL,List.length_map];exact hwl
   have hLm:∀f∈L,f∈p.flips:=fun f hf=>by
    rw[←hL] at hf
    obtain ⟨i,hi,rfl⟩:=List.mem_map.1 hf
    exact List.mem_of_getElem? (Zmg (Zme i hi))
   rw[hL] at g3⊢
   simp only[ZK,ZR,List.length_map,hw,g0,g1,g2,g3,EVS]
   refine (congrArg (fun m:Option PV=>m.bind fun r=>if r.sc=true then some r else none) ((ZaI (R:=PV) L (fun (acc:List (List UInt8)) i=>[.lst (acc.map PV.str),pI (Int.ofNat i)]) (fun i acc=>acc.length=i∧∀x∈acc,x.length≤7) (fun (acc:List (List UInt8)) _ f=>if okF n p f=true then .inl (acc++[ZeW n p f]) else .inr (some (.tup [.str [],pB false]))) (fun l=>some (.tup [.str (Lib.join l [32]),pB true])) _ (by omega) (fun acc i x acc' hi hf he=> ?_) (fun again acc i x hi hf=> ?_) (fun again acc hi=> ?_) (b:=[]) ⟨rfl,by simp⟩).trans (ZsS _ _ _ _ _ _ _))).trans ?_
   ·split at he
    ·cases he
     refine ⟨by simp[hi.1],fun y hy=> ?_⟩
     rcases List.mem_append.1 hy with hy|hy
     ·exact hi.2 y hy
     ·rw[List.mem_singleton] at hy;subst hy;exact Zmh c0 _ _
    ·cases he
   ·have hl:=Ze hf
    have hfm:=hLm x (List.mem_of_getElem? hf)
    obtain ⟨b1,b2,b3,b4,b5,b6⟩:=h.fl x hfm
    obtain ⟨t,ht⟩:∃t:Nat,x.to=t:=⟨x.to.toNat,by omega⟩
    obtain ⟨wi,hwi⟩:∃t:Nat,x.wire=t:=⟨x.wire.toNat,by omega⟩
    have hts:=Zps h hfm
    rw[ht,Int.toNat_natCast] at hts
    have p1:ZaM (L.map eFl) (.int .i64 (i:Int))=some (.int .i64 (i:Int)):=ZbG (by rw[List.length_map];exact hl)
    have q1:(L.map eFl)[i]?=some (eFl x):=by rw[List.getElem?_map,hf];rfl
    have hix:Zk (.lst (p.states.map ePs)) (.int .i64 (t:Int))=some (ePs (Zf6 p x)):=Zj hts
    have g4:=ZpF (Zf6 p x).values n.wires.length (hp.each _ (List.mem_of_getElem? hts))
    simp only[eFl] at q1
    simp only[ePs] at hix
    unfold okF
    cases c5:decide ((n.wires.length:Int)≤x.wire)
    ·cases c6:Z1 (Zf6 p x).values n.wires.length
     ·simp only[Zr hl,p1,q1,eFl,ePs,Int.toNat_natCast,List.length_map,List.drop_succ_cons,List.drop_zero,ht,hix,c5,g4,c6,Bool.false_eq_true,if_false,EVS]
     ·have hvl:=(ZaN.1 c6).2
      have hwlt:wi<n.wires.length:=by simp only[decide_eq_false_iff_not] at c5;omega
      have hb:Zao (.str (Zf6 p x).values) (.int .i64 (wi:Int))=some (pU ((Zf6 p x).values[wi]'(by omega))):=Zq (List.getElem?_eq_getElem (by omega))
      have hwr:Zk (.lst (n.wires.map Zn)) (.int .i64 (wi:Int))=some (Zn n.wires[wi]):=Zj (List.getElem?_eq_getElem hwlt)
      have hnm:Zct n wi=n.wires[wi].name:=by unfold Zct;rw[List.getElem?_eq_getElem hwlt]
      have hnl:=Zi0 c0 wi
      rw[hnm] at hnl
      have ha:∀b:UInt8,Zd .add TD.str (.str n.wires[wi].name) (.str [b])=some (.str (n.wires[wi].name++[b])):=fun b=>ZbH (by simp;omega)
      have hla:acc.length+[PV.str (ZeW n p x)].length≤4294967296∧[PV.str (ZeW n p x)].all (Zal 1)=true:=⟨by simp;omega,rfl⟩
      have hps:acc.map PV.str++[PV.str (ZeW n p x)]=(acc++[ZeW n p x]).map PV.str:=by simp
      have hwf:ZeW n p x=n.wires[wi].name++[if decide ((((Zf6 p x).values[wi]'(by omega)).toNat:Int)=49)=true then 43 else 45]:=by
       unfold ZeW ZfN sgnB
       rw[hwi,Int.toNat_natCast,hnm,List.getElem?_eq_getElem (show wi<(Zf6 p x).values.length by omega)]
      rw[hwf] at hla hps⊢
      simp only[hwi] at q1 c5
      cases c7:decide ((((Zf6 p x).values[wi]'(by omega)).toNat:Int)=49)<;>simp only[c7,Bool.false_eq_true,if_false,if_true] at hla hps<;>
       simp only[Zr hl,Zi hl (show L.length≤9223372036854775807 by omega),p1,q1,eFl,ePs,Zn,Int.toNat_natCast,List.length_map,List.drop_succ_cons,List.drop_zero,ht,hwi,hix,c5,g4,c6,c7,hb,hwr,ha,if_pos hla,hps,Bool.false_eq_true,if_false,if_true,EVS]<;>exact (congrArg (fun m:Option PV=>m.bind fun x=>again [x,PV.int IntKind.i64 ((i+1:Nat):Int)]) (if_pos hla)).trans (congrArg (fun l=>again [.lst l,pI ((i+1:Nat):Int)]) hps)
    ·simp only[Zr hl,p1,q1,eFl,ePs,Int.toNat_natCast,List.length_map,List.drop_succ_cons,List.drop_zero,ht,hix,c5,Bool.false_eq_true,if_false,EVS]
   ·have hs:ZbX [.lst (acc.map PV.str),.str [32]]=some (.str (Lib.join acc [32])):=by
     have hj:=ZsR acc hi.2
     show (match ZlD (acc.map PV.str) with
      |some xs=>if xs.length≤140737488355328∧(Lib.join xs [32]).length≤140737488355328 then some (PV.str (Lib.join xs [32])) else none
      |none=>none)=_
     rw[Zqn]
     show (if _ then _ else _)=_
     rw[if_pos ⟨by omega,by omega⟩]
    simp only[ZV,EVS]
    exact congrArg (Option.map fun x=>PV.tup [x,pB true]) hs
   ·cases hall:L.all (okF n p)
    ·simp only[cf,Bool.false_eq_true,if_false,and_false,true_and];rfl
    ·simp only[cf,if_true,and_self,List.nil_append];rfl
  ·rw[if_neg cf] at g3
   rw[if_neg (fun h=>cf h.2.1)]
   simp only[ZK,ZR,List.length_map,hw,g0,g1,g2,g3,EVS]
   have hs:ZbX [.lst [],.str [32]]=some (.str []):=by
    exact if_pos (e:=(none:Option PV)) (show ([]:List (List UInt8)).length≤140737488355328∧(Lib.join [] [32]).length≤140737488355328 from ⟨by simp,by simp[Lib.join_nil]⟩)
   refine (congrArg (fun m:Option PV=>m.bind fun r=>if r.sc=true then some r else none) (ZaP (R:=PV) (fun _:Unit=>[.lst [],pI 0]) (fun _=>0) (fun _=>some (.tup [.str [],pB false])) _ (fun again _ _=> ?_) 18446744073709551616 () (by omega))).trans rfl
   simp only[List.length_nil,show decide ((((0:Nat):Int))<((0:Nat):Int))=false from rfl,show decide ((0:Int)<0)=false from rfl,EVS]
   exact congrArg (Option.map fun x=>PV.tup [x,pB false]) hs
theorem Zg7 (n:PNet) (p:ProdG) (k:Int) (hn:n.Fit) (hp:PrFit p):ZdA [Zo n,ePr p,pI k]=some (.tup [.str (ffP n p k).1,pB (ffP n p k).2]):=by
 have g0:=ZnP n hn
 have g1:=Zu9 p hp
 have g2:=ZaJ k 0 ((p.states.length:Int) - 1)
 have hst:=hp.states
 unfold ZA at hst
 have hw:IntKind.i64.wrap ((p.states.length:Int) - 1)=(p.states.length:Int) - 1:=Zaw (by omega) (by omega)
 show (fun x0 x1 x2=>ZdA [x0,x1,x2]) _ _ _=_
 rw[Zni]
 unfold ffP
 cases hok:Zpt n p k
 ·rw[if_neg (by simp)]
  unfold Zpt ZuO inR at hok
  simp only[ePr,Zo] at g0 g1⊢
  cases c0:Zdm n
  ·rw[c0] at g0;simp only[ZK,ZR,g0,EVS];rfl
  cases c1:Zje p
  ·rw[c0] at g0;rw[c1] at g1;simp only[ZK,ZR,g0,g1,EVS];rfl
  ·rw[c0] at g0
   rw[c1] at g1
   rw[c0,c1,Bool.true_and,Bool.true_and] at hok
   rw[hok] at g2
   simp only[ZK,ZR,List.length_map,hw,g0,g1,g2,EVS];rfl
 ·obtain ⟨c0,h,m,rfl,hm⟩:=ZyA hok
  unfold Zpt ZuO inR at hok
  rw[Bool.and_eq_true,Bool.and_eq_true] at hok
  rw[c0] at g0
  rw[hok.2.1] at g1
  rw[hok.2.2] at g2
  have g3:=ZwR p m h hm
  have hwl:=Zmf h hm
  have hn24:=(ZaQ c0).2
  rw[Int.toNat_natCast]
  simp only[ePr] at g1 g3⊢
  have g0':=g0
  simp only[Zo] at g0'
  by_cases cf:0≤Zpq p m
  ·rw [if_pos cf] at g3
   simp only[Zo,ZK,ZR,List.length_map,hw,g0',g1,g2,g3,EVS]
   refine (congrArg (fun m:Option PV=>m.bind fun r=>if r.sc=true then some r else none) ((ZaI (R:=PV) (ZdQ p m) (fun (acc:List (List UInt8)) i=>[.str (Lib.join acc [32]),pI (Int.ofNat i)]) (fun i acc=>acc.length=i∧∀x∈acc,x.length≤7) (fun (acc:List (List UInt8)) _ f=>if okF n p (ZaA p f)=true then .inl (acc++[ZeW n p (ZaA p f)]) else .inr (some (.tup [.str [],pB false]))) (fun l=>some (.tup [.str (Lib.join l [32]),pB true])) _ (by omega) (fun acc i x acc' hi hf he=> ?_) (fun again acc i j hi hf=> ?_) (fun again acc hi=> ?_) (b:=[]) ⟨rfl,by simp⟩).trans (ZsS (fun f=>okF n p (ZaA p f)) (fun f=>ZeW n p (ZaA p f)) _ _ _ _ _))).trans ?_
   ·split at he
    ·cases he
     refine ⟨by simp[hi.1],fun y hy=> ?_⟩
     rcases List.mem_append.1 hy with hy|hy
     ·exact hi.2 y hy
     ·rw[List.mem_singleton] at hy;subst hy;exact Zmh c0 _ _
    ·cases he
   ·have hl:=Ze hf
    have hjl:=Zme j (List.mem_of_getElem? hf)
    have hfg:=Zmg hjl
    obtain ⟨x,hx⟩:∃x,ZaA p j=x:=⟨_,rfl⟩
    rw[hx] at hfg⊢
    have hfm:x∈p.flips:=List.mem_of_getElem? hfg
    obtain ⟨b1,b2,b3,b4,b5,b6⟩:=h.fl x hfm
    obtain ⟨t,ht⟩:∃t:Nat,x.to=t:=⟨x.to.toNat,by omega⟩
    obtain ⟨wi,hwi⟩:∃t:Nat,x.wire=t:=⟨x.wire.toNat,by omega⟩
    have hts:=Zps h hfm
    rw[ht,Int.toNat_natCast] at hts
    have p1:ZaM ((ZdQ p m).map eN) (.int .i64 (i:Int))=some (.int .i64 (i:Int)):=ZbG (by rw[List.length_map];exact hl)
    have q1:((ZdQ p m).map eN)[i]?=some (pI (j:Int)):=by rw[List.getElem?_map,hf];rfl
    have hfx:Zk (.lst (p.flips.map eFl)) (.int .i64 (j:Int))=some (eFl x):=Zj hfg
    have hix:Zk (.lst (p.states.map ePs)) (.int .i64 (t:Int))=some (ePs (Zf6 p x)):=Zj hts
    have g4:=ZpE (Zf6 p x).values n.wires.length (hp.each _ (List.mem_of_getElem? hts))
    simp only[eFl] at hfx
    simp only[ePs] at hix
    unfold okF
    cases c5:decide ((n.wires.length:Int)≤x.wire)
    ·cases c6:Z1 (Zf6 p x).values n.wires.length
     ·simp only[Zr hl,p1,q1,hfx,Int.toNat_natCast,List.length_map,List.drop_succ_cons,List.drop_zero,ht,hix,c5,g4,c6,Bool.false_eq_true,if_false,EVS]
     ·have hvl:=(ZaN.1 c6).2
      have hwlt:wi<n.wires.length:=by simp only[decide_eq_false_iff_not] at c5;omega
      have g5:=ZuQ n wi (Zf6 p x).values c0 hwlt hvl
      simp only[Zo] at g5
      have hwf:ZeW n p x=ZfN n (Zf6 p x).values wi:=by unfold ZeW;rw[hwi,Int.toNat_natCast]
      have hjn:=Zzt [32] acc (ZeW n p x)
      have hjl:=ZsR acc hi.2
      have hwl2:=Zmh c0 (Zf6 p x).values wi
      rw[hwf] at hjn⊢
      simp only[hwi] at hfx c5
      cases acc with
      | nil=>
       have hi0:i=0:=hi.1.symm
       subst hi0
       have ha:Zd .add TD.str (.str []) (.str (ZfN n (Zf6 p x).values wi))=some (.str (ZfN n (Zf6 p x).values wi)):=ZbH (by simp;omega)
       have hgt:decide ((0:Int)<(0:Int))=false:=rfl
       simp only[Int.natCast_zero] at p1
       have hnx:=Zi hl (show (ZdQ p m).length≤9223372036854775807 by omega)
       have hl0:=Zr hl
       simp only[Int.natCast_zero] at hl0 hnx
       simp only[hl0,hnx,p1,q1,hfx,Int.toNat_zero,List.length_map,List.drop_succ_cons,List.drop_zero,ZK,ht,hwi,hix,c5,g4,c6,g5,hgt,Lib.join_nil,ha,List.nil_append,Lib.join_one,Bool.false_eq_true,if_false,if_true,EVS]
      | cons a r=>
       have hgt:decide ((0:Int)<(i:Int))=true:=by have:=hi.1;simp only[List.length_cons] at this;simp only[decide_eq_true_eq];omega
       dsimp only at hjn
       have hi1:=hi.1
       have ha1:Zd .add TD.str (.str (Lib.join (a::r) [32])) (.str [(32:UInt8)])=some (.str (Lib.join (a::r) [32]++[32])):=ZbH (by simp only[List.length_cons,List.length_nil] at hjl hi1⊢;omega)
       have ha2:Zd .add TD.str (.str (Lib.join (a::r) [32]++[32])) (.str (ZfN n (Zf6 p x).values wi))=some (.str (Lib.join (a::r) [32]++[32]++ZfN n (Zf6 p x).values wi)):=ZbH (by simp only[List.length_append,List.length_cons,List.length_nil] at hjl hi1⊢;omega)
       simp only[Zr hl,Zi hl (show (ZdQ p m).length≤9223372036854775807 by omega),p1,q1,hfx,Int.toNat_natCast,List.length_map,List.drop_succ_cons,List.drop_zero,ZK,ht,hwi,hix,c5,g4,c6,g5,hgt,ha1,ha2,hjn,Bool.false_eq_true,if_false,if_true,EVS]
    ·simp only[Zr hl,p1,q1,hfx,Int.toNat_natCast,List.length_map,List.drop_succ_cons,List.drop_zero,ht,hix,c5,Bool.false_eq_true,if_false,EVS]
   ·simp only[ZV,EVS]
   ·have hall:(((ZdQ p m).map (ZaA p)).all (okF n p))=(ZdQ p m).all fun f=>okF n p (ZaA p f):=by rw[List.all_map];rfl
    have hmm:(((ZdQ p m).map (ZaA p)).map (ZeW n p))=(ZdQ p m).map fun f=>ZeW n p (ZaA p f):=by rw[List.map_map];rfl
    rw[hall,hmm]
    cases hall:(ZdQ p m).all fun f=>okF n p (ZaA p f)
    ·simp only[cf,Bool.false_eq_true,if_false,and_false,true_and];rfl
    ·simp only[cf,if_true,and_self,List.nil_append];rfl
  ·rw[if_neg cf] at g3
   rw[if_neg (fun h=>cf h.2.1)]
   simp only[Zo,ZK,ZR,List.length_map,hw,g0',g1,g2,g3,EVS]
   rfl
def ZkE {α:Type} (q:α→Bool):Nat→List α→List Nat
 |_,[]=>[]
 |k,b::r=>if q b=true then k::ZkE q (k+1) r else ZkE q (k+1) r
theorem Zpu {R α:Type} (q:α→Bool) (e:List Nat→Option R):∀(l:List α) (k:Nat) (acc:List Nat),Z5 (fun (acc:List Nat) (k:Nat) (b:α)=>.inl (if q b=true then acc++[k] else acc)) e k acc l=e (acc++ZkE q k l)
 |[],k,acc=>by simp[Z5,ZkE]
 | b::r,k,acc=>by
  show Z5 _ e (k+1) (if q b=true then acc++[k] else acc) r=_
  rw[Zpu q e r]
  show _=e (acc++(if q b=true then k::ZkE q (k+1) r else ZkE q (k+1) r))
  cases c:q b
  ·simp
  ·simp[List.append_assoc]
def Zmi (c:PSG) (s:Nat):Bool:=(List.range c.signals.length).any fun k=> !inAt' c k&&decide (0≤toC c s k)
where inAt' (c:PSG) (k:Nat):Bool:=match c.signals[k]? with|some x=>decide (x.2=1)|none=>false
def ZwS (n:PNet) (v:List UInt8):Bool:=decide (((ZaX (Zp n v) n.wires.length).length:Int)=0)
def Ze2 (c:PSG) (n:PNet) (b:PSt):Bool:=ZwS n b.values&&Zmi c b.state.toNat
def Zm8 (c:PSG) (s:Nat) (a:PArc):Bool:=decide (a.from_=(s:Int))&& !Zmi.inAt' c a.sig.toNat
theorem ZA7 {c:PSG} {n:PNet} (h:Go1 c n) {s:Nat} (hs:s<c.codes.length):(c.arcs.any (Zm8 c s))=Zmi c s:=by
 rw[Bool.eq_iff_iff,List.any_eq_true]
 unfold Zmi
 rw[List.any_eq_true]
 constructor
 ·rintro ⟨a,ha,hq⟩
  unfold Zm8 at hq
  rw[Bool.and_eq_true,decide_eq_true_eq] at hq
  obtain ⟨b1,b2,b3,b4,b5,b6⟩:=h.arcs a ha
  refine ⟨a.sig.toNat,List.mem_range.2 (by omega), ?_⟩
  rw[hq.2,Bool.true_and,decide_eq_true_eq]
  rcases Zjd h hs (show a.sig.toNat<c.signals.length by omega) with ⟨b,hb,h1,h2⟩|⟨h1,h2⟩
  ·have:=h.arcs b hb;omega
  ·exact absurd ⟨hq.1,by omega⟩ (h2 a ha)
 ·rintro ⟨k,hk,hq⟩
  rw[Bool.and_eq_true,decide_eq_true_eq] at hq
  have hkl:=List.mem_range.1 hk
  rcases Zjd h hs hkl with ⟨b,hb,h1,h2⟩|⟨h1,h2⟩
  ·refine ⟨b,hb, ?_⟩
   unfold Zm8
   rw[h1.1,h1.2,Int.toNat_natCast,hq.1,Bool.and_true,decide_eq_true_eq]
  ·omega
theorem ZwT (c:PSG) (n:PNet) (h:Go1 c n) (s:Nat) (hs:s<c.codes.length):ZhF [eSG c,pI (s:Int)]=some (pB (Zmi c s)):=by
 have hl:=h.few
 show (fun x0 x1=>ZhF [x0,x1]) _ _=_
 rw[Zvb]
 simp only[eSG,List.length_map,EVS]
 refine (congrArg (fun m:Option PV=>m.bind fun r=>if r.sc=true then some r else none) (ZN (R:=PV) c.arcs (fun _ a=> !Zm8 c s a) (some (pB true)) (some (pB false)) _ (by omega) (fun again j a ha=> ?_) (fun again=> ?_))).trans ?_
 ·have hj:=Ze ha
  have hi:Zk (.lst (c.arcs.map Z2)) (.int .i64 (j:Int))=some (Z2 a):=Zj ha
  obtain ⟨b1,b2,b3,b4,b5,b6⟩:=h.arcs a (List.mem_of_getElem? ha)
  obtain ⟨g,hg⟩:∃g:Nat,a.sig=g:=⟨a.sig.toNat,by omega⟩
  have hgl:g<c.signals.length:=by omega
  have hsg:Zk (.lst (c.signals.map ZD)) (.int .i64 (g:Int))=some (ZD c.signals[g]):=Zj (List.getElem?_eq_getElem hgl)
  have hin:Zmi.inAt' c g=decide (c.signals[g].2=1):=by unfold Zmi.inAt';rw[List.getElem?_eq_getElem hgl]
  unfold Zm8
  rw[hg,Int.toNat_natCast,hin]
  simp only[Z2,hg] at hi
  cases c1:decide (a.from_=(s:Int))<;>cases c2:decide (c.signals[g].2=1)<;>simp only[Zr hj,Zi hj (show c.arcs.length≤9223372036854775807 by omega),hi,hg,Z2,c1,c2,hsg,List.drop_succ_cons,List.drop_zero,Bool.false_eq_true,if_false,if_true,EVS]
 ·simp only[ZV,EVS]
 ·rw[Zaj,←ZA7 h hs,List.any_eq_not_all_not]
  cases (c.arcs.all fun a=> !Zm8 c s a)<;>rfl
theorem ZsT (c:PSG) (n:PNet) (h:Go1 c n) (s:Nat) (v:List UInt8) (hs:s<c.codes.length) (hb:Z1 v n.wires.length=true):Zfm [eSG c,Zo n,ePs ⟨s,v⟩]=some (pB (Ze2 c n ⟨s,v⟩)):=by
 obtain ⟨h1,h2,h3,h4,h5,h6⟩:=h.vals hb
 have g1:=Zjc n v h.fitn h2 h1 (by omega)
 have g2:=ZwT c n h s hs
 show (fun x0 x1 x2=>Zfm [x0,x1,x2]) _ _ _=_
 rw[ZqX]
 unfold Ze2 ZwS
 rw[Int.toNat_natCast]
 simp only[eSG,Zo] at g1 g2
 cases c1:decide (((ZaX (Zp n v) n.wires.length).length:Int)=0)<;>simp only[eSG,Zo,ePs,ZK,ZR,g1,g2,List.length_map,c1,EVS]
def misL (c:PSG) (n:PNet) (P:ProdG):List Nat:=ZkE (Ze2 c n) 0 P.states
theorem Zpv (c:PSG) (n:PNet) (h:Go1 c n) (P:ProdG) (hP:PrU c n P):ZdW [eSG c,Zo n,ePr P]=some (.lst ((misL c n P).map eNn)):=by
 have hl:=hP.len
 show (fun x0 x1 x2=>ZdW [x0,x1,x2]) _ _ _=_
 rw[Zn8]
 simp only[eSG,Zo,ePr,List.length_map,EVS]
 refine (ZaI (R:=PV) P.states (fun (acc:List Nat) i=>[.lst (acc.map eNn),pI (Int.ofNat i)]) (fun i acc=>acc.length≤i) (fun (acc:List Nat) k b=>.inl (if Ze2 c n b=true then acc++[k] else acc)) (fun l=>some (.lst (l.map eNn))) _ (by omega) (fun acc i f acc' hi hf he=> ?_) (fun again acc i b hi hf=> ?_) (fun again acc hi=> ?_) (b:=[]) (by simp)).trans (Zpu (Ze2 c n) _ _ _ _)
 ·cases he
  split
  ·simp only[List.length_append,List.length_singleton];omega
  ·omega
 ·have hil:=Ze hf
  obtain ⟨s,hbe,hs,hbits⟩:=(hP.ok b (List.mem_of_getElem? hf)).mk'
  obtain ⟨v,hv⟩:∃v,b.values=v:=⟨_,rfl⟩
  rw[hv] at hbe hbits
  subst hbe
  have hix:Zk (.lst (P.states.map ePs)) (.int .i64 (i:Int))=some (ePs ⟨(s:Int),v⟩):=Zj hf
  have g:=ZsT c n h s v hs hbits
  have hlb:acc.length+[pI (i:Int)].length≤4294967296∧[pI (i:Int)].all (Zal 1)=true:=⟨by simp;omega,rfl⟩
  simp only[eSG,Zo,ePs] at g hix
  cases c1:Ze2 c n ⟨(s:Int),v⟩<;>rw[c1] at g<;>simp only[Zr hil,hix,ZK,ZR,sp2,g,if_pos hlb,Zi hil (show P.states.length≤9223372036854775807 by omega),List.map_append,List.map_cons,List.map_nil,eNn,Bool.false_eq_true,if_false,if_true,EVS]
 ·simp only[ZV,EVS]
def ZkZ (c:PSG) (k:Nat):List Nat:=(List.range k).filter fun k=> !Zmi.inAt' c k
theorem ZuR (c:PSG) (hl:c.signals.length≤8):Zgg [eSG c]=some (.lst ((ZkZ c c.signals.length).map eNn)):=by
 show (fun x0=>Zgg [x0]) _=_
 rw[Zs6]
 simp only[eSG,List.length_map,EVS]
 refine (Zel (R:=PV) 0 c.signals.length (fun k=>[.lst ((ZkZ c k).map eNn),pI (Int.ofNat k)]) (some (.lst ((ZkZ c c.signals.length).map eNn))) _ (by omega) (fun again k k1 k2=> ?_) (fun again=> ?_) (Nat.zero_le _) _ (by simp[ZkZ]))
 ·have hsg:Zk (.lst (c.signals.map ZD)) (.int .i64 (k:Int))=some (ZD c.signals[k]):=Zj (List.getElem?_eq_getElem k2)
  have hin:Zmi.inAt' c k=decide (c.signals[k].2=1):=by unfold Zmi.inAt';rw[List.getElem?_eq_getElem k2]
  have hcl:(ZkZ c k).length≤k:=ZeV _ k
  have hlb:(ZkZ c k).length+[pI (k:Int)].length≤4294967296∧[pI (k:Int)].all (Zal 1)=true:=⟨by simp;omega,rfl⟩
  have hm:c.signals.length≤9223372036854775807:=by omega
  cases c1:decide (c.signals[k].2=1)<;>rw[c1] at hin
  ·have e1:ZkZ c (k+1)=ZkZ c k++[k]:=ZeU (by rw[hin];rfl)
   simp only[Zr k2,hsg,sp2,ZK,c1,if_pos hlb,Zi k2 hm,e1,List.map_append,List.map_cons,List.map_nil,eNn,EVS]
  ·have e1:ZkZ c (k+1)=ZkZ c k:=Zdz (by rw[hin];rfl)
   simp only[Zr k2,hsg,sp2,ZK,c1,Zi k2 hm,e1,EVS]
 ·simp only[ZV,EVS]
theorem drop5 (a b c d e f:PV):List.drop 5 [a,b,c,d,e,f]=[f]:=rfl
theorem ZsU (c:PSG) (n:PNet) (k s:Nat) (v:List UInt8) (hs:s<c.codes.length) (hk:k<c.signals.length) (A:PV) (hA:A=Zb2 c n):ZbD [pI (k:Int),A,ePs ⟨s,v⟩]=some (pB (decide (0≤toC c s k))):=by
 subst hA
 obtain ⟨row,r1,r2⟩:=Zma c hs hk
 show (fun x0 x1 x2=>ZbD [x0,x1,x2]) _ _ _=_
 rw[Zjh]
 simp only[Zb2,ePs,drop5,List.drop_zero,r1,r2,EVS]
theorem Zi1 (c:PSG) (n:PNet) (s:Nat) (v:List UInt8) (hs:s<c.codes.length) (l:List Nat) (hl:∀k∈l,k<c.signals.length) (h8:l.length≤8):
 ZE [.lst (l.map eNn),.tup [Zb2 c n,ePs ⟨s,v⟩]]=some (pI (ixf (fun k=>decide (0≤toC c s k)) 0 l)):=by
 show (fun x0 x1=>ZE [x0,x1]) _ _=_
 rw[ZbN]
 simp only[EVS]
 refine (congrArg (fun m:Option PV=>m.bind fun r=>if r.sc=true then some r else none) (Zc4 l (fun k=>decide (0≤toC c s k)) _ (by omega) (fun again j k hx=> ?_) (fun again=> ?_))).trans ?_
 ·have hj:=Ze hx
  have hi:Zk (.lst (l.map eNn)) (.int .i64 (j:Int))=some (pI (k:Int)):=Zj (enc:=eNn) hx
  have g:=ZsU c n k s v hs (hl k (List.mem_of_getElem? hx)) _ rfl
  simp only[Zb2,ePs] at g
  cases c1:decide (0≤toC c s k)<;>rw[c1] at g<;>simp only[Zb2,ePs,List.length_map,Zr hj,Zi hj (show l.length≤9223372036854775807 by omega),hi,capsAB,g,List.append_nil,List.cons_append,List.nil_append,Bool.false_eq_true,if_false,if_true,EVS]
 ·simp only[List.length_map,ZV,EVS]
  rfl
 ·simp only[EVS]
theorem Zg8 (c:PSG) (n:PNet) (s:Nat) (v:List UInt8) (hs:s<c.codes.length) (l:List Nat) (hl:∀k∈l,k<c.signals.length) (h8:l.length≤8):
 Zv [.lst (l.map eNn),.tup [Zb2 c n,ePs ⟨s,v⟩]]=some (pB (l.any fun k=>decide (0≤toC c s k))):=by
 have g:=Zi1 c n s v hs l hl h8
 show (fun x0 x1=>Zv [x0,x1]) _ _=_
 rw[Zbj]
 simp only[g,Ze3 (fun k=>decide (0≤toC c s k)) l 0,EVS]
 rw[Zaj,List.any_eq_not_all_not]
theorem ZwU (c:PSG) (n:PNet) (h:Go1 c n) (s:Nat) (v:List UInt8) (hs:s<c.codes.length) (hb:Z1 v n.wires.length=true):ZcE [Zb2 c n,ePs ⟨s,v⟩]=some (pB (Ze2 c n ⟨s,v⟩)):=by
 obtain ⟨h1,h2,h3,h4,h5,h6⟩:=h.vals hb
 have hsm:=h.smany
 have g1:=Zne n v h.fitn h2 h1 (by omega)
 have g2:=ZuR c hsm
 have hol:(ZkZ c c.signals.length).length≤8:=by have:=ZeV (fun k=> !Zmi.inAt' c k) c.signals.length;unfold ZkZ;omega
 have g3:=Zg8 c n s v hs (ZkZ c c.signals.length) (fun k hk=>List.mem_range.1 (List.mem_filter.1 hk).1) hol
 have hany:((ZkZ c c.signals.length).any fun k=>decide (0≤toC c s k))=Zmi c s:=by
  unfold ZkZ Zmi
  rw[List.any_filter]
 rw[hany] at g3
 show (fun x0 x1=>ZcE [x0,x1]) _ _=_
 rw[Zlb]
 unfold Ze2 ZwS
 rw[Int.toNat_natCast]
 have hpv:Zb true 0 3 [PV.lst (c.signals.map ZD),.lst (c.codes.map PV.str),.lst (c.arcs.map Z2),.lst (n.signals.map ZD),.lst (n.wires.map Zn),.lst ((ZnV c).map ZtK)]=some (.agg [.lst (c.signals.map ZD),.lst (c.codes.map PV.str),.lst (c.arcs.map Z2)]):=rfl
 simp only[eSG,Zo,Zb2,ePs] at g1 g2 g3
 cases c1:Zmi c s<;>rw[c1] at g3<;>cases c2:decide (((ZaX (Zp n v) n.wires.length).length:Int)=0)<;>simp only[Zb2,ePs,hpv,Zm3,g1,g2,g3,c2,List.drop_zero,List.length_map,EVS]
theorem ZuS (c:PSG) (n:PNet) (h:Go1 c n) (P:ProdG) (hP:PrU c n P):Zca [Zb2 c n,ePr P]=some (.lst ((misL c n P).map eNn)):=by
 have hl:=hP.len
 show (fun x0 x1=>Zca [x0,x1]) _ _=_
 rw[Zkk]
 simp only[Zb2,ePr,List.length_map,EVS]
 refine (ZaI (R:=PV) P.states (fun (acc:List Nat) i=>[.lst (acc.map eNn),pI (Int.ofNat i)]) (fun i acc=>acc.length≤i) (fun (acc:List Nat) k b=>.inl (if Ze2 c n b=true then acc++[k] else acc)) (fun l=>some (.lst (l.map eNn))) _ (by omega) (fun acc i f acc' hi hf he=> ?_) (fun again acc i b hi hf=> ?_) (fun again acc hi=> ?_) (b:=[]) (by simp)).trans (Zpu (Ze2 c n) _ _ _ _)
 ·cases he
  split
  ·simp only[List.length_append,List.length_singleton];omega
  ·omega
 ·have hil:=Ze hf
  obtain ⟨s,hbe,hs,hbits⟩:=(hP.ok b (List.mem_of_getElem? hf)).mk'
  obtain ⟨v,hv⟩:∃v,b.values=v:=⟨_,rfl⟩
  rw[hv] at hbe hbits
  subst hbe
  have hix:Zk (.lst (P.states.map ePs)) (.int .i64 (i:Int))=some (ePs ⟨(s:Int),v⟩):=Zj hf
  have g:=ZwU c n h s v hs hbits
  have hlb:acc.length+[pI (i:Int)].length≤4294967296∧[pI (i:Int)].all (Zal 1)=true:=⟨by simp;omega,rfl⟩
  simp only[Zb2,ePs] at g hix
  cases c1:Ze2 c n ⟨(s:Int),v⟩<;>rw[c1] at g<;>simp only[Zr hil,hix,ZK,Zn4,sp2,g,if_pos hlb,Zi hil (show P.states.length≤9223372036854775807 by omega),List.map_append,List.map_cons,List.map_nil,eNn,Bool.false_eq_true,if_false,if_true,EVS]
 ·simp only[ZV,EVS]
def Zi2 (c:PSG) (n:PNet):Option ProdG:=if goP c n=true then Zff c n else none
theorem ZuT {c:PSG} {n:PNet} (hc:SGFit c) (hn:n.Fit) {P:ProdG} (h:Zi2 c n=some P):goP c n=true∧PrU c n P:=by
 unfold Zi2 at h
 split at h
 ·rename_i hg;exact ⟨hg,ZiY (Znf hg hc hn) h⟩
 ·cases h
theorem ZsV (c:PSG) (n:PNet) (hc:SGFit c) (hn:n.Fit):Zgy [eSG c,Zo n]=some (prR (Zi2 c n)):=by
 have g0:=ZzC c n hc hn
 show (fun x0 x1=>Zgy [x0,x1]) _ _=_
 rw[ZtD]
 unfold Zi2
 cases c0:goP c n
 ·rw[c0] at g0
  simp only[eSG,Zo] at g0
  simp only[eSG,Zo,ZK,ZR,g0,Zf5,Bool.false_eq_true,if_false,EVS]
  rfl
 ·rw[c0] at g0
  have g1:=Zpn c n (Znf c0 hc hn)
  simp only[eSG,Zo] at g0 g1
  rw[if_pos rfl]
  cases hp:Zff c n with
  | none=>
   rw[hp] at g1
   simp only[prR,Zmb] at g1
   simp only[eSG,Zo,ZK,ZR,g0,g1,Zf5,EVS]
   rfl
  | some P=>
   rw[hp] at g1
   simp only[prR,ePr] at g1
   simp only[eSG,Zo,ZK,ZR,g0,g1,Zf5,EVS]
   rfl
theorem Zpw (c:PSG) (n:PNet) (hc:SGFit c) (hn:n.Fit):ZeF [eSG c,Zo n]=some (match Zi2 c n with|some P=>.tup [Zb2 c n,ePr P,pB true]|none=>.tup [if goP c n=true then Zb2 c n else zSys,Zmb,pB false]):=by
 have g0:=ZqU c n hc hn
 show (fun x0 x1=>ZeF [x0,x1]) _ _=_
 rw[Zp8]
 unfold Zi2
 cases c0:goP c n
 ·rw[c0] at g0
  simp only[eSG,Zo,zSys,Bool.false_eq_true,if_false] at g0
  simp only[eSG,Zo,ZK,ZR,g0,Zph,Zn4,Zf5,Bool.false_eq_true,if_false,EVS]
  rfl
 ·rw[c0] at g0
  have g1:=ZsI c n (Znf c0 hc hn)
  simp only[eSG,Zo,Zb2,if_true] at g0
  simp only[Zb2] at g1
  rw[if_pos rfl]
  cases hp:Zff c n with
  | none=>
   rw[hp] at g1
   simp only[prR,Zmb] at g1
   simp only[eSG,Zo,ZK,ZR,g0,g1,Zph,Zn4,Zf5,EVS]
   rfl
  | some P=>
   rw[hp] at g1
   simp only[prR,ePr] at g1
   simp only[eSG,Zo,ZK,ZR,g0,g1,Zph,Zn4,Zf5,EVS]
   rfl
def Rc (P:ProdG):Prop:=∀m:Nat,0<m→m<P.states.length→∃f∈P.flips,f.to=(m:Int)∧0≤f.from_∧f.from_<m
theorem Rc.add {P:ProdG} (h:Rc P) {k w:Nat} {b:PSt} (hk:k<P.states.length):Rc (Zc3 k P w b):=by
 unfold Zc3
 split
 ·intro m h0 hm
  obtain ⟨f,hf,hh⟩:=h m h0 hm
  exact ⟨f,List.mem_append_left _ hf,hh⟩
 ·intro m h0 hm
  by_cases c:m<P.states.length
  ·obtain ⟨f,hf,hh⟩:=h m h0 c
   exact ⟨f,List.mem_append_left _ hf,hh⟩
  ·simp only[List.length_append,List.length_singleton] at hm
   refine ⟨_,List.mem_append_right _ (List.mem_singleton.2 rfl), ?_, ?_, ?_⟩
   ·dsimp only;omega
   ·dsimp only;omega
   ·dsimp only;omega
theorem Rc.ins {c:PSG} {n:PNet} {k s:Nat} {v:List UInt8}:∀(l:List Nat) (P:ProdG),Rc P→k<P.states.length→Rc (inU c n k s v l P)
 |[],P,h,_=>h
 | w::r,P,h,hk=>by
  unfold inU
  refine Rc.ins r _ (h.add hk) ?_
  have:=(Zg6 k P w (Zas c n s v w)).1
  omega
theorem ZyB {c:PSG} {n:PNet}:∀(f k:Nat) (P Q:ProdG),Rc P→Zkh c n f k P=some Q→Rc Q
 |0,k,P,Q,hP,he=>by cases he;exact hP
 | f+1,k,P,Q,hP,he=>by
  unfold Zkh at he
  split at he
  ·cases he;exact hP
  ·rename_i b hb
   split at he
   ·cases he
   ·exact ZyB f (k+1) (rdU c n k b P) Q (fun m h0 hm=>Rc.ins (ZaE c n b.state.toNat b.values n.wires.length) P hP (List.getElem?_eq_some_iff.1 hb).1 m h0 hm) he
theorem ZA8 {c:PSG} {n:PNet} {P:ProdG} (he:Zff c n=some P):Rc P:=ZyB 601 0 _ P (fun m h0 hm=>by simp at hm;omega) he
theorem Rc.walk {P:ProdG} (h:Rc P):∀(m:Nat),m<P.states.length→∃d,Walk (esF P.flips) 0 d m:=by
 intro m
 induction m using Nat.strongRecOn with
 | ind m ih=>
  intro hm
  by_cases c:m=0
  ·subst c;exact ⟨0,.zero⟩
  ·obtain ⟨f,hf,h1,h2,h3⟩:=h m (by omega) hm
   obtain ⟨d,hd⟩:=ih f.from_.toNat (by omega) (by omega)
   refine ⟨d+1,.step hd ?_⟩
   unfold esF
   refine List.mem_map.2 ⟨f,hf, ?_⟩
   rw[h1]
   rfl
theorem Rc.far {P:ProdG} (h:Rc P) (hp:PrOk P) {m:Nat} (hm:m<P.states.length):0≤Zpq P m:=by
 obtain ⟨d,hd⟩:=h.walk m hm
 exact (hp.dist.least d m hd hm).1
theorem ZuU {c:PSG} {n:PNet} (hg:Go1 c n) {P:ProdG} (he:Zff c n=some P):Zje P=true:=by
 have hP:=ZiY hg he
 have h6:=ZwP hg he
 have hw:=(ZaQ hg.net).2
 have h1:=hP.one
 have h2:=hP.len
 unfold Zje inR
 simp only[Bool.and_eq_true,decide_eq_true_eq,List.all_eq_true]
 refine ⟨⟨⟨by omega,by omega⟩,by omega⟩,fun f hf=> ?_⟩
 have:=hP.fl f hf
 unfold Ziu inR
 simp only[Bool.and_eq_true,decide_eq_true_eq]
 omega
def ffT (n:PNet) (P:ProdG) (m:Nat):List UInt8:=Lib.join (((ZdQ P m).map (ZaA P)).map (ZeW n P)) [32]
theorem ZwV {c:PSG} {n:PNet} (hg:Go1 c n) {P:ProdG} (he:Zff c n=some P) {m:Nat} (hm:m<P.states.length):ffP n P (m:Int)=(ffT n P m,true)∧(ffT n P m).length≤4800:=by
 have hP:=ZiY hg he
 have hp:=ZuU hg he
 have ho:=ZuI hp
 have hv:=hg.net
 have hfl:∀f∈(ZdQ P m).map (ZaA P),okF n P f=true:=by
  intro f hf
  obtain ⟨i,hi,rfl⟩:=List.mem_map.1 hf
  have hi:=Zme i hi
  have hmem:ZaA P i∈P.flips:=List.mem_of_getElem? (Zmg hi)
  have hb:=hP.fl _ hmem
  have hs:=Zps ho hmem
  obtain ⟨s,_,_,hbit⟩:=hP.ok _ (List.mem_of_getElem? hs)
  unfold okF
  rw[hbit,Bool.and_true,Bool.not_eq_true',decide_eq_false_iff_not]
  omega
 constructor
 ·have q1:Zpt n P (m:Int)=true:=by
   unfold Zpt ZuO inR
   rw[hv,hp]
   simp only[Bool.true_and,Bool.and_eq_true,decide_eq_true_eq]
   omega
  have q2:0≤Zpq P ((m:Int).toNat):=(ZA8 he).far ho hm
  have q3:(((ZdQ P ((m:Int).toNat)).map (ZaA P)).all (okF n P))=true:=List.all_eq_true.2 hfl
  unfold ffP
  rw[if_pos ⟨q1,q2,q3⟩]
  rfl
 ·have h1:=Zmf ho hm
  have:=ZsR (((ZdQ P m).map (ZaA P)).map (ZeW n P)) fun x hx=>by
   obtain ⟨f,_,rfl⟩:=List.mem_map.1 hx
   exact Zmh hv _ _
  rw[List.length_map,List.length_map] at this
  unfold ffT
  omega
def spW (t w:List UInt8):List UInt8:=if t=[] then w else t++[32]++w
def ZA9 :List UInt8:=[109,105,115,115,105,110,103]
def Zzv :List UInt8:=[99,111,110,102,111,114,109,115]
def crT (c:PSG) (n:PNet) (P:ProdG):List UInt8:=
 match P.extra with
 |x::_=>spW (ffT n P x.from_.toNat) (Zct n x.wire.toNat++[33])
 | []=>match misL c n P with
  |m::_=>spW (ffT n P m) ZA9
  |[]=>Zzv
def crP (c:PSG) (n:PNet):List UInt8×Bool:=match Zi2 c n with|some P=>(crT c n P,true)|none=>([],false)
theorem ZuV {α:Type} (q:α→Bool):∀(l:List α) (k:Nat),∀x∈ZkE q k l,k≤x∧x<k+l.length
 |[],k,x,hx=>by simp[ZkE] at hx
 | a::l,k,x,hx=>by
  unfold ZkE at hx
  have ih:=ZuV q l (k+1) x
  rw[List.length_cons]
  split at hx
  ·rcases List.mem_cons.1 hx with rfl|hx
   ·omega
   ·have:=ih hx;omega
  ·have:=ih hx;omega
theorem ZyC {c:PSG} {n:PNet} {P:ProdG} {m:Nat} (h:m∈misL c n P):m<P.states.length:=by
 have:=ZuV (Ze2 c n) P.states 0 m h
 omega
theorem Zpx {n:PNet} {k:Nat} (h:k<n.wires.length):n.wires[k]?=some n.wires[k]∧Zct n k=n.wires[k].name:=by
 refine ⟨List.getElem?_eq_getElem h, ?_⟩
 unfold Zct
 rw[List.getElem?_eq_getElem h]
theorem ZyD {c:PSG} {n:PNet} {P:ProdG} (hg:Go1 c n) (hP:PrU c n P):PrFit P:=by
 have h1:=hP.len
 have h2:=hP.few
 have hw:=(ZaQ hg.net).2
 refine ⟨by unfold ZA;omega,fun b hb=> ?_,by unfold ZA;omega⟩
 obtain ⟨s,_,_,hbit⟩:=hP.ok b hb
 have:=(ZaN.1 hbit).2
 unfold ZA
 omega
theorem Zpy (t w:List UInt8) (h:t.length≤4800) (hw:w.length≤100):ZdZ [.str t,.str w]=some (.str (spW t w)):=by
 have a1:∀b:UInt8,Zd .add TD.str (.str t) (.str [b])=some (.str (t++[b])):=fun b=>ZbH (by simp;omega)
 have a2:∀b:UInt8,Zd .add TD.str (.str (t++[b])) (.str w)=some (.str (t++[b]++w)):=fun b=>ZbH (by simp;omega)
 show (fun x0 x1=>ZdZ [x0,x1]) _ _=_
 rw[Zoc]
 unfold spW
 by_cases c:t=[]
 ·have c1:decide (t=[])=true:=decide_eq_true c
  simp only[c1,if_pos c,EVS]
  try rfl
 ·have c1:decide (t=[])=false:=decide_eq_false c
  simp only[c1,if_neg c,a1,a2,EVS]
  try rfl
theorem Zmj {c:PSG} {n:PNet} (hn:n.Fit) (hg:Go1 c n) {P:ProdG} (he:Zff c n=some P) {m:Nat} (hm:m<P.states.length) (w:List UInt8) (hw:w.length≤100):
 Zd0 [Zo n,ePr P,pI (m:Int),.str w]=some (.tup [.str (spW (ffT n P m) w),pB true]):=by
 have g0:=Zm7 n P (m:Int) hn (ZyD hg (ZiY hg he))
 obtain ⟨h1,h2⟩:=ZwV hg he hm
 rw[h1] at g0
 have g1:=Zpy (ffT n P m) w h2 hw
 show (fun x0 x1 x2 x3=>Zd0 [x0,x1,x2,x3]) _ _ _ _=_
 rw[Zq1]
 simp only[ePr,Zo] at g0
 simp only[ePr,Zo,ZK,ZR,g0,g1,EVS]
 try rfl
theorem to_Arc (a:PArc):Zj3 [Z2 a]=some (Z2 a):=by
 show (fun x0=>Zj3 [x0]) _=_
 rw[Zxo]
 simp only[Z2,EVS]
theorem eq_Arc (a:PArc):Zj1 [Z2 a,Z2 a]=some (pB true):=by
 show (fun x0 x1=>Zj1 [x0,x1]) _ _=_
 rw[Zxk]
 simp only[Z2,beq_self_eq_true,EVS]
theorem ZB2 (xs:List (PArc)) (l:Int) (hb:(xs).length≤9223372036854775807) (h0:0≤l) (h1:l≤1048576):ZaK (Zib [.lst (xs.map Z2),pI l]) l ((xs).length≤1048576):=by
 have hx:xs.length≤9223372036854775807:=hb
 show ZaK ((fun x0 x1=>Zib [x0,x1]) _ _) _ _
 rw[ZvB]
 have w1:IntKind.i64.wrap (l - (xs.length:Int))=l - (xs.length:Int):=Zaw (by omega) (by omega)
 simp only[w1,List.length_map,EVS]
 by_cases c:l - (xs.length:Int)<0
 ·simp only[c,EVS];exact ZaK.neg h0
 ·simp only[c,EVS];exact ZaK.pos (by omega) (by omega)
theorem ZB3 (xs:List (PArc)) (hb:(xs).length≤1048576):Zif [.lst (xs.map Z2)]=some (.lst (xs.map Z2)):=by
 have hx:xs.length≤1048576:=hb
 show (fun x0=>Zif [x0]) _=_
 rw[ZvH]
 simp only[ZtX _ _ (show xs.length≤4294967296 by omega),List.length_map,EVS]
 refine ZoE xs Z2 4 _ _ (by omega) ?_ (fun _=> ?_) (fun _=> ?_) (fun again k x row el hk hl he hs=> ?_) (fun again row=> ?_)
 ·rfl
 ·rfl
 ·exact ⟨fun _=>⟨_,rfl⟩,fun _=>⟨_,rfl⟩⟩
 ·have hi:Zk (.lst (xs.map Z2)) (.int .i64 (k:Int))=some ((Z2 x)):=Zj hk
  have hkr:k<row.length:=by rw[hl];exact Ze hk
  have g1:=to_Arc x
  simp only[Z2] at g1 hi hs
  simp only[Z2,Zr (Ze hk),Zi (Ze hk) (show xs.length≤9223372036854775807 by omega),hi,g1,ZbG hkr,he,hs,EVS]
 ·simp only[ZV,EVS]
theorem ZB4 (xs:List (PArc)) (hb:(xs).length≤9223372036854775807):Zh7 [.lst (xs.map Z2),.lst (xs.map Z2)]=some (pB true):=by
 have hx:xs.length≤9223372036854775807:=hb
 show (fun x0 x1=>Zh7 [x0,x1]) _ _=_
 rw[Zvv]
 simp only[List.length_map,EVS]
 refine (congrArg (fun m:Option PV=>m.bind fun r=>if r.sc=true then some r else none) (ZN (R:=PV) xs (fun _ _=>true) (some (pB false)) (some (pB true)) _ hx (fun again k x hk=> ?_) (fun again=> ?_))).trans ?_
 ·have hi:Zk (.lst (xs.map Z2)) (.int .i64 (k:Int))=some ((Z2 x)):=Zj hk
  have g1:=eq_Arc x
  simp only[Z2] at g1 hi
  simp only[Zr (Ze hk),Zi (Ze hk) hx,hi,g1,EVS]
 ·simp only[ZV,EVS]
 ·rw[show ZM (fun (_:Nat) (_:PArc)=>true) 0 xs=true from ZfE xs 0];rfl
def Zbg (m:Nat) (a:PSG):Prop:=((a.signals).length≤m∧∀x∈a.signals,ZaV m x)∧((a.codes).length≤m∧∀x∈a.codes,(x).length≤m)∧(a.arcs).length≤m
theorem ZqO (a:PSG) (l:Int) (hb:Zbg 9223372036854775807 a) (h0:0≤l) (h1:l≤1048576):ZaK (Zda [eSG a,pI l]) l (Zbg 1048576 a):=by
 obtain ⟨b0,b1,b2⟩:=hb
 unfold Zbg
 show ZaK ((fun x0 x1=>Zda [x0,x1]) _ _) _ _
 rw[ZmE]
 simp only[eSG,EVS]
 obtain ⟨r0,g0,y0,z0⟩:=ZpR a.signals l b0 (by omega) (by omega)
 try simp only[g0,EVS]
 by_cases c0:r0<0
 ·simp only[g0,c0,EVS];exact ZaK.neg h0
 try simp only[g0,c0,EVS]
 have q0:0≤r0∧r0≤l:=by omega
 obtain ⟨r1,g1,y1,z1⟩:=ZpU a.codes r0 b1 (by omega) (by omega)
 try simp only[g1,EVS]
 by_cases c1:r1<0
 ·simp only[g1,c1,EVS];exact ZaK.neg h0
 try simp only[g1,c1,EVS]
 have q1:0≤r1∧r1≤l:=by omega
 obtain ⟨r2,g2,y2,z2⟩:=ZB2 a.arcs r1 b2 (by omega) (by omega)
 try simp only[g2,EVS]
 by_cases c2:r2<0
 ·simp only[g2,c2,EVS];exact ZaK.neg h0
 try simp only[g2,c2,EVS]
 have q2:0≤r2∧r2≤l:=by omega
 exact ZaK.pos (by omega) ⟨(z0 (by omega)),(z1 (by omega)),(z2 (by omega))⟩
theorem ZqP (a:PSG) (hb:Zbg 1048576 a):ZaZ [eSG a]=some (eSG a):=by
 obtain ⟨b0,b1,b2⟩:=hb
 have g0:=ZpS a.signals b0
 have g1:=ZpV a.codes b1
 have g2:=ZB3 a.arcs b2
 show (fun x0=>ZaZ [x0]) _=_
 rw[ZmG]
 simp only[eSG,g0,g1,g2,EVS]
theorem ZqQ (a:PSG) (hb:Zbg 9223372036854775807 a):Zc9 [eSG a,eSG a]=some (pB true):=by
 obtain ⟨b0,b1,b2⟩:=hb
 have g0:=ZpT a.signals b0
 have g1:=ZpW a.codes b1
 have g2:=ZB4 a.arcs b2
 show (fun x0 x1=>Zc9 [x0,x1]) _ _=_
 rw[ZmC]
 simp only[eSG,g0,g1,g2,beq_self_eq_true,EVS]
theorem PSG.fit_of {c:PSG} (h:Zbg 9223372036854775807 c):SGFit c:=by
 obtain ⟨⟨h1,h2⟩,⟨h3,h4⟩,h5⟩:=h
 exact ⟨h1,fun s hs=>h2 s hs,h3,fun x hx=>h4 x hx,h5⟩
theorem Zpz {c:PSG} {n:PNet} {P:ProdG} (h:Zi2 c n=some P):Zff c n=some P:=by
 unfold Zi2 at h
 split at h
 ·exact h
 ·cases h
theorem idx0 {α:Type} (g:α→PV) (x:α) (r:List α):Zk (PV.lst ((x::r).map g)) (PV.int .i64 0)=some (g x):=Zj (l:=x::r) (i:=0) rfl
theorem plc0 {α:Type} (g:α→PV) (x:α) (r:List α):ZaM ((x::r).map g) (PV.int .i64 0)=some (PV.int .i64 0):=ZbG (k:=0) (by simp)
theorem get0 {α:Type} (g:α→PV) (x:α) (r:List α):((x::r).map g)[Int.toNat 0]?=some (g x):=rfl
theorem ZrP (k:Nat):decide ((0:Int)<((k+1:Nat):Int))=true:=decide_eq_true (by omega)
theorem d_no :decide ((0:Int)<((0:Nat):Int))=false:=(Eq.refl _).trans (Eq.refl _)
theorem ZuW :decide ((0:Int)<0)=false:=(Eq.refl _).trans (Eq.refl _)
theorem Zhz (c:PSG) (n:PNet) (hc:SGFit c) (hn:n.Fit):Za5 [eSG c,Zo n]=some (.tup [.str (crP c n).1,pB (crP c n).2]):=by
 have g0:=Zpw c n hc hn
 show (fun x0 x1=>Za5 [x0,x1]) _ _=_
 rw[ZhN]
 unfold crP
 cases hp:Zi2 c n with
 | none=>
  rw[hp] at g0
  cases c0:goP c n<;>rw[c0] at g0<;>simp only[eSG,Zo,Zmb,zSys,Zb2,Bool.false_eq_true,if_false,if_true] at g0<;>simp only[eSG,Zo,ZK,ZR,g0,Zph,Zf5,EVS]<;>rfl
 | some P=>
  obtain ⟨hg,hP⟩:=ZuT hc hn hp
  have hg1:=Znf hg hc hn
  have he:=Zpz hp
  rw[hp] at g0
  simp only[eSG,Zo,ePr,Zb2] at g0
  unfold crT
  cases hx:P.extra with
  | cons x r=>
   obtain ⟨x1,x2,x3,x4,x5⟩:=hP.xl x (by rw[hx];exact List.mem_cons_self)
   obtain ⟨a,ha⟩:∃a:Nat,x.from_=a:=⟨x.from_.toNat,by omega⟩
   obtain ⟨w,hw⟩:∃a:Nat,x.wire=a:=⟨x.wire.toNat,by omega⟩
   have hwl:w<n.wires.length:=by omega
   obtain ⟨w1,w2⟩:=Zpx hwl
   have lw:=Zi0 hg1.net w
   have iw:Zk (.lst (n.wires.map Zn)) (.int .i64 (w:Int))=some (Zn n.wires[w]):=Zj w1
   have ad:∀z:UInt8,Zd .add TD.str (.str (Zct n w)) (.str [z])=some (.str (Zct n w++[z])):=fun z=>ZbH (by simp;omega)
   have g:=fun z:UInt8=>Zmj hn hg1 he (m:=a) (by omega) (Zct n w++[z]) (by simp;omega)
   have i0:=idx0 eFl x r
   simp only[w2,Zo,ePr,Zn,eFl,ha,hw,hx] at g iw ad i0 g0
   simp only[eSG,Zo,ePr,Zb2,Zn,eFl,ZK,ZR,Zn4,Zph,Zf5,g0,hx,ha,hw,i0,iw,ad,g,w2,Int.toNat_natCast,List.length_map,List.length_cons,List.drop_zero,List.drop_succ_cons,ZrP,if_true,EVS]
   rfl
  | nil=>
   have g1:=ZuS c n hg1 P hP
   simp only[Zo,ePr,Zb2,hx,List.map_nil] at g0 g1
   cases hm:misL c n P with
   | nil=>
    rw[hm] at g1
    simp only[eSG,Zo,ePr,Zb2,ZK,ZR,Zn4,Zph,Zf5,g0,g1,hx,hm,List.length_map,List.length_nil,List.map_nil,d_no,ZuW,Bool.false_eq_true,if_false,EVS]
    rfl
   | cons m r=>
    have hml:m<P.states.length:=ZyC (c:=c) (n:=n) (by rw[hm];exact List.mem_cons_self)
    have g:=fun a1 a2 a3 a4 a5 a6 a7:UInt8=>Zmj hn hg1 he (m:=m) hml [a1,a2,a3,a4,a5,a6,a7] (by simp)
    have i0:=plc0 eNn m r
    rw[hm] at g1
    simp only[Zo,ePr,hx,List.map_nil] at g
    have gg:=get0 eNn m r
    simp only[eSG,Zo,ePr,Zb2,ZK,ZR,Zn4,Zph,Zf5,g0,g1,g,gg,eNn,hx,hm,i0,List.map_nil,List.length_map,List.length_cons,List.length_nil,d_no,ZuW,ZrP,Bool.false_eq_true,if_false,if_true,EVS]
    rfl
theorem adds2 (T:List UInt8) (h:T.length≤4800):(∀b:UInt8,Zd .add TD.str (.str T) (.str [b])=some (.str (T++[b])))∧
 (∀(b:UInt8) (w:List UInt8) (d:UInt8),w.length≤6→Zd .add TD.str (.str (T++[b])) (.str (w++[d]))=some (.str (T++[b]++(w++[d]))))∧
 (∀b a1 a2 a3 a4 a5 a6 a7:UInt8,Zd .add TD.str (.str (T++[b])) (.str [a1,a2,a3,a4,a5,a6,a7])=some (.str (T++[b]++[a1,a2,a3,a4,a5,a6,a7]))):=
 ⟨fun b=>ZbH (by simp;omega),fun b w d hw=>ZbH (by simp;omega),fun b a1 a2 a3 a4 a5 a6 a7=>ZbH (by simp;omega)⟩
theorem ZhA (c:PSG) (n:PNet) (hc:SGFit c) (hn:n.Fit):Za4 [eSG c,Zo n]=some (.tup [.str (crP c n).1,pB (crP c n).2]):=by
 have g0:=ZsV c n hc hn
 show (fun x0 x1=>Za4 [x0,x1]) _ _=_
 rw[ZhL]
 unfold crP
 cases hp:Zi2 c n with
 | none=>
  rw[hp] at g0
  simp only[eSG,Zo,prR,Zmb] at g0
  simp only[eSG,Zo,ZK,ZR,g0,Zf5,EVS]
  rfl
 | some P=>
  obtain ⟨hg,hP⟩:=ZuT hc hn hp
  have hg1:=Znf hg hc hn
  have he:=Zpz hp
  have hpf:=ZyD hg1 hP
  have gm:=Zpv c n hg1 P hP
  rw[hp] at g0
  simp only[eSG,Zo,prR,ePr] at g0 gm
  show _=some (PV.tup [PV.str (crT c n P),pB true])
  unfold crT
  cases hx:P.extra with
  | cons x r=>
   obtain ⟨x1,x2,x3,x4,x5⟩:=hP.xl x (by rw[hx];exact List.mem_cons_self)
   obtain ⟨a,ha⟩:∃a:Nat,x.from_=a:=⟨x.from_.toNat,by omega⟩
   obtain ⟨w,hw⟩:∃a:Nat,x.wire=a:=⟨x.wire.toNat,by omega⟩
   have hwl:w<n.wires.length:=by omega
   have hal:a<P.states.length:=by omega
   obtain ⟨w1,w2⟩:=Zpx hwl
   have lw:=Zi0 hg1.net w
   have iw:Zk (.lst (n.wires.map Zn)) (.int .i64 (w:Int))=some (Zn n.wires[w]):=Zj w1
   have ad:∀z:UInt8,Zd .add TD.str (.str (Zct n w)) (.str [z])=some (.str (Zct n w++[z])):=fun z=>ZbH (by simp;omega)
   have ad0:∀(T:List UInt8) (z:UInt8),T=[]→Zd .add TD.str (.str T) (.str (Zct n w++[z]))=some (.str (Zct n w++[z])):=fun T z h=>by subst h;exact ZbH (by simp;omega)
   have gf:=Zg7 n P (a:Int) hn hpf
   obtain ⟨h1,h2⟩:=ZwV hg1 he hal
   rw[h1] at gf
   have i0:=idx0 eFl x r
   dsimp only
   rw[ha,hw,Int.toNat_natCast,Int.toNat_natCast]
   unfold spW
   obtain ⟨T,hT⟩:∃T,ffT n P a=T:=⟨_,rfl⟩
   rw[hT] at h2 gf⊢
   obtain ⟨t1,t2,t3⟩:=adds2 T h2
   have t2':=fun b d=>t2 b (Zct n w) d lw
   simp only[w2,Zo,ePr,Zn,eFl,ha,hw,hx] at gf iw ad ad0 i0 g0 gm t2'
   by_cases ct:T=[]
   ·have c1:decide (T=[])=true:=decide_eq_true ct
    have ad1:=fun z=>ad0 T z ct
    simp only[if_pos ct,eSG,Zo,ePr,Zn,eFl,ZK,ZR,Zf5,g0,gm,hx,ha,hw,i0,iw,ad,ad1,gf,c1,w2,List.length_map,List.length_cons,List.drop_zero,List.drop_succ_cons,ZrP,if_true,EVS]
    rfl
   ·have c1:decide (T=[])=false:=decide_eq_false ct
    simp only[if_neg ct,eSG,Zo,ePr,Zn,eFl,ZK,ZR,Zf5,g0,gm,hx,ha,hw,i0,iw,ad,gf,c1,t1,t2',w2,List.length_map,List.length_cons,List.drop_zero,List.drop_succ_cons,ZrP,if_true,EVS]
    rfl
  | nil=>
   simp only[hx,List.map_nil] at g0 gm
   cases hm:misL c n P with
   | nil=>
    rw[hm] at gm
    simp only[eSG,Zo,ePr,ZK,ZR,Zf5,g0,gm,hx,hm,List.length_map,List.length_nil,List.map_nil,d_no,ZuW,Bool.false_eq_true,if_false,EVS]
    rfl
   | cons m r=>
    have hml:m<P.states.length:=ZyC (c:=c) (n:=n) (by rw[hm];exact List.mem_cons_self)
    have gf:=Zg7 n P (m:Int) hn hpf
    obtain ⟨h1,h2⟩:=ZwV hg1 he hml
    rw[h1] at gf
    have i0:=plc0 eNn m r
    have gg:=get0 eNn m r
    rw[hm] at gm
    dsimp only
    unfold spW
    obtain ⟨T,hT⟩:∃T,ffT n P m=T:=⟨_,rfl⟩
    rw[hT] at h2 gf⊢
    obtain ⟨t1,t2,t3⟩:=adds2 T h2
    have ad0:∀a1 a2 a3 a4 a5 a6 a7:UInt8,T=[]→Zd .add TD.str (.str T) (.str [a1,a2,a3,a4,a5,a6,a7])=some (.str [a1,a2,a3,a4,a5,a6,a7]):=fun a1 a2 a3 a4 a5 a6 a7 h=>by subst h;exact ZbH (by simp)
    simp only[Zo,ePr,hx,List.map_nil] at gf
    by_cases ct:T=[]
    ·have c1:decide (T=[])=true:=decide_eq_true ct
     have ad1:=fun a1 a2 a3 a4 a5 a6 a7=>ad0 a1 a2 a3 a4 a5 a6 a7 ct
     simp only[if_pos ct,eSG,Zo,ePr,ZK,ZR,Zf5,g0,gm,gf,gg,eNn,hx,hm,i0,c1,ad1,List.map_nil,List.length_map,List.length_cons,List.length_nil,d_no,ZuW,ZrP,Bool.false_eq_true,if_false,if_true,EVS]
     rfl
    ·have c1:decide (T=[])=false:=decide_eq_false ct
     simp only[if_neg ct,eSG,Zo,ePr,ZK,ZR,Zf5,g0,gm,gf,gg,eNn,hx,hm,i0,c1,t1,t3,List.map_nil,List.length_map,List.length_cons,List.length_nil,d_no,ZuW,ZrP,Bool.false_eq_true,if_false,if_true,EVS]
     rfl
theorem ZiA (c:PSG) (n:PNet) (hc:Zbg 9223372036854775807 c) (hn:ZdP 9223372036854775807 n):Zaz [eSG c,Zo n]=some (pB true):=by
 have a1:=ZhA c n (PSG.fit_of hc) (PNet.fit_of hn)
 have a2:=Zhz c n (PSG.fit_of hc) (PNet.fit_of hn)
 have b3:=ZqQ c hc
 have a3:=Zxf n hn
 obtain ⟨r,b4,hr,bz⟩:=ZqO c 1048576 hc (by omega) (by omega)
 simp only[eSG,Zo] at a1 a2 a3 b3 b4
 show (fun x0 x1=>Zaz [x0,x1]) _ _=_
 rw[ZeY]
 simp only[eSG,Zo,ZK,ZR,b4,EVS]
 by_cases c1:r<0<;>simp only[c1,EVS]
 have b5:=ZqP c (bz (by omega))
 obtain ⟨r2,a4,_,az⟩:=Zxd n r hn (by omega) (by omega)
 simp only[Zo] at a4
 simp only[a4,EVS]
 by_cases c2:r2<0<;>simp only[c2,EVS]
 have a5:=Zxe n (az (by omega))
 simp only[eSG,Zo] at a5 b5
 simp only[ZK,ZR,a1,a2,a3,b3,a5,b5,beq_self_eq_true,EVS]
 try rfl
end Go.Proofs.YtpceleehbpnchaaGreat
