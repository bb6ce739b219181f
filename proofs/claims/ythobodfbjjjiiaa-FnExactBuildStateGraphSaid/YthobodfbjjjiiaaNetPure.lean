import Derived.Test.YthobodfbjjjiiaaData
namespace Go.Proofs.Ythobodfbjjjiiaa
open Go.RowKit
set_option linter.unusedVariables false
def inB (n lo hi:Int):Bool:=decide (lo≤n)&&decide (n≤hi)
theorem ZcG {n lo hi:Int}:inB n lo hi=true↔lo≤n∧n≤hi:=by simp[inB]
def Zl5 (hi:Int):Int→List Int→Bool
 |_,[]=>true
 |p,x::r=>inB x 0 hi&&decide (p<x)&&Zl5 hi x r
def ZfV (hi:Int) (l:List Int):Bool:=Zl5 hi (-1) l
def Zfe {α:Type} (p:α→Bool):Nat→List α→Int
 |_,[]=> -1
 |k,x::r=>if p x then k else Zfe p (k+1) r
def idxB {α:Type} (p:α→Bool) (l:List α):Int:=Zfe p 0 l
theorem ZiJ {α:Type} (p:α→Bool):∀(l:List α) (k:Nat),decide (0≤Zfe p k l)=l.any p
 |[],_=>rfl
 | x::r,k=>by
  unfold Zfe
  cases h:p x with
  |true=>simp[h]
  |false=>simpa[h] using ZiJ p r (k+1)
def trB (places:Int) (t:Tr):Bool:= !t.pre.isEmpty&&ZfV (places - 1) t.pre&&ZfV (places - 1) t.post
def ZaC (n:Net):Bool:=inB n.places 1 30&&decide (n.trans.length≤24)&&n.trans.all (trB n.places)
def Za8 :List UInt8→Bool
 |[]=>true
 |b::r=>(b==48||b==49)&&Za8 r
def ZhV (s:List UInt8) (n:Int):Bool:=Za8 s&&decide ((s.length:Int)=n)
def Zj (n:Net) (m:List UInt8):Bool:=ZaC n&&ZhV m n.places
def enB (m:List UInt8) (t:Tr):Bool:= !t.pre.any (fun p=>m.getD p.toNat 0==48)
def Zp0 (m:List UInt8) (t:Tr):Bool:=t.pre.all (fun p=>m.getD p.toNat 0==49)
def Zg5 :List Int→List UInt8→List UInt8
 |[],m=>m
 |p::r,m=>Zg5 r (m.set p.toNat 48)
def ZdK :List Int→List UInt8→Option (List UInt8)
 |[],m=>some m
 |p::r,m=>if m.getD p.toNat 0==49 then none else ZdK r (m.set p.toNat 49)
def Zl6 (t:Tr) (m:List UInt8):Option (List UInt8):=ZdK t.post (Zg5 t.pre m)
def ZhW (o:Option (List UInt8)):List UInt8×Bool:=match o with
 |some m=>(m,true)
 |none=>([],false)
def Zbn (n:Net) (m:List UInt8) (t:Int):Option (List UInt8):=
 if inB t 0 ((n.trans.length:Int) - 1) then (match n.trans[t.toNat]? with
  |some tr=>if enB m tr then Zl6 tr m else none
  |none=>none) else none
def ZeB (l:List Int) (m:Nat):Prop:=∀p∈l,0≤p∧p<m
theorem ZkQ {hi:Int}:∀{l:List Int} {p:Int},Zl5 hi p l=true→∀x∈l,0≤x∧x≤hi
 |[],_,_,x,hx=>by simp at hx
 | y::r,p,h,x,hx=>by
  simp only[Zl5,Bool.and_eq_true,ZcG] at h
  rcases List.mem_cons.1 hx with rfl|hx
  ·exact h.1.1
  ·exact ZkQ h.2 x hx
theorem Zi0 {n:Net} {m:List UInt8} (h:Zj n m=true):1≤n.places∧n.places≤30∧(m.length:Int)=n.places:=by
 simp only[Zj,ZaC,ZhV,Bool.and_eq_true,ZcG,decide_eq_true_eq] at h
 exact ⟨h.1.1.1.1,h.1.1.1.2,h.2.2⟩
theorem Zjq {n:Net} {m:List UInt8} (h:Zj n m=true) {k:Nat} {t:Tr} (ht:n.trans[k]?=some t):ZeB t.pre m.length∧ZeB t.post m.length:=by
 have hp:=Zi0 h
 simp only[Zj,ZaC,ZhV,Bool.and_eq_true,ZcG,decide_eq_true_eq,List.all_eq_true] at h
 have:=h.1.2 t (List.mem_of_getElem? ht)
 simp only[trB,Bool.and_eq_true] at this
 exact ⟨fun p hp'=>by have:=ZkQ this.1.2 p hp';omega,fun p hp'=>by have:=ZkQ this.2 p hp';omega⟩
theorem Zl7 {n:Net} {m:List UInt8} (h:Zj n m=true):Za8 m=true:=by
 simp only[Zj,ZhV,Bool.and_eq_true] at h
 exact h.2.1
theorem ZoM :∀{m:List UInt8},Za8 m=true→∀(i:Nat),i<m.length→(m.getD i 0=48∨m.getD i 0=49)
 |[],_,i,hi=>by simp at hi
 | b::r,h,i,hi=>by
  simp only[Za8,Bool.and_eq_true,Bool.or_eq_true,beq_iff_eq] at h
  cases i with
  |zero=>simpa using h.1
  |succ i=>simpa using ZoM h.2 i (by simpa using hi)
theorem Ztp {m:List UInt8} {t:Tr} (h:Za8 m=true) (hp:ZeB t.pre m.length):Zp0 m t=enB m t:=by
 unfold Zp0 enB
 rw[Bool.eq_iff_iff]
 simp only[List.all_eq_true,Bool.not_eq_true',List.any_eq_false,beq_iff_eq]
 constructor
 ·intro h1 p hpm e
  rw[h1 p hpm] at e
  exact absurd e (by decide)
 ·intro h1 p hpm
  obtain ⟨h0,hlt⟩:=hp p hpm
  rcases ZoM h p.toNat (by omega) with e|e
  ·exact absurd e (h1 p hpm)
  ·exact e
theorem Zgn :∀(l:List Int) (m:List UInt8),(Zg5 l m).length=m.length
 |[],_=>rfl
 |p::r,m=>by rw[Zg5,Zgn r];simp
theorem ZhX :∀(l:List Int) (m m':List UInt8),ZdK l m=some m'→m'.length=m.length
 |[],m,m',h=>by simp[ZdK] at h;rw[h]
 | p::r,m,m',h=>by
  unfold ZdK at h
  split at h
  ·cases h
  ·rw[ZhX r _ _ h];simp
theorem ZkR :∀{m:List UInt8},Za8 m=true↔∀b∈m,b=48∨b=49
 |[]=>by simp[Za8]
 |b::r=>by simp[Za8,ZkR (m:=r)]
theorem ZkS {m:List UInt8} (h:Za8 m=true) (i:Nat) {b:UInt8} (hb:b=48∨b=49):Za8 (m.set i b)=true:=by
 rw[ZkR] at h⊢
 intro x hx
 rcases List.mem_or_eq_of_mem_set hx with hx|rfl
 ·exact h x hx
 ·exact hb
theorem Zi1 :∀(l:List Int) (m:List UInt8),Za8 m=true→Za8 (Zg5 l m)=true
 |[],_,h=>h
 |p::r,m,h=>Zi1 r _ (ZkS h _ (.inl rfl))
theorem ZkT :∀(l:List Int) (m m':List UInt8),Za8 m=true→ZdK l m=some m'→Za8 m'=true
 |[],m,m',h,e=>by simp[ZdK] at e;rw[←e];exact h
 | p::r,m,m',h,e=>by
  unfold ZdK at e
  split at e
  ·cases e
  ·exact ZkT r _ _ (ZkS h _ (.inr rfl)) e
theorem Zg6 {n:Net} {m m':List UInt8} {t:Tr} (h:Zj n m=true) (hf:Zl6 t m=some m'):Zj n m'=true:=by
 have hb:=ZkT _ _ _ (Zi1 t.pre m (Zl7 h)) hf
 have hl:=ZhX _ _ _ hf
 rw[Zgn] at hl
 simp only[Zj,ZhV,Bool.and_eq_true,decide_eq_true_eq] at h⊢
 exact ⟨h.1,hb,by rw[hl];exact h.2.2⟩
end Go.Proofs.Ythobodfbjjjiiaa
