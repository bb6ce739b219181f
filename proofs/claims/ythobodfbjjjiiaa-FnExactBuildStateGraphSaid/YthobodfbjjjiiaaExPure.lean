import Derived.Test.YthobodfbjjjiiaaEnPure
namespace Go.Proofs.Ythobodfbjjjiiaa
open Go.RowKit
set_option linter.unusedVariables false
structure ESt where
 marks:List (List UInt8)
 moves:List Mv
 by_:List Mv
inductive EOut where
 |ok (s:ESt)
 |bad (t:Int) (s:ESt)
 |full (s:ESt)
def Zbd (m:List UInt8) (l:List (List UInt8)):Int:=idxB (fun x=>x==m) l
def Z2 (k:Nat) (t:Int) (m:List UInt8) (s:ESt):ESt:=⟨s.marks++[m],s.moves++[⟨k,t,s.marks.length⟩],s.by_++[⟨k,t,s.marks.length⟩]⟩
def Zc6 (k:Nat) (t i:Int) (s:ESt):ESt:=⟨s.marks,s.moves++[⟨k,t,i⟩],s.by_⟩
def Zbz (n:Net) (m:List UInt8) (k:Nat):List Int→ESt→EOut
 |[],s=>.ok s
 | t::r,s=>match Zbn n m t with
  |none=>.bad t s
  | some m'=>if m'∈s.marks then Zbz n m k r (Zc6 k t (Zbd m' s.marks) s)
   else if s.marks.length=300 then .full s else Zbz n m k r (Z2 k t m' s)
structure ERes where
 st:ESt
 code:Nat
 k:Nat
 t:Int
def Zto (k:Nat) (g:ESt→ERes):EOut→ERes
 |.ok s=>g s
 |.bad t s=>⟨s,1,k,t⟩
 |.full s=>⟨s,2,0,0⟩
def Za1 (n:Net):Nat→Nat→ESt→ERes
 |0,_,s=>⟨s,0,0,0⟩
 | f+1,k,s=>match s.marks[k]? with
  |none=>⟨s,0,0,0⟩
  |some m=>Zto k (Za1 n f (k+1)) (Zbz n m k (enL n m) s)
def ZG (m:List UInt8):ESt:=⟨[m],[],[⟨0,0,0⟩]⟩
def ZaB (s:STG):ERes:=Za1 s.net 301 0 (ZG s.start)
theorem Zl4 {n:Net} {f k:Nat} {s:ESt} (h:¬k<s.marks.length):Za1 n f k s=⟨s,0,0,0⟩:=by
 cases f with
 |zero=>rfl
 |succ f=>unfold Za1;rw[List.getElem?_eq_none (by omega)]
theorem ZbZ {n:Net} {f k:Nat} {s:ESt} {m:List UInt8} (h:s.marks[k]?=some m):Za1 n (f+1) k s=Zto k (Za1 n f (k+1)) (Zbz n m k (enL n m) s):=by
 conv=>lhs;unfold Za1
 rw[h]
theorem ZkN {α:Type} {p:α→Bool}:∀(l:List α) (k:Nat),Zfe p k l= -1∨(k≤Zfe p k l∧Zfe p k l<k+l.length)
 |[],_=>.inl rfl
 | x::r,k=>by
  unfold Zfe
  by_cases hx:p x=true
  ·rw[if_pos hx];right;simp;omega
  ·rw[if_neg hx]
   rcases ZkN (p:=p) r (k+1) with h|h
   ·exact .inl h
   ·right;simp at h⊢;omega
theorem ZiY {m:List UInt8} {l:List (List UInt8)} (h:m∈l):0≤Zbd m l∧Zbd m l<l.length:=by
 have h1:=ZiJ (fun x=>x==m) l 0
 have h2:l.any (fun x=>x==m)=true:=by simp[h]
 rw[h2] at h1
 simp at h1
 rcases ZkN (p:=fun x=>x==m) l 0 with h3|h3
 ·rw[h3] at h1;omega
 ·unfold Zbd idxB;omega
theorem ZrU {m:List UInt8} {l:List (List UInt8)} (h:m∉l):Zbd m l= -1:=by
 have h1:=ZiJ (fun x=>x==m) l 0
 have h2:l.any (fun x=>x==m)=false:=by simp;rintro x hx rfl;exact h hx
 rw[h2] at h1
 simp at h1
 rcases ZkN (p:=fun x=>x==m) l 0 with h3|h3
 ·exact h3
 ·omega
end Go.Proofs.Ythobodfbjjjiiaa
