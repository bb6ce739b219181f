import Derived.Test.YtkgnjijonikchaaGreatDistPure
namespace Go.Proofs.YtkgnjijonikchaaGreat
set_option linter.unusedVariables false
set_option linter.unusedSimpArgs false
abbrev ZeR :=Int×Int×Bool×Int
def Zd6 (R:List (List Int)) (a:ZeR):List (List Int):=R.set a.1.toNat ((R.getD a.1.toNat []).set a.2.1.toNat a.2.2.2)
def Zdq (n m:Nat) (arcs:List ZeR):List (List Int):=arcs.foldl Zd6 (List.replicate n (List.replicate m (-1)))
def Zex (R:List (List Int)) (k s:Nat):Int:=(R.getD k []).getD s (-1)
theorem Zoa (R:List (List Int)) (a:ZeR):(Zd6 R a).length=R.length:=by simp[Zd6]
theorem ZlX :∀(l:List ZeR) (R:List (List Int)),(l.foldl Zd6 R).length=R.length
 |[],R=>rfl
 |a::l,R=>by rw[List.foldl_cons,ZlX l,Zoa]
theorem Zuo (n m:Nat) (l:List ZeR):(Zdq n m l).length=n:=by unfold Zdq;rw[ZlX];simp
theorem Zob {R:List (List Int)} {m:Nat} (h:∀r∈R,r.length=m) (a:ZeR):∀r∈Zd6 R a,r.length=m:=fun r hr=>by
 unfold Zd6 at hr
 obtain ⟨i,hi,rfl⟩:=List.getElem_of_mem hr
 rw[List.getElem_set]
 split
 ·rename_i e
  rw[List.length_set]
  have hlt:a.1.toNat<R.length:=by rw[List.length_set] at hi;omega
  rw[List.getD_eq_getElem?_getD,List.getElem?_eq_getElem hlt]
  exact h _ (List.getElem_mem hlt)
 ·exact h _ (List.getElem_mem _)
theorem ZlY {m:Nat}:∀(l:List ZeR) (R:List (List Int)),(∀r∈R,r.length=m)→∀r∈l.foldl Zd6 R,r.length=m
 |[],R,h=>h
 |a::l,R,h=>ZlY l _ (Zob h a)
theorem Zup (n m:Nat) (l:List ZeR):∀r∈Zdq n m l,r.length=m:=ZlY l _ (fun r hr=>by rw[List.eq_of_mem_replicate hr,List.length_replicate])
theorem ZsX {R:List (List Int)} {m k s:Nat} (h:∀r∈R,r.length=m) (hk:k<R.length) (hs:s<m) (a:ZeR):
 Zex (Zd6 R a) k s=if a.1.toNat=k∧a.2.1.toNat=s then a.2.2.2 else Zex R k s:=by
 have hg:R[k]?=some R[k]:=List.getElem?_eq_getElem hk
 have hm:R[k].length=m:=h _ (List.getElem_mem hk)
 unfold Zex Zd6
 rw[List.getD_eq_getElem?_getD (l:=R.set _ _),List.getElem?_set]
 by_cases c:a.1.toNat=k
 ·rw[if_pos c,if_pos (by omega)]
  rw[c,List.getD_eq_getElem?_getD (i:=k),hg]
  simp only[Option.getD_some]
  rw[List.getD_eq_getElem?_getD,List.getElem?_set]
  by_cases c2:a.2.1.toNat=s
  ·rw[if_pos c2,if_pos (by omega),if_pos ⟨trivial,c2⟩];rfl
  ·rw[if_neg c2,if_neg (fun h=>c2 h.2),List.getD_eq_getElem?_getD]
 ·rw[if_neg c,if_neg (fun h=>c h.1),List.getD_eq_getElem?_getD (i:=k)]
theorem ZkX {m k s:Nat} (hs:s<m):∀(l:List ZeR) (R:List (List Int)),(∀r∈R,r.length=m)→k<R.length→
 (∃a∈l,(a.1.toNat=k∧a.2.1.toNat=s)∧Zex (l.foldl Zd6 R) k s=a.2.2.2)∨(Zex (l.foldl Zd6 R) k s=Zex R k s∧∀a∈l,¬(a.1.toNat=k∧a.2.1.toNat=s))
 |[],R,h,hk=>.inr ⟨rfl,by simp⟩
 | a ::l,R,h,hk=>by
  rw[List.foldl_cons]
  rcases ZkX hs l (Zd6 R a) (Zob h a) (by rw[Zoa];exact hk) with ⟨b,hb,h1,h2⟩|⟨h1,h2⟩
  ·exact .inl ⟨b,List.mem_cons_of_mem _ hb,h1,h2⟩
  ·rw[ZsX h hk hs] at h1
   by_cases c:a.1.toNat=k∧a.2.1.toNat=s
   ·rw[if_pos c] at h1
    exact .inl ⟨a,List.mem_cons_self,c,h1⟩
   ·rw[if_neg c] at h1
    refine .inr ⟨h1,fun b hb=> ?_⟩
    rcases List.mem_cons.1 hb with rfl|hb
    ·exact c
    ·exact h2 b hb
theorem ZsY {n m k s:Nat} (hk:k<n) (hs:s<m) (l:List ZeR):
 (∃a∈l,(a.1.toNat=k∧a.2.1.toNat=s)∧Zex (Zdq n m l) k s=a.2.2.2)∨(Zex (Zdq n m l) k s= -1∧∀a∈l,¬(a.1.toNat=k∧a.2.1.toNat=s)):=by
 have:=ZkX (m:=m) (k:=k) hs l (List.replicate n (List.replicate m (-1))) (fun r hr=>by rw[List.eq_of_mem_replicate hr,List.length_replicate]) (by simpa using hk)
 have e:Zex (List.replicate n (List.replicate m (-1:Int))) k s= -1:=by
  unfold Zex
  simp[List.getD_eq_getElem?_getD,List.getElem?_replicate,hk,hs]
 rw[e] at this
 exact this
end Go.Proofs.YtkgnjijonikchaaGreat
