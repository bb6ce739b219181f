import Derived.Test.YtkgnjijonikchaaGreatDistPure
namespace Go.Proofs.YtkgnjijonikchaaGreat
set_option linter.unusedVariables false
set_option linter.unusedSimpArgs false
abbrev Zel :=Int×Int×Bool×Int
def ZdI (R:List (List Int)) (a:Zel):List (List Int):=R.set a.1.toNat ((R.getD a.1.toNat []).set a.2.1.toNat a.2.2.2)
def Zc3 (n m:Nat) (arcs:List Zel):List (List Int):=arcs.foldl ZdI (List.replicate n (List.replicate m (-1)))
def Zd4 (R:List (List Int)) (k s:Nat):Int:=(R.getD k []).getD s (-1)
theorem Zm6 (R:List (List Int)) (a:Zel):(ZdI R a).length=R.length:=by simp[ZdI]
theorem ZkZ :∀(l:List Zel) (R:List (List Int)),(l.foldl ZdI R).length=R.length
 |[],R=>rfl
 |a::l,R=>by rw[List.foldl_cons,ZkZ l,Zm6]
theorem ZsW (n m:Nat) (l:List Zel):(Zc3 n m l).length=n:=by unfold Zc3;rw[ZkZ];simp
theorem Zm7 {R:List (List Int)} {m:Nat} (h:∀r∈R,r.length=m) (a:Zel):∀r∈ZdI R a,r.length=m:=fun r hr=>by
 unfold ZdI at hr
 obtain ⟨i,hi,rfl⟩:=List.getElem_of_mem hr
 rw[List.getElem_set]
 split
 ·rename_i e
  rw[List.length_set]
  have hlt:a.1.toNat<R.length:=by rw[List.length_set] at hi;omega
  rw[List.getD_eq_getElem?_getD,List.getElem?_eq_getElem hlt]
  exact h _ (List.getElem_mem hlt)
 ·exact h _ (List.getElem_mem _)
theorem Zk0 {m:Nat}:∀(l:List Zel) (R:List (List Int)),(∀r∈R,r.length=m)→∀r∈l.foldl ZdI R,r.length=m
 |[],R,h=>h
 |a::l,R,h=>Zk0 l _ (Zm7 h a)
theorem ZsX (n m:Nat) (l:List Zel):∀r∈Zc3 n m l,r.length=m:=Zk0 l _ (fun r hr=>by rw[List.eq_of_mem_replicate hr,List.length_replicate])
theorem Zrt {R:List (List Int)} {m k s:Nat} (h:∀r∈R,r.length=m) (hk:k<R.length) (hs:s<m) (a:Zel):
 Zd4 (ZdI R a) k s=if a.1.toNat=k∧a.2.1.toNat=s then a.2.2.2 else Zd4 R k s:=by
 have hg:R[k]?=some R[k]:=List.getElem?_eq_getElem hk
 have hm:R[k].length=m:=h _ (List.getElem_mem hk)
 unfold Zd4 ZdI
 rw[List.getD_eq_getElem?_getD (l:=R.set _ _),List.getElem?_set]
 by_cases c:a.1.toNat=k
 ·rw[if_pos c,if_pos (by omega)]
  rw[c,List.getD_eq_getElem?_getD (i:=k),hg]
  simp only[Option.getD_some]
  rw[List.getD_eq_getElem?_getD,List.getElem?_set]
  by_cases c2:a.2.1.toNat=s
  ·rw[if_pos c2,if_pos (by omega),if_pos ⟨trivial,c2⟩];rfl
  ·rw[if_neg c2,if_neg (fun h=>c2 h.2),List.getD_eq_getElem?_getD]
 ·rw[if_neg c,if_neg (fun h=>c h.1),List.getD_eq_getElem?_getD (i:=k)]
theorem Zj2 {m k s:Nat} (hs:s<m):∀(l:List Zel) (R:List (List Int)),(∀r∈R,r.length=m)→k<R.length→
 (∃a∈l,(a.1.toNat=k∧a.2.1.toNat=s)∧Zd4 (l.foldl ZdI R) k s=a.2.2.2)∨(Zd4 (l.foldl ZdI R) k s=Zd4 R k s∧∀a∈l,¬(a.1.toNat=k∧a.2.1.toNat=s))
 |[],R,h,hk=>.inr ⟨rfl,by simp⟩
 | a ::l,R,h,hk=>by
  rw[List.foldl_cons]
  rcases Zj2 hs l (ZdI R a) (Zm7 h a) (by rw[Zm6];exact hk) with ⟨b,hb,h1,h2⟩|⟨h1,h2⟩
  ·exact .inl ⟨b,List.mem_cons_of_mem _ hb,h1,h2⟩
  ·rw[Zrt h hk hs] at h1
   by_cases c:a.1.toNat=k∧a.2.1.toNat=s
   ·rw[if_pos c] at h1
    exact .inl ⟨a,List.mem_cons_self,c,h1⟩
   ·rw[if_neg c] at h1
    refine .inr ⟨h1,fun b hb=> ?_⟩
    rcases List.mem_cons.1 hb with rfl|hb
    ·exact c
    ·exact h2 b hb
theorem Zru {n m k s:Nat} (hk:k<n) (hs:s<m) (l:List Zel):
 (∃a∈l,(a.1.toNat=k∧a.2.1.toNat=s)∧Zd4 (Zc3 n m l) k s=a.2.2.2)∨(Zd4 (Zc3 n m l) k s= -1∧∀a∈l,¬(a.1.toNat=k∧a.2.1.toNat=s)):=by
 have:=Zj2 (m:=m) (k:=k) hs l (List.replicate n (List.replicate m (-1))) (fun r hr=>by rw[List.eq_of_mem_replicate hr,List.length_replicate]) (by simpa using hk)
 have e:Zd4 (List.replicate n (List.replicate m (-1:Int))) k s= -1:=by
  unfold Zd4
  simp[List.getD_eq_getElem?_getD,List.getElem?_replicate,hk,hs]
 rw[e] at this
 exact this
end Go.Proofs.YtkgnjijonikchaaGreat
