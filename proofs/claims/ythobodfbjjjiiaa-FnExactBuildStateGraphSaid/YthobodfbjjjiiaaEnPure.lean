import Derived.Test.YthobodfbjjjiiaaNetPure
namespace Go.Proofs.Ythobodfbjjjiiaa
open Go.RowKit
set_option linter.unusedVariables false
def ZkO (m:List UInt8):Nat→List Tr→List Int
 |_,[]=>[]
 |i,t::r=>if enB m t then (i:Int)::ZkO m (i+1) r else ZkO m (i+1) r
def enL (n:Net) (m:List UInt8):List Int:=ZkO m 0 n.trans
theorem ZiZ (m:List UInt8):∀(l:List Tr) (i:Nat),(ZkO m i l).length≤l.length
 |[],_=>Nat.le_refl _
 | t::r,i=>by
  unfold ZkO
  have:=ZiZ m r (i+1)
  split<;>simp<;>omega
theorem Zg3 {n:Net} {m:List UInt8} (h:Zj n m=true):(enL n m).length≤24:=by
 have:=ZiZ m n.trans 0
 simp only[Zj,ZaC,Bool.and_eq_true,decide_eq_true_eq] at h
 unfold enL
 omega
theorem ZkP (m:List UInt8):∀(l:List Tr) (i:Nat) (t:Int),t∈ZkO m i l→∃k x,t=((i+k:Nat):Int)∧l[k]?=some x∧enB m x=true
 |[],_,t,h=>by simp[ZkO] at h
 | y ::r,i,t,h=>by
  unfold ZkO at h
  split at h
  ·rename_i hy
   rcases List.mem_cons.1 h with rfl|h
   ·exact ⟨0,y,rfl,rfl,hy⟩
   ·obtain ⟨k,x,e,hx,hb⟩:=ZkP m r (i+1) t h
    exact ⟨k+1,x,by rw[e];omega,by simpa using hx,hb⟩
  ·obtain ⟨k,x,e,hx,hb⟩:=ZkP m r (i+1) t h
   exact ⟨k+1,x,by rw[e];omega,by simpa using hx,hb⟩
theorem Zd7 {n:Net} {m:List UInt8} {t:Int} (h:t∈enL n m):∃(k:Nat) (x:Tr),t=(k:Int)∧n.trans[k]?=some x∧enB m x=true∧Zbn n m t=Zl6 x m:=by
 obtain ⟨k,x,e,hx,hb⟩:=ZkP m n.trans 0 t h
 simp only[Nat.zero_add] at e
 subst e
 have hlt:=Za2 hx
 refine ⟨k,x,rfl,hx,hb, ?_⟩
 have hin:inB (k:Int) 0 ((n.trans.length:Int) - 1)=true:=ZcG.2 ⟨by omega,by omega⟩
 simp[Zbn,hin,hx,hb]
def Zga (n:Net) (m:List UInt8):List Int→List (List UInt8)→Option (List (List UInt8))
 |[],out=>some out
 | t::r,out=>match Zbn n m t with
  |none=>none
  |some m'=>Zga n m r (if m'∈out then out else out++[m'])
def Zg4 (o:Option (List (List UInt8))) (g:List (List UInt8)→List (List UInt8)×Nat):List (List UInt8)×Nat:=match o with
 |none=>([],1)
 |some out=>if 600<out.length then ([],2) else g out
theorem ZoL (g:List (List UInt8)→List (List UInt8)×Nat):Zg4 none g=([],1):=rfl
theorem ZpZ {out:List (List UInt8)} (h:600<out.length) (g:List (List UInt8)→List (List UInt8)×Nat):Zg4 (some out) g=([],2):=by simp[Zg4,h]
theorem ZrV {out:List (List UInt8)} (h:¬600<out.length) (g:List (List UInt8)→List (List UInt8)×Nat):Zg4 (some out) g=g out:=by simp only[Zg4];rw[if_neg h]
def ZcW (n:Net):Nat→Nat→List (List UInt8)→List (List UInt8)×Nat
 |0,_,out=>(out,0)
 | f+1,k,out=>match out[k]? with
  |none=>(out,0)
  |some m=>Zg4 (Zga n m (enL n m) out) (ZcW n f (k+1))
def reach (n:Net) (m:List UInt8):List (List UInt8)×Nat:=ZcW n 601 0 [m]
theorem Ztq {n:Net} {f k:Nat} {out:List (List UInt8)} {m:List UInt8} (h:out[k]?=some m):ZcW n (f+1) k out=Zg4 (Zga n m (enL n m) out) (ZcW n f (k+1)):=by
 conv=>lhs;unfold ZcW
 rw[h]
end Go.Proofs.Ythobodfbjjjiiaa
