import Derived.Test.YtpceleehbpnchaaGreatMissingOutputsP1
import Derived.Test.YtpceleehbpnchaaGreatData
import Derived.Test.YtpceleehbpnchaaGreatDistPure
import Derived.Test.YtpceleehbpnchaaGreatSysPure
namespace Go.Proofs.YtpceleehbpnchaaGreat
open Go.RowKit
set_option linter.unusedVariables false
set_option linter.unusedSimpArgs false
theorem Zuc {R α β:Type} (l:List α) (J:β→Nat→List PV) (Inv:Nat→β→Prop) (step:β→Nat→α→Sum β (Option R)) (e:β→Option R) (f:(List PV→Option R)→List PV→Option R) (hl:l.length≤9223372036854775807)
 (hs:∀b k x b',Inv k b→l[k]?=some x→step b k x=.inl b'→Inv (k+1) b')
 (h1:∀again b k x,Inv k b→l[k]?=some x→f again (J b k)=match step b k x with|.inl b'=>again (J b' (k+1))|.inr z=>z)
 (h2:∀again b,Inv l.length b→f again (J b l.length)=e b) {b:β} {k:Nat} (hk:k≤l.length) (hb:Inv k b):Zm f 18446744073709551616 (J b k)=Z5 step e k b (l.drop k):=by
 have key:=ZaP (R:=R) (fun q:{q:β×Nat // Inv q.2 q.1∧q.2≤l.length}=>J q.1.1 q.1.2) (fun q=>l.length+1 - q.1.2) (fun q=>Z5 step e q.1.2 q.1.1 (l.drop q.1.2)) f (fun again q ih=> ?_) 18446744073709551616 ⟨(b,k),hb,hk⟩ (by simp only;omega)
 ·exact key
 ·obtain ⟨⟨b,k⟩,hi,hk⟩:=q
  dsimp only at ih hi hk⊢
  by_cases hlt:k<l.length
  ·have hx:l[k]?=some l[k]:=List.getElem?_eq_getElem hlt
   rw[h1 again b k _ hi hx,List.drop_eq_getElem_cons hlt]
   unfold Z5
   cases hst:step b k l[k] with
   |inl b'=>exact ih ⟨(b',k+1),hs _ _ _ _ hi hx hst,hlt⟩ (by simp only;omega)
   |inr z=>rfl
  ·obtain rfl:k=l.length:=by omega
   rw[h2 again b hi,List.drop_length]
   rfl
theorem capsA0 :Zbs 0 (.tup [])=some []:=by simp[Zbs,PV.parts]
theorem ZjR (a:PArc):ZbC [Z3 a]=some (pB (decide (a.sig= -1))):=by
 show (fun x0=>ZbC [x0]) _=_
 rw[Zi4]
 simp only[Z3,EVS]
 rfl
theorem Zb0 (l:List PArc) (hl:ZA l):ZF [.lst (l.map Z3),.tup []]=some (pI (ixf (fun a=>decide (a.sig= -1)) 0 l)):=by
 show (fun x0 x1=>ZF [x0,x1]) _ _=_
 rw[ZbP]
 unfold ZA at hl
 simp only[EVS]
 refine (congrArg (fun m:Option PV=>m.bind fun r=>if r.sc=true then some r else none) (ZcY l (fun a=>decide (a.sig= -1)) _ hl (fun again k a hb=> ?_) (fun again=> ?_))).trans ?_
 ·have hk:=Ze hb
  have hi:Zk (.lst (l.map Z3)) (.int .i64 (k:Int))=some (Z3 a):=Zj hb
  have g:=ZjR a
  simp only[Z3] at g
  cases hc:decide (a.sig= -1)<;>simp only[Zs hk,Zi hk hl,hi,Z3,g,hc,capsA0,List.append_nil,List.cons_append,List.nil_append,Bool.false_eq_true,if_false,if_true,EVS]
 ·simp only[ZW,EVS]
  rfl
 ·simp only[EVS]
def Zhl (l:List PArc):Bool:=l.any fun a=>decide (a.sig= -1)
theorem Zbu (l:List PArc) (hl:ZA l):Zw [.lst (l.map Z3),.tup []]=some (pB (Zhl l)):=by
 have g:=Zb0 l hl
 show (fun x0 x1=>Zw [x0,x1]) _ _=_
 rw[Zbk]
 simp only[g,ZeT (fun a:PArc=>decide (a.sig= -1)) l 0,EVS]
 rw[Zaj,List.all_eq_not_any_not]
 simp only[Bool.not_not]
 rfl
theorem Zsg (c:PSG) (hl:ZA c.arcs):Zfk [eSG c]=some (pB (c.arcs.any fun a=>decide (a.sig<0))):=by
 unfold ZA at hl
 show (fun x0=>Zfk [x0]) _=_
 rw[ZqB]
 simp only[eSG,EVS]
 refine (congrArg (fun m:Option PV=>m.bind fun r=>if r.sc=true then some r else none) (ZO (R:=PV) c.arcs (fun _ a=> !decide (a.sig<0)) (some (pB true)) (some (pB false)) _ hl (fun again k a hx=> ?_) (fun again=> ?_))).trans ?_
 ·have hk:=Ze hx
  have hi:Zk (.lst (c.arcs.map Z3)) (.int .i64 (k:Int))=some (Z3 a):=Zj hx
  cases hc:decide (a.sig<0)<;>simp only[List.length_map,Zs hk,Zi hk hl,hi,Z3,hc,Bool.not_true,Bool.not_false,Bool.false_eq_true,if_false,if_true,EVS]
 ·simp only[List.length_map,ZW,EVS]
 ·rw[Zaj,List.any_eq_not_all_not]
  cases c.arcs.all (fun a=> !decide (a.sig<0))<;>simp only[Bool.not_true,Bool.not_false,Bool.false_eq_true,if_false,if_true,EVS]
theorem Zwe {c:PSG} (h:Zhk c=true):(c.arcs.any fun a=>decide (a.sig<0))=Zhl c.arcs:=by
 unfold Zhl
 rw[Bool.eq_iff_iff,List.any_eq_true,List.any_eq_true]
 constructor
 ·rintro ⟨a,ha,h1⟩
  refine ⟨a,ha, ?_⟩
  have:=List.all_eq_true.1 h a ha
  unfold Zky Zc0 Zf3 inR at this
  simp only[Bool.and_eq_true,Bool.or_eq_true,decide_eq_true_eq] at this h1⊢
  omega
 ·rintro ⟨a,ha,h1⟩
  refine ⟨a,ha, ?_⟩
  simp only[decide_eq_true_eq] at h1⊢
  omega
theorem Zz6 (x y:List UInt8×Int):eqV (some [(0,TD.str),(1,TD.int IntKind.i64)]) TD.struct (.agg [.str x.1,pI x.2]) (.agg [.str y.1,pI y.2])=some (decide (x=y)):=by
 have e:decide (x=y)=((x.1==y.1)&&((x.2==y.2)&&true)):=by
  rw[Bool.eq_iff_iff]
  simp only[decide_eq_true_eq,Bool.and_eq_true,Prod.ext_iff,beq_iff_eq,and_true]
 rw[e]
 show (some (x.1==y.1)).bind (fun b=>(some ((x.2==y.2)&&true)).map fun c=>b&&c)=_
 rfl
def Zhm (l:List (List UInt8×Int)) (k:Nat) (x:List UInt8×Int):Bool:=match l[k]? with|some y=>decide (x=y)|none=>false
theorem ZxH (l m:List (List UInt8×Int)) (h:l.length=m.length):ZN (Zhm m) 0 l=decide (l=m):=by
 rw[Bool.eq_iff_iff,Zpb,decide_eq_true_eq]
 constructor
 ·intro hx
  apply List.ext_getElem h
  intro i h1 h2
  have:=hx i l[i] (List.getElem?_eq_getElem h1)
  unfold Zhm at this
  rw[Nat.zero_add,List.getElem?_eq_getElem h2] at this
  simpa using this
 ·rintro rfl i x hi
  unfold Zhm
  rw[Nat.zero_add,hi]
  simp
theorem ZgW (l m:List (List UInt8×Int)) (hl:ZA l):ZaR [.lst (l.map ZD),.lst (m.map ZD)]=some (pB (decide (l=m))):=by
 unfold ZA at hl
 show (fun x0 x1=>ZaR [x0,x1]) _ _=_
 rw[Zgz]
 by_cases hlen:l.length=m.length
 ·have d:decide ((l.length:Int)=(m.length:Int))=true:=by rw[decide_eq_true_eq];omega
  simp only[List.length_map,d,EVS]
  refine (congrArg (fun m:Option PV=>m.bind fun r=>if r.sc=true then some r else none) (ZO (R:=PV) l (Zhm m) (some (pB false)) (some (pB true)) _ hl (fun again k x hx=> ?_) (fun again=> ?_))).trans ?_
  ·have hk:=Ze hx
   have hy:m[k]?=some (m[k]'(by omega)):=List.getElem?_eq_getElem _
   have hi:Zk (.lst (l.map ZD)) (.int .i64 (k:Int))=some (ZD x):=Zj hx
   have hj:Zk (.lst (m.map ZD)) (.int .i64 (k:Int))=some (ZD (m[k]'(by omega))):=Zj hy
   have hs:Zhm m k x=decide (x=m[k]'(by omega)):=by unfold Zhm;rw[hy]
   have he:=Zz6 x (m[k]'(by omega))
   rw[hs]
   cases hc:decide (x=m[k]'(by omega))<;>simp only[List.length_map,Zs hk,Zi hk hl,hi,hj,ZD,ZL,he,hc,Bool.not_true,Bool.not_false,Bool.false_eq_true,if_false,if_true,EVS]
  ·simp only[List.length_map,ZW,EVS]
  ·rw[ZxH l m hlen]
   cases decide (l=m)<;>simp only[Bool.false_eq_true,if_false,if_true,EVS]
 ·have d:decide ((l.length:Int)=(m.length:Int))=false:=by simp only[decide_eq_false_iff_not];omega
  have hne:decide (l=m)=false:=by simp only[decide_eq_false_iff_not];rintro rfl;exact hlen rfl
  simp only[List.length_map,d,hne,EVS]
theorem ZlO (l m:List (List UInt8×Int)) (hl:ZA l):ZcC [.lst (l.map ZD),.lst (m.map ZD)]=some (pB (decide (l=m))):=by
 unfold ZA at hl
 show (fun x0 x1=>ZcC [x0,x1]) _ _=_
 rw[Zk5]
 by_cases hlen:l.length=m.length
 ·have d:decide ((l.length:Int)=(m.length:Int))=true:=by rw[decide_eq_true_eq];omega
  simp only[List.length_map,d,EVS]
  refine (congrArg (fun m:Option PV=>m.bind fun r=>if r.sc=true then some r else none) (ZO (R:=PV) l (Zhm m) (some (pB false)) (some (pB true)) _ hl (fun again k x hx=> ?_) (fun again=> ?_))).trans ?_
  ·have hk:=Ze hx
   have hy:m[k]?=some (m[k]'(by omega)):=List.getElem?_eq_getElem _
   have hi:Zk (.lst (l.map ZD)) (.int .i64 (k:Int))=some (ZD x):=Zj hx
   have hj:Zk (.lst (m.map ZD)) (.int .i64 (k:Int))=some (ZD (m[k]'(by omega))):=Zj hy
   have hs:Zhm m k x=decide (x=m[k]'(by omega)):=by unfold Zhm;rw[hy]
   have he:=Zz6 x (m[k]'(by omega))
   rw[hs]
   cases hc:decide (x=m[k]'(by omega))<;>simp only[List.length_map,Zs hk,Zi hk hl,hi,hj,ZD,ZL,he,hc,Bool.not_true,Bool.not_false,Bool.false_eq_true,if_false,if_true,EVS]
  ·simp only[List.length_map,ZW,EVS]
  ·rw[ZxH l m hlen]
   cases decide (l=m)<;>simp only[Bool.false_eq_true,if_false,if_true,EVS]
 ·have d:decide ((l.length:Int)=(m.length:Int))=false:=by simp only[decide_eq_false_iff_not];omega
  have hne:decide (l=m)=false:=by simp only[decide_eq_false_iff_not];rintro rfl;exact hlen rfl
  simp only[List.length_map,d,hne,EVS]
def Zkz (a b:PArc):Bool:=(((!decide (a.sig= -1))&&decide (b.from_=a.from_))&&decide (b.sig=a.sig))&& !decide (b.to_=a.to_)
def Zsh (a b:PArc):Bool:=((decide (a.from_=b.from_)&&decide (a.sig=b.sig))&&decide (0≤a.sig))&& !decide (a.to_=b.to_)
def wE (p:Nat×Nat):PV:=.lst [pI p.1,pI p.2]
def Zdz (w:PArc→PArc→Bool) (i:Nat) (a:PArc):Nat→List (Nat×Nat)→List PArc→List (Nat×Nat)
 |_,acc,[]=>acc
 |k,acc,b::l=>Zdz w i a (k+1) (if w a b=true then acc++[(i,k)] else acc) l
def Zhn (w:PArc→PArc→Bool) (arcs:List PArc):Nat→List (Nat×Nat)→List PArc→List (Nat×Nat)
 |_,acc,[]=>acc
 |i,acc,a::l=>Zhn w arcs (i+1) (Zdz w i a (i+1) acc (arcs.drop (i+1))) l
theorem ZiO {R:Type} (w:PArc→PArc→Bool) (i:Nat) (a:PArc) (e:List (Nat×Nat)→Option R):∀(l:List PArc) (k:Nat) (acc:List (Nat×Nat)),Z5 (fun (acc:List (Nat×Nat)) k b=>.inl (if w a b=true then acc++[(i,k)] else acc)) e k acc l=e (Zdz w i a k acc l)
 |[],k,acc=>rfl
 |b::l,k,acc=>by unfold Z5 Zdz;exact ZiO w i a e l (k+1) _
theorem ZiP {R:Type} (w:PArc→PArc→Bool) (arcs:List PArc) (e:List (Nat×Nat)→Option R):∀(l:List PArc) (k:Nat) (acc:List (Nat×Nat)),Z5 (fun (acc:List (Nat×Nat)) i a=>.inl (Zdz w i a (i+1) acc (arcs.drop (i+1)))) e k acc l=e (Zhn w arcs k acc l)
 |[],k,acc=>rfl
 |b::l,k,acc=>by unfold Z5 Zhn;exact ZiP w arcs e l (k+1) _
theorem ZkA (w:PArc→PArc→Bool) (i:Nat) (a:PArc):∀(l:List PArc) (k:Nat) (acc:List (Nat×Nat)),(Zdz w i a k acc l).length≤acc.length+l.length
 |[],k,acc=>by simp[Zdz]
 | b::l,k,acc=>by
  have:=ZkA w i a l (k+1) (if w a b=true then acc++[(i,k)] else acc)
  unfold Zdz
  split at this<;>rename_i h
  ·rw[if_pos h];simp at this⊢;omega
  ·rw[if_neg h];simp at this⊢;omega
theorem ZlP {w w':PArc→PArc→Bool} (i:Nat) (a:PArc):∀(l:List PArc) (k:Nat) (acc:List (Nat×Nat)),(∀b∈l,w a b=w' a b)→Zdz w i a k acc l=Zdz w' i a k acc l
 |[],k,acc,h=>rfl
 |b::l,k,acc,h=>by unfold Zdz;rw[h b List.mem_cons_self];exact ZlP i a l _ _ fun b hb=>h b (List.mem_cons_of_mem _ hb)
theorem ZlQ {w w':PArc→PArc→Bool} (arcs:List PArc):∀(l:List PArc) (k:Nat) (acc:List (Nat×Nat)),(∀a∈l,∀b∈arcs,w a b=w' a b)→Zhn w arcs k acc l=Zhn w' arcs k acc l
 |[],k,acc,h=>rfl
 | a::l,k,acc,h=>by
  unfold Zhn
  rw[ZlP k a _ _ _ fun b hb=>h a List.mem_cons_self b (List.mem_of_mem_drop hb)]
  exact ZlQ arcs l _ _ fun a ha=>h a (List.mem_cons_of_mem _ ha)
def ZiQ (w:PArc→PArc→Bool) (c:PSG):List (Nat×Nat):=Zhn w c.arcs 0 [] c.arcs
theorem ZA1 {c:PSG} (h:Zhk c=true):ZiQ Zsh c=ZiQ Zkz c:=ZlQ _ _ _ _ fun a ha b hb=>by
 have:=List.all_eq_true.1 h a ha
 unfold Zky Zc0 Zf3 inR at this
 simp only[Bool.and_eq_true,Bool.or_eq_true,decide_eq_true_eq] at this
 have h1:a.sig= -1∨0≤a.sig:=by omega
 unfold Zsh Zkz
 rw[Bool.eq_iff_iff]
 simp only[Bool.and_eq_true,Bool.not_eq_true',decide_eq_true_eq,decide_eq_false_iff_not]
 omega
theorem Zud (c:PSG) (hl:c.arcs.length≤4000):Zf8 [eSG c]=some (.lst ((ZiQ Zkz c).map wE)):=by
 show (fun x0=>Zf8 [x0]) _=_
 rw[Zsr]
 simp only[eSG,EVS]
 refine (ZaI (R:=PV) c.arcs (fun (acc:List (Nat×Nat)) i=>[.lst (acc.map wE),pI (Int.ofNat i)]) (fun i acc=>acc.length≤i * 4000) (fun acc i a=>.inl (Zdz Zkz i a (i+1) acc (c.arcs.drop (i+1)))) (fun acc=>some (.lst (acc.map wE))) _ (by omega) (fun acc i a acc' hi hx he=> ?_) (fun again acc i a hi hx=> ?_) (fun again acc hi=> ?_) (b:=[]) (by simp)).trans (ZiP _ _ _ _ _ _)
 ·cases he
  have:=ZkA Zkz i a (c.arcs.drop (i+1)) (i+1) acc
  simp at this
  omega
 ·have hk:=Ze hx
  have hi':Zk (.lst (c.arcs.map Z3)) (.int .i64 (i:Int))=some (Z3 a):=Zj hx
  have hnx:=Zi hk (show c.arcs.length≤9223372036854775807 by omega)
  simp only[List.length_map,Zs hk,hnx,hi',Z3,EVS]
  refine (Zuc (R:=PV) c.arcs (fun (acc:List (Nat×Nat)) k=>[.lst (acc.map wE),pI (Int.ofNat k)]) (fun k acc=>acc.length≤i * 4000+k) (fun acc k b=>.inl (if Zkz a b=true then acc++[(i,k)] else acc)) (fun acc=>again [.lst (acc.map wE),pI (Int.ofNat (i+1))]) _ (by omega) (fun acc k b acc' hi hx he=> ?_) (fun again' acc k b hi2 hx2=> ?_) (fun again' acc hi=> ?_) (b:=acc) (k:=i+1) (show i+1≤c.arcs.length from hk) (show acc.length≤i * 4000+(i+1) from Nat.le_trans hi (Nat.le_add_right _ _))).trans (ZiO _ _ _ _ _ _ _)
  ·cases he
   show (if Zkz a b=true then acc++[(i,k)] else acc).length≤i * 4000+(k+1)
   have hi:acc.length≤i * 4000+k:=hi
   cases Zkz a b
   ·rw[if_neg (by decide)];omega
   ·rw[if_pos rfl,List.length_append,List.length_singleton];omega
  ·have hk2:=Ze hx2
   have hj:Zk (.lst (c.arcs.map Z3)) (.int .i64 (k:Int))=some (Z3 b):=Zj hx2
   have hla:acc.length+[PV.lst [pI (i:Int),pI (k:Int)]].length≤4294967296∧[PV.lst [pI (i:Int),pI (k:Int)]].all (Zao 1)=true:=⟨by simp;omega,rfl⟩
   have hps:acc.map wE++[PV.lst [pI (i:Int),pI (k:Int)]]=(acc++[(i,k)]).map wE:=by simp[wE]
   unfold Zkz
   simp only[List.length_map,Zs hk2,Zi hk2 (show c.arcs.length≤9223372036854775807 by omega),hj,Z3,EVS]
   rw[show Int.negSucc 0=(-1:Int) from rfl]
   have hok:([PV.lst [pI (i:Int),pI (k:Int)]].all fun x=>Zao 1 x)=true:=rfl
   cases c1:decide (a.sig= -1)<;>cases c2:decide (b.from_=a.from_)<;>cases c3:decide (b.sig=a.sig)<;>cases c4:decide (b.to_=a.to_)<;>simp only[c1,c2,c3,c4,if_pos hla,hps,if_pos hok,EVS]
  ·simp only[List.length_map,ZW,hnx,EVS]
 ·simp only[List.length_map,ZW,EVS]
theorem Zwf (c:PSG) (hl:c.arcs.length≤4000):Zh5 [eSG c]=some (.lst ((ZiQ Zsh c).map wE)):=by
 show (fun x0=>Zh5 [x0]) _=_
 rw[Zu0]
 simp only[eSG,EVS]
 refine (ZaI (R:=PV) c.arcs (fun (acc:List (Nat×Nat)) i=>[.lst (acc.map wE),pI (Int.ofNat i)]) (fun i acc=>acc.length≤i * 4000) (fun acc i a=>.inl (Zdz Zsh i a (i+1) acc (c.arcs.drop (i+1)))) (fun acc=>some (.lst (acc.map wE))) _ (by omega) (fun acc i a acc' hi hx he=> ?_) (fun again acc i a hi hx=> ?_) (fun again acc hi=> ?_) (b:=[]) (by simp)).trans (ZiP _ _ _ _ _ _)
 ·cases he
  have:=ZkA Zsh i a (c.arcs.drop (i+1)) (i+1) acc
  simp at this
  omega
 ·have hk:=Ze hx
  have hi':Zk (.lst (c.arcs.map Z3)) (.int .i64 (i:Int))=some (Z3 a):=Zj hx
  have hnx:=Zi hk (show c.arcs.length≤9223372036854775807 by omega)
  simp only[List.length_map,Zs hk,hnx,hi',Z3,EVS]
  refine (Zuc (R:=PV) c.arcs (fun (acc:List (Nat×Nat)) k=>[.lst (acc.map wE),pI (Int.ofNat k)]) (fun k acc=>acc.length≤i * 4000+k) (fun acc k b=>.inl (if Zsh a b=true then acc++[(i,k)] else acc)) (fun acc=>again [.lst (acc.map wE),pI (Int.ofNat (i+1))]) _ (by omega) (fun acc k b acc' hi hx he=> ?_) (fun again' acc k b hi2 hx2=> ?_) (fun again' acc hi=> ?_) (b:=acc) (k:=i+1) (show i+1≤c.arcs.length from hk) (show acc.length≤i * 4000+(i+1) from Nat.le_trans hi (Nat.le_add_right _ _))).trans (ZiO _ _ _ _ _ _ _)
  ·cases he
   show (if Zsh a b=true then acc++[(i,k)] else acc).length≤i * 4000+(k+1)
   have hi:acc.length≤i * 4000+k:=hi
   cases Zsh a b
   ·rw[if_neg (by decide)];omega
   ·rw[if_pos rfl,List.length_append,List.length_singleton];omega
  ·have hk2:=Ze hx2
   have hj:Zk (.lst (c.arcs.map Z3)) (.int .i64 (k:Int))=some (Z3 b):=Zj hx2
   have hla:acc.length+[PV.lst [pI (i:Int),pI (k:Int)]].length≤4294967296∧[PV.lst [pI (i:Int),pI (k:Int)]].all (Zao 1)=true:=⟨by simp;omega,rfl⟩
   have hps:acc.map wE++[PV.lst [pI (i:Int),pI (k:Int)]]=(acc++[(i,k)]).map wE:=by simp[wE]
   unfold Zsh
   simp only[List.length_map,Zs hk2,Zi hk2 (show c.arcs.length≤9223372036854775807 by omega),hj,Z3,EVS]
   have hok:([PV.lst [pI (i:Int),pI (k:Int)]].all fun x=>Zao 1 x)=true:=rfl
   cases c1:decide (a.from_=b.from_)<;>cases c2:decide (a.sig=b.sig)<;>cases c3:decide (0≤a.sig)<;>cases c4:decide (a.to_=b.to_)<;>simp only[c1,c2,c3,c4,if_pos hla,hps,if_pos hok,EVS]
  ·simp only[List.length_map,ZW,hnx,EVS]
 ·simp only[List.length_map,ZW,EVS]
theorem ZjB {c:PSG} (h:sgV c=true):ZgU c=true∧Zsd c=true∧Zhk c=true∧ZiK c=true:=by
 unfold sgV at h
 simp only[Bool.and_eq_true] at h
 exact ⟨h.1.1,h.1.2,h.2.1,h.2.2⟩
theorem Zue {c:PSG} (h:sgV c=true):c.arcs.length≤4000:=by
 have:=(ZjB h).1
 unfold ZgU at this
 simp only[Bool.and_eq_true,Bool.not_eq_true',decide_eq_false_iff_not] at this
 omega
def ZxI (c:PSG) (n:PNet):Bool:=((!Zhl c.arcs)&&decide (((ZiQ Zkz c).length:Int)=0))&&decide (c.signals=n.signals)
def goP (c:PSG) (n:PNet):Bool:=(sgV c&&Zdi n)&&ZxI c n
theorem Zyt (c:PSG) (n:PNet) (hc:SGFit c) (hn:n.Fit):ZjJ [eSG c,Zp n]=some (pB (goP c n)):=by
 have g1:=Zwd c hc
 have g2:=Znl n hn
 show (fun x0 x1=>ZjJ [x0,x1]) _ _=_
 rw[ZwB]
 unfold goP ZxI
 simp only[eSG,Zp] at g1 g2
 cases c1:sgV c
 ·rw[c1] at g1;simp only[eSG,Zp,ZL,ZS,g1,EVS]
 cases c2:Zdi n
 ·rw[c1] at g1;rw[c2] at g2;simp only[eSG,Zp,ZL,ZS,g1,g2,EVS]
 rw[c1] at g1;rw[c2] at g2
 have g3:=Zsg c hc.arcs
 rw[Zwe (ZjB c1).2.2.1] at g3
 have g4:=Zwf c (Zue c1)
 rw[ZA1 (ZjB c1).2.2.1] at g4
 have g5:=ZlO c.signals n.signals hc.sigs
 simp only[eSG] at g3 g4
 cases c3:Zhl c.arcs
 ·rw[c3] at g3
  cases c4:decide (((ZiQ Zkz c).length:Int)=0)
  ·simp only[eSG,Zp,ZL,ZS,g1,g2,g3,g4,c4,List.length_map,EVS]
  ·simp only[eSG,Zp,ZL,ZS,g1,g2,g3,g4,g5,c4,List.length_map,EVS]
 ·rw[c3] at g3;simp only[eSG,Zp,ZL,ZS,g1,g2,g3,EVS]
theorem ZkB (c:PSG) (n:PNet) (hc:SGFit c) (hn:n.Fit):Zbo [eSG c,Zp n]=some (.tup [pB (goP c n),pB (sgV c&&Zdi n)]):=by
 have g1:=Zih c hc
 have g2:=ZfB n hn
 rw[←Zz3] at g2
 have g3:=Zbu c.arcs hc.arcs
 have g5:=ZgW c.signals n.signals hc.sigs
 show (fun x0 x1=>Zbo [x0,x1]) _ _=_
 rw[ZkQ]
 unfold goP ZxI
 simp only[eSG,Zp] at g1 g2
 cases c1:sgV c
 ·rw[c1] at g1;simp only[eSG,Zp,ZL,ZS,g1,EVS];rfl
 cases c2:Zdi n
 ·rw[c1] at g1;rw[c2] at g2;simp only[eSG,Zp,ZL,ZS,g1,g2,EVS];rfl
 rw[c1] at g1;rw[c2] at g2
 have g4:=Zud c (Zue c1)
 simp only[eSG] at g4
 cases c3:Zhl c.arcs
 ·rw[c3] at g3
  cases c4:decide (((ZiQ Zkz c).length:Int)=0)
  ·simp only[eSG,Zp,ZL,ZS,g1,g2,g3,g4,c4,List.length_map,EVS];rfl
  ·simp only[eSG,Zp,ZL,ZS,g1,g2,g3,g4,g5,c4,List.length_map,EVS];rfl
 ·rw[c3] at g3;simp only[eSG,Zp,ZL,ZS,g1,g2,g3,EVS];rfl
theorem Zec {R:Type} (a b:Nat) (st:Nat→List PV) (e:Option R) (f:(List PV→Option R)→List PV→Option R) (hm:b≤9223372036854775807)
 (h1:∀again k,a≤k→k<b→f again (st k)=again (st (k+1)))
 (h2:∀again,f again (st b)=e) (hab:a≤b) (J:List PV) (hJ:st a=J):Zm f 18446744073709551616 J=e:=by
 subst hJ
 have key:=ZaP (R:=R) (fun k:{k:Nat // a≤k∧k≤b}=>st k.1) (fun k=>b+1 - k.1) (fun _=>e) f (fun again k ih=> ?_) 18446744073709551616 ⟨a,Nat.le_refl _,hab⟩ (by simp only;omega)
 ·exact key
 ·obtain ⟨k,hk,hk2⟩:=k
  dsimp only at ih⊢
  by_cases c:k<b
  ·rw[h1 again k hk c]
   exact ih ⟨k+1,by omega,c⟩ (by simp only;omega)
  ·obtain rfl:k=b:=by omega
   exact h2 again
def ZaW (good:Nat→Bool) (k:Nat):List Int:=((List.range k).filter good).map fun (i:Nat)=>Int.ofNat i
theorem ZkC (good:Nat→Bool) (k:Nat):(ZaW good k).length≤k:=by
 unfold ZaW
 rw[List.length_map]
 exact Nat.le_trans (List.length_filter_le _ _) (by simp)
theorem Zph {good:Nat→Bool} {k:Nat} (h:good k=true):ZaW good (k+1)=ZaW good k++[(k:Int)]:=by
 unfold ZaW
 rw[List.range_succ,List.filter_append]
 simp[h]
theorem Zrb {good:Nat→Bool} {k:Nat} (h:good k=false):ZaW good (k+1)=ZaW good k:=by
 unfold ZaW
 rw[List.range_succ,List.filter_append]
 simp[h]
def Zq (n:PNet) (s:List UInt8) (k:Nat):Bool:=match n.wires[k]? with|some w=>ZfD n s k w !=ZgS s k|none=>false
theorem ZiR (n:PNet) (s:List UInt8) (hn:n.Fit) (hs:ZA s) (hv:Ze7 n s=true) (hb:n.wires.length≤1048576):ZcR [Zp n,.str s]=some (.lst ((ZaW (Zq n s) n.wires.length).map pI)):=by
 show (fun x0 x1=>ZcR [x0,x1]) _ _=_
 rw[ZnN]
 simp only[Zp,EVS]
 refine (congrArg (fun m:Option PV=>m) (Zec (R:=PV) 0 n.wires.length (fun k=>[.lst ((ZaW (Zq n s) k).map pI),pI (Int.ofNat k)]) (some (.lst ((ZaW (Zq n s) n.wires.length).map pI))) _ (by omega) (fun again k h1 h2=> ?_) (fun again=> ?_) (Nat.zero_le _) _ (by simp[ZaW]))).trans ?_
 ·have ha:=Zz5 n s k hn hs hv h2
  have a1:=Znp n s k _ ha
  simp only[Zp] at a1
  have hk:k<s.length:=ha.lt
  have hby:=Zr (k:=.i64) (List.getElem?_eq_getElem hk)
  have ho:ZgS s k=decide ((s[k].toNat:Int)=49):=by unfold ZgS;rw[List.getElem?_eq_getElem hk]
  have he:Zq n s k=(ZfD n s k n.wires[k] !=ZgS s k):=by unfold Zq;rw[List.getElem?_eq_getElem h2]
  have hl:(ZaW (Zq n s) k).length+[pI (k:Int)].length≤4294967296∧[pI (k:Int)].all (Zao 1)=true:=⟨by have:=ZkC (Zq n s) k;simp;omega,rfl⟩
  have he':(!ZfD n s k n.wires[k]==decide ((s[k].toNat:Int)=49))=Zq n s k:=by rw[he,ho];rfl
  have hm:n.wires.length≤9223372036854775807:=by omega
  simp only[Zs h2,hby,a1,he',EVS]
  cases hE:Zq n s k
  ·simp only[Zi h2 hm,Zrb hE,EVS]
  ·simp only[if_pos hl,Zi h2 hm,Zph hE,List.map_append,List.map_cons,List.map_nil,EVS]
 ·simp only[ZW,EVS]
 ·rfl
theorem ZdQ (n:PNet) (s:List UInt8) (k:Nat) (hn:n.Fit) (hs:ZA s) (hv:Ze7 n s=true) (h2:k<n.wires.length):ZaE [Zp n,.str s,pI k]=some (pB (Zq n s k)):=by
 have ha:=Zz5 n s k hn hs hv h2
 have a1:=ZlL n s k _ ha
 simp only[Zp] at a1
 have hk:k<s.length:=ha.lt
 have hby:=Zr (k:=.i64) (List.getElem?_eq_getElem hk)
 have he:Zq n s k=(ZfD n s k n.wires[k] !=decide ((s[k].toNat:Int)=49)):=by unfold Zq ZgS;rw[List.getElem?_eq_getElem h2,List.getElem?_eq_getElem hk]
 have hbit:ZfC s[k]=true:=by
  unfold Ze7 Z2 at hv
  simp only[Bool.and_eq_true] at hv
  exact Zjx _ _ _ hv.2.1 k _ (List.getElem?_eq_getElem hk)
 unfold ZfC at hbit
 simp only[Bool.or_eq_true,decide_eq_true_eq] at hbit
 show (fun x0 x1 x2=>ZaE [x0,x1,x2]) _ _ _=_
 rw[ZkK]
 simp only[Zp,a1,hby,ZxC,he,EVS]
 cases ZfD n s k n.wires[k]<;>rcases hbit with h|h<;>rw[h]<;>rfl
theorem ZmH (n:PNet) (s:List UInt8) (hn:n.Fit) (hs:ZA s) (hv:Ze7 n s=true) (hb:n.wires.length≤1048576):Zc1 [Zp n,.str s]=some (.lst ((ZaW (Zq n s) n.wires.length).map pI)):=by
 show (fun x0 x1=>Zc1 [x0,x1]) _ _=_
 rw[ZlS]
 simp only[Zp,EVS]
 refine (congrArg (fun m:Option PV=>m) (Zec (R:=PV) 0 n.wires.length (fun k=>[.lst ((ZaW (Zq n s) k).map pI),pI (Int.ofNat k)]) (some (.lst ((ZaW (Zq n s) n.wires.length).map pI))) _ (by omega) (fun again k h1 h2=> ?_) (fun again=> ?_) (Nat.zero_le _) _ (by simp[ZaW]))).trans ?_
 ·have a1:=ZdQ n s k hn hs hv h2
  simp only[Zp] at a1
  have hl:(ZaW (Zq n s) k).length+[pI (k:Int)].length≤4294967296∧[pI (k:Int)].all (Zao 1)=true:=⟨by have:=ZkC (Zq n s) k;simp;omega,rfl⟩
  have hm:n.wires.length≤9223372036854775807:=by omega
  simp only[Zs h2,a1,EVS]
  cases hE:Zq n s k
  ·simp only[Zi h2 hm,Zrb hE,EVS]
  ·simp only[if_pos hl,Zi h2 hm,Zph hE,List.map_append,List.map_cons,List.map_nil,EVS]
 ·simp only[ZW,EVS]
 ·rfl
def Zgv (n:PNet) (v:List UInt8) (k:Nat):Bool:=match n.wires[k]? with|some w=>ZfD n v k w|none=>false
def ZgX (n:PNet):Nat→Nat→List UInt8→List UInt8
 |0,_,v=>v
 |c+1,k,v=>ZgX n c (k+1) (v.set k (ZfT (Zgv n v k)))
def Zeq (n:PNet) (code:List UInt8):List UInt8:=ZgX n (n.wires.length - n.signals.length) n.signals.length (code++List.replicate (n.wires.length - n.signals.length) 48)
theorem ZaQ {n:PNet} (h:Zdi n=true):n.signals.length≤n.wires.length∧n.wires.length≤24:=by
 unfold Zdi at h
 simp only[Bool.and_eq_true,Bool.not_eq_true',decide_eq_false_iff_not] at h
 omega
theorem ZxJ {n:PNet} {v:List UInt8} {k:Nat} (hn:n.Fit) (hv:Zdi n=true) (hb:Z2 v n.wires.length=true) (hk:k<n.wires.length):At n v k n.wires[k]∧ZfD n v k n.wires[k]=Zgv n v k:=by
 have hl:=(ZaN.1 hb).2
 refine ⟨Zz5 n v k hn (by unfold ZA;have:=(ZaQ hv).2;omega) (by unfold Ze7;rw[hv,hb];rfl) hk, ?_⟩
 unfold Zgv
 rw[List.getElem?_eq_getElem hk]
theorem Zqb (n:PNet) (code:List UInt8) (hn:n.Fit) (hv:Zdi n=true) (hc:Z2 code n.signals.length=true):ZeE [Zp n,.str code]=some (.str (Zeq n code)):=by
 obtain ⟨hs1,hs2⟩:=ZaQ hv
 have hcl:=(ZaN.1 hc).2
 obtain ⟨N,hN⟩:∃N,n.wires.length=N:=⟨_,rfl⟩
 obtain ⟨m,hm⟩:∃m,n.signals.length=m:=⟨_,rfl⟩
 show (fun x0 x1=>ZeE [x0,x1]) _ _=_
 rw[ZpM]
 simp only[Zp,EVS]
 have key:=ZaP (R:=PV) (fun j:{j:Nat // j≤N - m}=>[.str (code++List.replicate j.1 48)]) (fun j=>N - m+1 - j.1) (fun _=>some (.str (Zeq n code)))
 have key':∀f:(List PV→Option PV)→List PV→Option PV,(∀again (a:{j:Nat // j≤N - m}),(∀a':{j:Nat // j≤N - m},N - m+1 - a'.1<N - m+1 - a.1→again [.str (code++List.replicate a'.1 48)]=some (.str (Zeq n code)))→f again [.str (code++List.replicate a.1 48)]=some (.str (Zeq n code)))→Zm f 18446744073709551616 [.str code]=some (.str (Zeq n code)):=fun f hf=>by
  have:=key f hf 18446744073709551616 ⟨0,Nat.zero_le _⟩ (by simp only;omega)
  simpa using this
 refine (congrArg (fun m:Option PV=>m.bind fun r=>if r.sc=true then some r else none) (key' _ (fun again j ih=> ?_))).trans rfl
 obtain ⟨j,hj⟩:=j
 dsimp only at ih⊢
 have hlen:(code++List.replicate j (48:UInt8)).length=m+j:=by simp;omega
 by_cases c1:m+j<N
 ·have h1:decide (((m+j:Nat):Int)<(N:Int))=true:=by simp;omega
  have h0:Zd .add TD.str (.str (code++List.replicate j (48:UInt8))) (.str [48])=some (.str (code++List.replicate (j+1) (48:UInt8))):=by
   rw[ZbF (by simp at hlen⊢;omega),List.append_assoc,←List.replicate_succ']
  have h5:Zd .add TD.str (.str (code++List.replicate j (48:UInt8))) (.str [(48:UInt8)])=some (.str (code++List.replicate (j+1) (48:UInt8))):=h0
  simp only[hN,hlen,h1,h0,h5,List.length_map,EVS]
  exact ih ⟨j+1,by omega⟩ (by simp only;omega)
 ·obtain rfl:j=N - m:=by omega
  have h1:decide (((m+(N - m):Nat):Int)<(N:Int))=false:=by simp;omega
  simp only[hN,hm,hlen,h1,List.length_map,EVS]
  have key2:=ZaP (R:=PV) (fun q:{q:List UInt8×Nat // Z2 q.1 N=true∧q.2≤N}=>[.str q.1.1,pI (Int.ofNat q.1.2)]) (fun q=>N+1 - q.1.2) (fun q=>some (.str (ZgX n (N - q.1.2) q.1.2 q.1.1)))
  have hb0:Z2 (code++List.replicate (N - m) (48:UInt8)) N=true:=Zpa (by rw[←hm];exact hc) (by omega)
  refine (key2 _ (fun again q ih=> ?_) 18446744073709551616 ⟨(code++List.replicate (N - m) 48,m),hb0,by omega⟩ (by simp only;omega)).trans ?_
  ·obtain ⟨⟨v,k⟩,hb,hk⟩:=q
   dsimp only at ih hb hk⊢
   have hvl:=(ZaN.1 hb).2
   by_cases c2:k<N
   ·obtain ⟨a1,a2⟩:=ZxJ (k:=k) hn hv (by rw[hN];exact hb) (by omega)
    have a3:=Znp n v k _ a1
    rw[a2] at a3
    simp only[Zp] at a3
    have a4:=Zjz v k (ZfT (Zgv n v k)) (by omega) (by unfold ZA;omega)
    have h3:decide ((k:Int)<(N:Int))=true:=by simpa using c2
    have hw:IntKind.i64.wrap ((k:Int)+1)=((k+1:Nat):Int):=by rw[Zav (by omega) (by omega)];omega
    simp only[hN,h3,a3,Zjy,a4,hw,List.length_map,EVS]
    have h4:=ih ⟨(v.set k (ZfT (Zgv n v k)),k+1),Zo9 hb _,by omega⟩ (by simp only;omega)
    rw[show N - k=(N - (k+1))+1 by omega]
    exact h4
   ·obtain rfl:k=N:=by omega
    have h3:decide ((k:Int)<(k:Int))=false:=by simp
    simp only[hN,h3,List.length_map,EVS]
    rw[Nat.sub_self]
    rfl
  ·unfold Zeq
   rw[hN,hm]
theorem Zuf (c:UInt8):∀k,Lib.repeatL [c] k=List.replicate k c
 |0=>rfl
 |k+1=>by rw[Lib.repeatL,Zuf c k];rfl
theorem ZkD (c:UInt8) (k:Nat) (h:k≤1048576):Za2 [.str [c],pI k]=some (.str (List.replicate k c)):=by
 have h1:(0:Int)≤(k:Int)∧(k:Int)≤9223372036854775807∧(([c]:List UInt8).length:Int) * (k:Int)≤140737488355328:=by simp;omega
 show (if (0:Int)≤(k:Int)∧(k:Int)≤9223372036854775807∧(([c]:List UInt8).length:Int) * (k:Int)≤140737488355328 then some (PV.str (Lib.repeatL [c] (Int.toNat (k:Int)))) else none)=_
 rw[if_pos h1,Int.toNat_natCast,Zuf]
theorem Zwj (n:PNet) (code:List UInt8) (hn:n.Fit) (hv:Zdi n=true) (hc:Z2 code n.signals.length=true):ZhA [Zp n,.str code]=some (.str (Zeq n code)):=by
 obtain ⟨hs1,hs2⟩:=ZaQ hv
 have hcl:=(ZaN.1 hc).2
 obtain ⟨N,hN⟩:∃N,n.wires.length=N:=⟨_,rfl⟩
 obtain ⟨m,hm⟩:∃m,n.signals.length=m:=⟨_,rfl⟩
 have hb0:Z2 (code++List.replicate (N - m) (48:UInt8)) N=true:=Zpa (by rw[←hm];exact hc) (by omega)
 show (fun x0 x1=>ZhA [x0,x1]) _ _=_
 rw[Zur]
 have hw1:IntKind.i64.wrap ((N:Int) - (m:Int))=((N - m:Nat):Int):=by rw[Zav (by omega) (by omega)];omega
 have hr:Za2 [.str [(48:UInt8)],pI ((N - m:Nat):Int)]=some (.str (List.replicate (N - m) 48)):=ZkD 48 (N - m) (by omega)
 have hcl':code.length=m:=by omega
 have h0:Zd .add TD.str (.str code) (.str (List.replicate (N - m) (48:UInt8)))=some (.str (code++List.replicate (N - m) (48:UInt8))):=ZbF (by simp;omega)
 simp only[Zp,hN,hcl',hw1,hr,h0,List.length_map,EVS]
 have key2:=ZaP (R:=PV) (fun q:{q:List UInt8×Nat // Z2 q.1 N=true∧q.2≤N}=>[.str q.1.1,pI (Int.ofNat q.1.2)]) (fun q=>N+1 - q.1.2) (fun q=>some (.str (ZgX n (N - q.1.2) q.1.2 q.1.1)))
 refine (congrArg (fun m:Option PV=>m.bind fun r=>if r.sc=true then some r else none) (key2 _ (fun again q ih=> ?_) 18446744073709551616 ⟨(code++List.replicate (N - m) 48,m),hb0,by omega⟩ (by simp only;omega))).trans ?_
 ·obtain ⟨⟨v,k⟩,hb,hk⟩:=q
  dsimp only at ih hb hk⊢
  have hvl:=(ZaN.1 hb).2
  by_cases c2:k<N
  ·obtain ⟨a1,a2⟩:=ZxJ (k:=k) hn hv (by rw[hN];exact hb) (by omega)
   have a3:=ZlL n v k _ a1
   rw[a2] at a3
   simp only[Zp] at a3
   have h3:decide ((k:Int)<(N:Int))=true:=by simpa using c2
   have hw:IntKind.i64.wrap ((k:Int)+1)=((k+1:Nat):Int):=by rw[Zav (by omega) (by omega)];omega
   have h4:Zif (.str v) none (some (.int .i64 (k:Int)))=some (.str (v.take k)):=ZqK (by omega)
   have h5:Zif (.str v) (some (.int .i64 ((k+1:Nat):Int))) none=some (.str (v.drop (k+1))):=ZqL (by omega)
   have h6:Zd .add TD.str (.str (v.take k)) (.str [ZfT (Zgv n v k)])=some (.str (v.take k++[ZfT (Zgv n v k)])):=ZbF (by simp;omega)
   have h7:Zd .add TD.str (.str (v.take k++[ZfT (Zgv n v k)])) (.str (v.drop (k+1)))=some (.str (v.take k++[ZfT (Zgv n v k)]++v.drop (k+1))):=ZbF (by simp;omega)
   simp only[hvl,h3,h4,a3,ZxC,h6,hw,h5,h7,ZxD v k _ (show k<v.length by omega),EVS]
   have h8:=ih ⟨(v.set k (ZfT (Zgv n v k)),k+1),Zo9 hb _,by omega⟩ (by simp only;omega)
   rw[show N - k=(N - (k+1))+1 by omega]
   exact h8
  ·obtain rfl:k=N:=by omega
   have h3:decide ((k:Int)<(k:Int))=false:=by simp
   simp only[hvl,h3,EVS]
   rw[Nat.sub_self]
   rfl
 ·unfold Zeq
  rw[hN,hm]
  rfl
def Zug (a:PArc):Zfo:=(a.from_,a.sig,a.up,a.to_)
def Znr (c:PSG):List (List Int):=ZdF c.codes.length c.signals.length (c.arcs.map Zug)
def toC (c:PSG) (k s:Nat):Int:=Ze0 (Znr c) k s
structure Go1 (c:PSG) (n:PNet):Prop where
 net:Zdi n=true
 one:1≤c.codes.length
 many:c.codes.length≤300
 sone:1≤c.signals.length
 smany:c.signals.length≤8
 few:c.arcs.length≤4000
 bits:∀x∈c.codes,Z2 x c.signals.length=true
 arcs:∀a∈c.arcs,0≤a.from_∧a.from_<c.codes.length∧0≤a.to_∧a.to_<c.codes.length∧0≤a.sig∧a.sig<c.signals.length
 det:∀a∈c.arcs,∀b∈c.arcs,a.from_=b.from_→a.sig=b.sig→a.to_=b.to_
 same:c.signals=n.signals
 fitc:SGFit c
 fitn:n.Fit
theorem Zpo (w:PArc→PArc→Bool) (i:Nat) (a:PArc):∀(l:List PArc) (k:Nat) (acc:List (Nat×Nat)),Zdz w i a k acc l=[]→acc=[]∧∀b∈l,w a b=false
 |[],k,acc,h=>⟨h,by simp⟩
 | b::l,k,acc,h=>by
  unfold Zdz at h
  obtain ⟨h1,h2⟩:=Zpo w i a l (k+1) _ h
  cases c:w a b
  ·rw[c] at h1
   simp only[Bool.false_eq_true,if_false] at h1
   refine ⟨h1,fun x hx=> ?_⟩
   rcases List.mem_cons.1 hx with rfl|hx
   ·exact c
   ·exact h2 x hx
  ·rw[c] at h1
   simp at h1
theorem Zpp (w:PArc→PArc→Bool) (arcs:List PArc):∀(l:List PArc) (k:Nat) (acc:List (Nat×Nat)),Zhn w arcs k acc l=[]→acc=[]∧∀(i:Nat) (a:PArc),l[i]?=some a→∀b∈arcs.drop (k+i+1),w a b=false
 |[],k,acc,h=>⟨h,by simp⟩
 | a::l,k,acc,h=>by
  unfold Zhn at h
  obtain ⟨h1,h2⟩:=Zpp w arcs l (k+1) _ h
  obtain ⟨h3,h4⟩:=Zpo w _ a _ _ _ h1
  refine ⟨h3,fun i x hx=> ?_⟩
  cases i with
  |zero=>simp at hx;subst hx;exact h4
  | succ i=>
   have:=h2 i x (by simpa using hx)
   rwa[show k+1+i+1=k+(i+1)+1 by omega] at this
theorem Zyx {c:PSG} (h:ZgU c=true):1≤c.signals.length∧c.signals.length≤8:=by
 unfold ZgU Zkc inR at h
 simp only[Bool.and_eq_true,decide_eq_true_eq] at h
 omega
theorem ZmI {c:PSG} {n:PNet} (h:goP c n=true) (hc:SGFit c) (hn:n.Fit):Go1 c n:=by
 unfold goP ZxI at h
 simp only[Bool.and_eq_true,Bool.not_eq_true',decide_eq_true_eq] at h
 obtain ⟨⟨hs,hnet⟩,⟨hh,hw⟩,hsame⟩:=h
 obtain ⟨h1,h2,h3,h4⟩:=ZjB hs
 have hp:=ZiL h1 h2
 have hsg:=Zyx h1
 have harc:∀a∈c.arcs,0≤a.from_∧a.from_<c.codes.length∧0≤a.to_∧a.to_<c.codes.length∧0≤a.sig∧a.sig<c.signals.length:=fun a ha=>by
  have h5:=List.all_eq_true.1 h3 a ha
  have h6:a.sig≠ -1:=fun e=>by
   have:Zhl c.arcs=true:=List.any_eq_true.2 ⟨a,ha,decide_eq_true e⟩
   rw[this] at hh;cases hh
  unfold Zky Zc0 Zf3 inR at h5
  simp only[Bool.and_eq_true,Bool.or_eq_true,decide_eq_true_eq] at h5
  omega
 refine ⟨hnet,hp.one,hp.many,hsg.1,hsg.2,hp.arcs,hp.bits,harc, ?_,hsame,hc,hn⟩
 have hways:ZiQ Zkz c=[]:=List.length_eq_zero_iff.1 (by omega)
 have hkey:=(Zpp Zkz c.arcs c.arcs 0 [] hways).2
 have hlt:∀(i j:Nat) (a b:PArc),i<j→c.arcs[i]?=some a→c.arcs[j]?=some b→a.from_=b.from_→a.sig=b.sig→a.to_=b.to_:=fun i j a b hij hi hj e1 e2=>by
  have:=hkey i a hi b (by
   rw[Nat.zero_add]
   refine List.mem_of_getElem? (i:=j - (i+1)) ?_
   rw[List.getElem?_drop,show i+1+(j - (i+1))=j by omega]
   exact hj)
  have h6:=(harc a (List.mem_of_getElem? hi)).2.2.2.2.1
  unfold Zkz at this
  simp only[e1,e2,decide_true,Bool.and_true,Bool.true_and] at this
  have hn1:decide (b.sig= -1)=false:=by simp only[decide_eq_false_iff_not];omega
  rw[hn1] at this
  simp only[Bool.not_false,Bool.true_and,Bool.not_eq_false',decide_eq_true_eq] at this
  exact this.symm
 intro a ha b hb e1 e2
 obtain ⟨i,hi⟩:=List.getElem?_of_mem ha
 obtain ⟨j,hj⟩:=List.getElem?_of_mem hb
 rcases Nat.lt_trichotomy i j with h|h|h
 ·exact hlt i j a b h hi hj e1 e2
 ·subst h;rw[hi] at hj;cases hj;rfl
 ·exact (hlt j i b a h hj hi e1.symm e2.symm).symm
theorem ZiS {c:PSG} {n:PNet} (h:Go1 c n) {k s:Nat} (hk:k<c.codes.length) (hs:s<c.signals.length):
 (∃a∈c.arcs,(a.from_=(k:Int)∧a.sig=(s:Int))∧toC c k s=a.to_)∨(toC c k s= -1∧∀a∈c.arcs,¬(a.from_=(k:Int)∧a.sig=(s:Int))):=by
 rcases Zvd hk hs (c.arcs.map Zug) with ⟨q,hq,h1,h2⟩|⟨h1,h2⟩
 ·obtain ⟨a,ha,rfl⟩:=List.mem_map.1 hq
  have:=h.arcs a ha
  refine .inl ⟨a,ha, ?_,h2⟩
  unfold Zug at h1
  dsimp only at h1
  omega
 ·refine .inr ⟨h1,fun a ha hc=> ?_⟩
  have:=h.arcs a ha
  refine h2 (Zug a) (List.mem_map.2 ⟨a,ha,rfl⟩) ?_
  unfold Zug
  dsimp only
  omega
theorem toC_in {c:PSG} {n:PNet} (h:Go1 c n) {k s:Nat} (hk:k<c.codes.length) (hs:s<c.signals.length): -1≤toC c k s∧toC c k s<c.codes.length:=by
 rcases ZiS h hk hs with ⟨a,ha,_,h2⟩|⟨h1,_⟩
 ·have:=h.arcs a ha;omega
 ·have:=h.one;omega
theorem Zuh {R:Type} (q:PArc→Bool) (z:PArc→Option R) (e:Option R):∀(l:List PArc) (k:Nat),rgo (fun _ a=>if q a=true then some (z a) else none) e k l=match l.find? q with|some a=>z a|none=>e
 |[],k=>rfl
 | a::l,k=>by
  unfold rgo
  rw[List.find?_cons]
  cases c:q a
  ·simp only[Bool.false_eq_true,if_false]
   exact Zuh q z e l (k+1)
  ·simp
theorem Zyy (c:PSG) (n:PNet) (k s:Nat) (h:Go1 c n) (hk:k<c.codes.length) (hs:s<c.signals.length):ZjL [eSG c,pI (k:Int),pI (s:Int)]=some (pI (toC c k s)):=by
 have hl:=h.few
 show (fun x0 x1 x2=>ZjL [x0,x1,x2]) _ _ _=_
 rw[ZwF]
 simp only[eSG,List.length_map,EVS]
 refine (congrArg (fun m:Option PV=>m.bind fun r=>if r.sc=true then some r else none) ((Zro (R:=PV) c.arcs (fun _ a=>if (decide (a.from_=(k:Int))&&decide (a.sig=(s:Int)))=true then some (some (pI a.to_)) else none) (some (pI (-1))) _ (by omega) (fun again j a ha=> ?_) (fun again=> ?_)).trans (Zuh _ _ _ _ _))).trans ?_
 ·have hj:=Ze ha
  have hi:Zk (.lst (c.arcs.map Z3)) (.int .i64 (j:Int))=some (Z3 a):=Zj ha
  cases c1:decide (a.from_=(k:Int))<;>cases c2:decide (a.sig=(s:Int))<;>simp only[Zs hj,Zi hj (show c.arcs.length≤9223372036854775807 by omega),hi,Z3,c1,c2,Bool.false_eq_true,if_false,if_true,EVS]
 ·simp only[ZW,EVS]
  rfl
 ·cases hf:c.arcs.find? (fun a=>decide (a.from_=(k:Int))&&decide (a.sig=(s:Int))) with
  | none=>
   have hno:=List.find?_eq_none.1 hf
   rcases ZiS h hk hs with ⟨a,ha,h1,h2⟩|⟨h1,h2⟩
   ·exact absurd (by simp[h1]) (hno a ha)
   ·rw[h1];rfl
  | some a=>
   have ha:=List.mem_of_find?_eq_some hf
   have hq:=List.find?_some hf
   simp only[Bool.and_eq_true,decide_eq_true_eq] at hq
   rcases ZiS h hk hs with ⟨b,hb,h1,h2⟩|⟨h1,h2⟩
   ·rw[h2,h.det b hb a ha (by omega) (by omega)];rfl
   ·exact absurd hq (h2 a ha)
def Zb1 (c:PSG) (n:PNet):PV:=.agg [.lst (c.signals.map ZD),.lst (c.codes.map PV.str),.lst (c.arcs.map Z3),.lst (n.signals.map ZD),.lst (n.wires.map Zo),.lst ((Znr c).map ZsU)]
def zSys :PV:=.agg [.lst [],.lst [],.lst [],.lst [],.lst [],.lst []]
set_option maxRecDepth 20000 in
theorem Zqc (c:PSG) (n:PNet) (hc:SGFit c) (hn:n.Fit):Zfg [eSG c,Zp n]=some (.tup [if goP c n=true then Zb1 c n else zSys,pB (goP c n)]):=by
 have g:=ZkB c n hc hn
 show (match Zbo [eSG c,Zp n] with
  | some (.tup [.bool is,.bool ok])=>
   match ok&&is with
   | true=>match Zia (c.arcs.map Z3) with
    |some ars=>if 1≤(c.signals.map ZD).length∧(c.signals.map ZD).length≤1048576∧(c.codes.map PV.str).length≤1000000∧(ars.all (Zmb (c.codes.map PV.str).length (c.signals.map ZD).length))=true then some (PV.tup [.agg [.lst (c.signals.map ZD),.lst (c.codes.map PV.str),.lst (c.arcs.map Z3),.lst (n.signals.map ZD),.lst (n.wires.map Zo),.lst ((ZdF (c.codes.map PV.str).length (c.signals.map ZD).length ars).map ZsU)],.bool true]) else none
    |none=>none
   |false=>some (PV.tup [.agg [.lst [],.lst [],.lst [],.lst [],.lst [],.lst []],.bool false])
  |_=>none)=_
 rw[g]
 have hgo:((sgV c&&Zdi n)&&goP c n)=goP c n:=by
  unfold goP
  cases sgV c<;>cases Zdi n<;>simp
 show (match ((sgV c&&Zdi n)&&goP c n) with
  | true=>match Zia (c.arcs.map Z3) with
   |some ars=>if 1≤(c.signals.map ZD).length∧(c.signals.map ZD).length≤1048576∧(c.codes.map PV.str).length≤1000000∧(ars.all (Zmb (c.codes.map PV.str).length (c.signals.map ZD).length))=true then some (PV.tup [.agg [.lst (c.signals.map ZD),.lst (c.codes.map PV.str),.lst (c.arcs.map Z3),.lst (n.signals.map ZD),.lst (n.wires.map Zo),.lst ((ZdF (c.codes.map PV.str).length (c.signals.map ZD).length ars).map ZsU)],.bool true]) else none
   |none=>none
  |false=>some (PV.tup [.agg [.lst [],.lst [],.lst [],.lst [],.lst [],.lst []],.bool false]))=_
 rw[hgo]
 cases hg:goP c n
 ·rfl
 ·have h:=ZmI hg hc hn
  have ha:Zia (c.arcs.map Z3)=some (c.arcs.map Zug):=by
   have:c.arcs.map Z3=(c.arcs.map Zug).map pArc:=by rw[List.map_map];rfl
   rw[this,ZpV]
  dsimp only
  rw[ha]
  dsimp only
  rw[if_pos]
  ·simp only[if_true,List.length_map];rfl
  ·simp only[List.length_map]
   have h1:=h.sone
   have h2:=h.smany
   have h3:=h.many
   refine ⟨h1,by omega,by omega,List.all_eq_true.2 fun q hq=> ?_⟩
   obtain ⟨a,ha,rfl⟩:=List.mem_map.1 hq
   have:=h.arcs a ha
   unfold Zmb Zug
   simp only[decide_eq_true_eq]
   omega
def ePs (b:PSt):PV:=.agg [pI b.state,.str b.values]
def eFl (f:Flip):PV:=.agg [pI f.from_,pI f.wire,pI f.to]
def ePr (p:ProdG):PV:=.agg [.lst (p.states.map ePs),.lst (p.flips.map eFl),.lst (p.extra.map eFl)]
theorem Zmw (a b c d e f:PV):Zb true 3 2 [a,b,c,d,e,f]=some (.agg [d,e]):=rfl
theorem ZoJ (a b c d e f a' b' c' d' e' f':PV):splice [a,b,c,d,e,f] 0 [a',b',c',d',e',f']=[a',b',c',d',e',f']:=rfl
theorem ZnD (a b c d e f:PV):Zb true 0 6 [a,b,c,d,e,f]=some (.agg [a,b,c,d,e,f]):=rfl
theorem Go1.vals {c:PSG} {n:PNet} (h:Go1 c n) {v:List UInt8} (hb:Z2 v n.wires.length=true):Ze7 n v=true∧ZA v∧v.length=n.wires.length∧n.wires.length≤24∧n.signals.length≤n.wires.length∧n.signals.length=c.signals.length:=by
 have h1:=ZaQ h.net
 have h2:=(ZaN.1 hb).2
 refine ⟨by unfold Ze7;rw[h.net,hb];rfl,by unfold ZA;omega,h2,h1.2,h1.1,by rw[h.same]⟩
theorem Go1.code {c:PSG} {n:PNet} (h:Go1 c n):∃x,c.codes[0]?=some x∧Z2 x n.signals.length=true:=by
 have h1:=h.one
 refine ⟨c.codes[0],List.getElem?_eq_getElem (by omega), ?_⟩
 rw[←h.same]
 exact h.bits _ (List.getElem_mem _)
def Zhf (c:PSG) (n:PNet):PSt:=⟨0,Zeq n (c.codes.getD 0 [])⟩
theorem ZrR (c:PSG) (n:PNet) (h:Go1 c n):Zfl [eSG c,Zp n]=some (ePs (Zhf c n)):=by
 obtain ⟨x,hx,hb⟩:=h.code
 have g:=Zqb n x h.fitn h.net hb
 have hi:Zk (.lst (c.codes.map PV.str)) (.int .i64 ((0:Nat):Int))=some (.str x):=Zj hx
 show (fun x0 x1=>Zfl [x0,x1]) _ _=_
 rw[ZqD]
 unfold Zhf
 rw[List.getD_eq_getElem?_getD,hx]
 simp only[Int.natCast_zero] at hi
 simp only[Zp] at g
 simp only[eSG,Zp,ZL,hi,g,EVS]
 rfl
theorem ZtF (c:PSG) (n:PNet) (h:Go1 c n):Zb9 [Zb1 c n]=some (ePs (Zhf c n)):=by
 obtain ⟨x,hx,hb⟩:=h.code
 have g:=Zwj n x h.fitn h.net hb
 have hi:Zk (.lst (c.codes.map PV.str)) (.int .i64 ((0:Nat):Int))=some (.str x):=Zj hx
 show (fun x0=>Zb9 [x0]) _=_
 rw[ZjV]
 unfold Zhf
 rw[List.getD_eq_getElem?_getD,hx]
 simp only[Int.natCast_zero] at hi
 simp only[Zp] at g
 simp only[Zb1,Zmw,hi,g,EVS]
 rfl
theorem ZAC (c:PSG) {k:Nat} (hk:k<c.codes.length):∃row,(Znr c)[k]?=some row∧row.length=c.signals.length∧∀s,toC c k s=row.getD s (-1):=by
 have hl:(Znr c).length=c.codes.length:=ZwL _ _ _
 refine ⟨(Znr c)[k]'(by omega),List.getElem?_eq_getElem _,ZwM _ _ _ _ (List.getElem_mem _),fun s=> ?_⟩
 unfold toC Ze0
 rw[List.getD_eq_getElem?_getD (l:=Znr c),List.getElem?_eq_getElem (by omega)]
 rfl
theorem Zlz (c:PSG) {k s:Nat} (hk:k<c.codes.length) (hs:s<c.signals.length):∃row:List PV,Zk (.lst ((Znr c).map ZsU)) (.int .i64 (k:Int))=some (.lst row)∧Zk (.lst row) (.int .i64 (s:Int))=some (pI (toC c k s)):=by
 obtain ⟨row,h1,h2,h3⟩:=ZAC c hk
 refine ⟨row.map pI,Zj h1, ?_⟩
 refine ZnU ?_
 rw[h3 s,List.getElem?_map,List.getElem?_eq_getElem (by omega),List.getD_eq_getElem?_getD,List.getElem?_eq_getElem (by omega)]
 rfl
def ZiC (n:PNet) (k:Nat):Int:=match n.wires[k]? with|some w=>w.kind|none=>0
def inAt (n:PNet) (k:Nat):Bool:=match n.signals[k]? with|some s=>decide (s.2=1)|none=>false
theorem ZAE {n:PNet} (hv:Zdi n=true) {k:Nat} (hk:k<n.signals.length):decide (ZiC n k=1)=inAt n k:=by
 have hs:=(ZaQ hv).1
 have hw:n.wires[k]?=some n.wires[k]:=List.getElem?_eq_getElem (by omega)
 have hsg:n.signals[k]?=some n.signals[k]:=List.getElem?_eq_getElem hk
 unfold ZiC inAt
 rw[hw,hsg]
 unfold Zdi at hv
 simp only[Bool.and_eq_true] at hv
 have h1:=Zjx _ _ _ hv.2 k _ hw
 rw[Nat.zero_add] at h1
 unfold ZbJ ZlK ZgR at h1
 have hd:decide ((k:Int)<(n.signals.length:Int))=true:=by simp only[decide_eq_true_eq];omega
 rw[hd,hsg] at h1
 simp only[Bool.and_eq_true,Bool.not_true,Bool.false_or,beq_iff_eq] at h1
 exact h1.1.1.1.2.2
def ZjP (c:PSG) (n:PNet) (s:Nat) (v:List UInt8) (k:Nat):Bool:=if n.signals.length≤k then Zq n v k else decide (0≤toC c s k)&&(decide (ZiC n k=1)||Zq n v k)
theorem ZtG (c:PSG) (n:PNet) (h:Go1 c n) (s:Nat) (v:List UInt8) (k:Nat) (hs:s<c.codes.length) (hb:Z2 v n.wires.length=true) (hk:k<n.wires.length):Zca [Zb1 c n,ePs ⟨s,v⟩,pI (k:Int)]=some (pB (ZjP c n s v k)):=by
 obtain ⟨h1,h2,h3,h4,h5,h6⟩:=h.vals hb
 have g:=ZdQ n v k h.fitn h2 h1 hk
 simp only[Zp] at g
 show (fun x0 x1 x2=>Zca [x0,x1,x2]) _ _ _=_
 rw[ZjX]
 unfold ZjP
 by_cases c1:n.signals.length≤k
 ·have hd:decide ((n.signals.length:Int)≤(k:Int))=true:=by simp only[decide_eq_true_eq];omega
  rw[if_pos c1]
  simp only[Zb1,ePs,List.length_map,hd,Zmw,g,EVS]
 ·have hd:decide ((n.signals.length:Int)≤(k:Int))=false:=by simp only[decide_eq_false_iff_not];omega
  obtain ⟨row,r1,r2⟩:=Zlz c hs (show k<c.signals.length by omega)
  have hw:Zk (.lst (n.wires.map Zo)) (.int .i64 (k:Int))=some (Zo n.wires[k]):=Zj (List.getElem?_eq_getElem hk)
  have hkd:ZiC n k=n.wires[k].kind:=by unfold ZiC;rw[List.getElem?_eq_getElem hk]
  rw[if_neg c1,hkd]
  cases c2:decide (0≤toC c s k)<;>cases c3:decide (n.wires[k].kind=1)<;>simp only[Zb1,ePs,List.length_map,hd,Zmw,r1,r2,c2,c3,hw,Zo,List.drop_succ_cons,List.drop_zero,g,EVS]
def flB (b:UInt8):UInt8:=if b=48 then 49 else 48
def ZbI (v:List UInt8) (k:Nat):List UInt8:=v.set k (flB (v.getD k 48))
def Zas (c:PSG) (n:PNet) (s:Nat) (v:List UInt8) (k:Nat):PSt:=⟨if k<n.signals.length then toC c s k else s,ZbI v k⟩
theorem ZAF (b:UInt8):ZfC (flB b)=true:=by unfold flB;split<;>decide
theorem ZoK {v:List UInt8} {N k:Nat} (h:Z2 v N=true):Z2 (ZbI v k) N=true:=by
 rw[ZaN] at h⊢
 refine ⟨fun b hb=> ?_,by unfold ZbI;rw[List.length_set];exact h.2⟩
 unfold ZbI at hb
 rcases List.mem_or_eq_of_mem_set hb with hb|rfl
 ·exact h.1 b hb
 ·exact ZAF _
theorem ZAG {b:UInt8} (h:ZfC b=true):Zd .xor (TD.int .u8) (pU b) (.int .u8 1)=some (pU (flB b)):=by
 rcases (ZlM b).1 h with rfl|rfl<;>rfl
theorem ZzK (c:PSG) (n:PNet) (h:Go1 c n) (s:Nat) (v:List UInt8) (k:Nat) (hs:s<c.codes.length) (hb:Z2 v n.wires.length=true) (hk:k<n.wires.length):Zdw [Zb1 c n,ePs ⟨s,v⟩,pI (k:Int)]=some (ePs (Zas c n s v k)):=by
 obtain ⟨h1,h2,h3,h4,h5,h6⟩:=h.vals hb
 have hc:=ZAY v h2
 have hvk:v[k]?=some v[k]:=List.getElem?_eq_getElem (by omega)
 have p1:ZaM (v.map pU) (.int .i64 (k:Int))=some (.int .i64 (k:Int)):=ZbE (by rw[List.length_map];omega)
 have q1:(v.map pU)[k]?=some (pU v[k]):=by rw[List.getElem?_map,hvk];rfl
 have hx:=ZAG ((ZaN.1 hb).1 v[k] (List.getElem_mem _))
 have hse:ZaB 0 1 [pU v[k]] (pU v[k]) (pU (flB v[k]))=some (pU (flB v[k])):=rfl
 have st:(v.map pU).set k (pU (flB v[k]))=(v.set k (flB v[k])).map pU:=ZjA pU v k _
 have hbo:=Ziq (v.set k (flB v[k]))
 have hfv:ZbI v k=v.set k (flB v[k]):=by unfold ZbI;rw[List.getD_eq_getElem?_getD,hvk];rfl
 show (fun x0 x1 x2=>Zdw [x0,x1,x2]) _ _ _=_
 rw[ZmR]
 unfold Zas
 rw[hfv]
 by_cases c1:k<n.signals.length
 ·have hd:decide ((k:Int)<(n.signals.length:Int))=true:=by simp only[decide_eq_true_eq];omega
  obtain ⟨row,r1,r2⟩:=Zlz c hs (show k<c.signals.length by omega)
  rw[if_pos c1]
  simp only[Zb1,ePs,List.length_map,hc,p1,q1,Int.toNat_natCast,hx,hse,st,hbo,hd,r1,r2,EVS]
 ·have hd:decide ((k:Int)<(n.signals.length:Int))=false:=by simp only[decide_eq_false_iff_not];omega
  rw[if_neg c1]
  simp only[Zb1,ePs,List.length_map,hc,p1,q1,Int.toNat_natCast,hx,hse,st,hbo,hd,EVS]
theorem ZrS (v:List UInt8) (k:Nat) (hk:k<v.length) (hv:ZA v):Zfm [.str v,pI (k:Int)]=some (.str (ZbI v k)):=by
 have hvk:v[k]?=some v[k]:=List.getElem?_eq_getElem hk
 have hb:Zan (.str v) (.int .i64 (k:Int))=some (pU v[k]):=Zr hvk
 have g1:=Zjy (decide ((v[k].toNat:Int)=48))
 have g2:=Zjz v k (ZfT (decide ((v[k].toNat:Int)=48))) hk hv
 have hfb:ZfT (decide ((v[k].toNat:Int)=48))=flB v[k]:=by
  unfold flB
  have:((v[k].toNat:Int)=48)↔v[k]=48:=by rw[←UInt8.toNat_inj];exact Int.ofNat_inj
  by_cases c:v[k]=48
  ·rw[if_pos c,decide_eq_true (this.2 c)];rfl
  ·rw[if_neg c,decide_eq_false (fun e=>c (this.1 e))];rfl
 show (fun x0 x1=>Zfm [x0,x1]) _ _=_
 rw[ZqF]
 unfold ZbI
 rw[List.getD_eq_getElem?_getD,hvk,Option.getD_some,←hfb]
 simp only[hb,g1,g2,EVS]
theorem Zye (l:List Int) (x:Int) (hl:ZA l):ZjM [.lst (l.map pI),pI x]=some (pB (decide (x∈l))):=by
 unfold ZA at hl
 show (fun x0 x1=>ZjM [x0,x1]) _ _=_
 rw[ZwH]
 simp only[EVS]
 refine (congrArg (fun m:Option PV=>m.bind fun r=>if r.sc=true then some r else none) (ZO (R:=PV) l (fun _ y=> !decide (x=y)) (some (pB true)) (some (pB false)) _ hl (fun again k y hx=> ?_) (fun again=> ?_))).trans ?_
 ·have hk:=Ze hx
  have hi:Zk (.lst (l.map pI)) (.int .i64 (k:Int))=some (pI y):=Zj hx
  have he:decide (y=x)=decide (x=y):=by rw[Bool.eq_iff_iff,decide_eq_true_eq,decide_eq_true_eq];exact eq_comm
  simp only[Zs hk,Zi hk hl,hi,he,EVS]
  cases decide (x=y)<;>simp only[EVS]
 ·simp only[ZW,EVS]
 ·rw[ZiN]
  cases decide (x∈l)<;>rfl
theorem ZvP (good:Nat→Bool) (N k:Nat) (hk:k<N):decide ((k:Int)∈ZaW good N)=good k:=by
 unfold ZaW
 rw[Bool.eq_iff_iff,decide_eq_true_eq,List.mem_map]
 constructor
 ·rintro ⟨i,hi,he⟩
  rw[List.mem_filter] at hi
  have:i=k:=by have:(i:Int)=(k:Int):=he;omega
  rw[←this]
  exact hi.2
 ·intro h
  exact ⟨k,List.mem_filter.2 ⟨List.mem_range.2 hk,h⟩,rfl⟩
def ZaD (c:PSG) (n:PNet) (s:Nat) (v:List UInt8) (k:Nat):List Nat:=(List.range k).filter (ZjP c n s v)
def Zhg (c:PSG) (n:PNet) (s:Nat) (v:List UInt8) (k:Nat):Bool:=decide (k<n.signals.length)&&((!decide (ZiC n k=1)&&decide (toC c s k<0))&&Zq n v k)
def Zap (c:PSG) (n:PNet) (s:Nat) (v:List UInt8) (k:Nat):List Nat:=(List.range k).filter (Zhg c n s v)
def eNn (i:Nat):PV:=pI (i:Int)
theorem ZeJ {good:Nat→Bool} {k:Nat} (h:good k=true):(List.range (k+1)).filter good=(List.range k).filter good++[k]:=by
 rw[List.range_succ,List.filter_append];simp[h]
theorem Zds {good:Nat→Bool} {k:Nat} (h:good k=false):(List.range (k+1)).filter good=(List.range k).filter good:=by
 rw[List.range_succ,List.filter_append];simp[h]
theorem ZeK (good:Nat→Bool) (k:Nat):((List.range k).filter good).length≤k:=by
 have:=List.length_filter_le good (List.range k)
 simpa using this
theorem ZoL (c:PSG) (n:PNet) (h:Go1 c n) (s:Nat) (v:List UInt8) (hs:s<c.codes.length) (hb:Z2 v n.wires.length=true):
 Za5 [Zb1 c n,ePs ⟨s,v⟩]=some (.tup [.lst ((ZaD c n s v n.wires.length).map fun k=>ePs (Zas c n s v k)),.lst ((ZaD c n s v n.wires.length).map eNn)]):=by
 obtain ⟨h1,h2,h3,h4,h5,h6⟩:=h.vals hb
 show (fun x0 x1=>Za5 [x0,x1]) _ _=_
 rw[ZhC]
 simp only[Zb1,ePs,List.length_map,EVS]
 refine (Zec (R:=PV) 0 n.wires.length (fun k=>[.lst ((ZaD c n s v k).map eNn),.lst ((ZaD c n s v k).map fun k=>ePs (Zas c n s v k)),pI (Int.ofNat k)]) (some (.tup [.lst ((ZaD c n s v n.wires.length).map fun k=>ePs (Zas c n s v k)),.lst ((ZaD c n s v n.wires.length).map eNn)])) _ (by omega) (fun again k k1 k2=> ?_) (fun again=> ?_) (Nat.zero_le _) _ (by simp[ZaD]))
 ·have a1:=ZtG c n h s v k hs hb k2
  have a2:=ZzK c n h s v k hs hb k2
  have hcl:(ZaD c n s v k).length≤k:=ZeK _ k
  simp only[Zb1,ePs] at a1 a2
  have hm:n.wires.length≤9223372036854775807:=by omega
  have hla:(ZaD c n s v k).length+[ePs (Zas c n s v k)].length≤4294967296∧[ePs (Zas c n s v k)].all (Zao 2)=true:=⟨by simp;omega,rfl⟩
  have hlb:(ZaD c n s v k).length+[pI (k:Int)].length≤4294967296∧[pI (k:Int)].all (Zao 1)=true:=⟨by simp;omega,rfl⟩
  simp only[ePs] at hla
  simp only[Zs k2,ZnD,a1,EVS]
  cases hE:ZjP c n s v k
  ·have e1:ZaD c n s v (k+1)=ZaD c n s v k:=Zds hE
   simp only[Zi k2 hm,e1,EVS]
  ·have e1:ZaD c n s v (k+1)=ZaD c n s v k++[k]:=ZeJ hE
   simp only[a2,if_pos hla,if_pos hlb,Zi k2 hm,e1,ZnD,List.map_append,List.map_cons,List.map_nil,eNn,EVS]
   rfl
 ·simp only[ZW,EVS]
theorem ZvQ (c:PSG) (n:PNet) (s:Nat) (v:List UInt8):∀(k:Nat),n.signals.length≤k→Zap c n s v k=Zap c n s v n.signals.length:=by
 intro k hk
 induction k with
 | zero => have:n.signals.length=0:=by omega
           rw[this]
 | succ k ih=>
  by_cases c1:n.signals.length≤k
  ·have:Zhg c n s v k=false:=by unfold Zhg;rw[decide_eq_false (by omega)];rfl
   rw[←ih c1]
   exact Zds this
  ·rw[show n.signals.length=k+1 by omega]
theorem ZoM (c:PSG) (n:PNet) (h:Go1 c n) (s:Nat) (v:List UInt8) (hs:s<c.codes.length) (hb:Z2 v n.wires.length=true):
 Za6 [Zb1 c n,ePs ⟨s,v⟩]=some (.lst ((Zap c n s v n.wires.length).map eNn)):=by
 obtain ⟨h1,h2,h3,h4,h5,h6⟩:=h.vals hb
 rw[ZvQ c n s v _ h5]
 show (fun x0 x1=>Za6 [x0,x1]) _ _=_
 rw[ZhE]
 simp only[Zb1,ePs,List.length_map,EVS]
 refine (Zec (R:=PV) 0 n.signals.length (fun k=>[.lst ((Zap c n s v k).map eNn),pI (Int.ofNat k)]) (some (.lst ((Zap c n s v n.signals.length).map eNn))) _ (by omega) (fun again k k1 k2=> ?_) (fun again=> ?_) (Nat.zero_le _) _ (by simp[Zap]))
 ·have hkw:k<n.wires.length:=by omega
  have g:=ZdQ n v k h.fitn h2 h1 hkw
  simp only[Zp] at g
  have hcl:(Zap c n s v k).length≤k:=ZeK _ k
  have hm:n.signals.length≤9223372036854775807:=by omega
  have hlb:(Zap c n s v k).length+[pI (k:Int)].length≤4294967296∧[pI (k:Int)].all (Zao 1)=true:=⟨by simp;omega,rfl⟩
  obtain ⟨row,r1,r2⟩:=Zlz c hs (show k<c.signals.length by omega)
  have hw:Zk (.lst (n.wires.map Zo)) (.int .i64 (k:Int))=some (Zo n.wires[k]):=Zj (List.getElem?_eq_getElem hkw)
  have hkd:ZiC n k=n.wires[k].kind:=by unfold ZiC;rw[List.getElem?_eq_getElem hkw]
  have hE:Zhg c n s v k=((!decide (n.wires[k].kind=1)&&decide (toC c s k<0))&&Zq n v k):=by unfold Zhg;rw[decide_eq_true k2,hkd];rfl
  cases c2:decide (n.wires[k].kind=1)<;>cases c3:decide (toC c s k<0)<;>cases c4:Zq n v k<;>rw[c2,c3,c4] at hE<;>
   simp only[Bool.not_true,Bool.not_false,Bool.and_true,Bool.and_false,Bool.true_and,Bool.false_and] at hE
  all_goals first
   | (have e1:Zap c n s v (k+1)=Zap c n s v k:=Zds hE
      simp only[Zs k2,hw,Zo,List.drop_succ_cons,List.drop_zero,c2,c3,c4,r1,r2,Zmw,g,Zi k2 hm,e1,EVS])
   | (have e1:Zap c n s v (k+1)=Zap c n s v k++[k]:=ZeJ hE
      simp only[Zs k2,hw,Zo,List.drop_succ_cons,List.drop_zero,c2,c3,c4,r1,r2,Zmw,g,if_pos hlb,Zi k2 hm,e1,List.map_append,List.map_cons,List.map_nil,eNn,EVS])
 ·simp only[ZW,EVS]
theorem ZtH (c:PSG) (n:PNet) (h:Go1 c n) (s:Nat) (v:List UInt8) (hs:s<c.codes.length) (hb:Z2 v n.wires.length=true):
 Zgk [eSG c,Zp n,ePs ⟨s,v⟩]=some (.tup [.lst ((ZaD c n s v n.wires.length).map fun k=>ePs (Zas c n s v k)),.lst ((ZaD c n s v n.wires.length).map eNn),.lst ((Zap c n s v n.wires.length).map eNn)]):=by
 obtain ⟨h1,h2,h3,h4,h5,h6⟩:=h.vals hb
 have g0:=ZiR n v h.fitn h2 h1 (by omega)
 simp only[Zp] at g0
 show (fun x0 x1 x2=>Zgk [x0,x1,x2]) _ _ _=_
 rw[ZsM]
 simp only[eSG,Zp,ePs,ZL,g0,List.length_map,EVS]
 refine (Zec (R:=PV) 0 n.wires.length (fun k=>[.lst ((ZaD c n s v k).map fun k=>ePs (Zas c n s v k)),.lst ((ZaD c n s v k).map eNn),.lst ((Zap c n s v k).map eNn),pI (Int.ofNat k)]) (some (.tup [.lst ((ZaD c n s v n.wires.length).map fun k=>ePs (Zas c n s v k)),.lst ((ZaD c n s v n.wires.length).map eNn),.lst ((Zap c n s v n.wires.length).map eNn)])) _ (by omega) (fun again k k1 k2=> ?_) (fun again=> ?_) (Nat.zero_le _) _ (by simp[ZaD,Zap]))
 ·have g1:=Zye (ZaW (Zq n v) n.wires.length) k (by unfold ZA;have:=ZkC (Zq n v) n.wires.length;omega)
  rw[ZvP _ _ _ k2] at g1
  have g2:=ZrS v k (by omega) h2
  have hcl:(ZaD c n s v k).length≤k:=ZeK _ k
  have hcx:(Zap c n s v k).length≤k:=ZeK _ k
  have hm:n.wires.length≤9223372036854775807:=by omega
  have hlb:(ZaD c n s v k).length+[pI (k:Int)].length≤4294967296∧[pI (k:Int)].all (Zao 1)=true:=⟨by simp;omega,rfl⟩
  have hlx:(Zap c n s v k).length+[pI (k:Int)].length≤4294967296∧[pI (k:Int)].all (Zao 1)=true:=⟨by simp;omega,rfl⟩
  by_cases c1:k<n.signals.length
  ·have hd:=Zs c1
   have hsg:Zk (.lst (n.signals.map ZD)) (.int .i64 (k:Int))=some (ZD n.signals[k]):=Zj (List.getElem?_eq_getElem c1)
   have hin:inAt n k=decide (n.signals[k].2=1):=by unfold inAt;rw[List.getElem?_eq_getElem c1]
   have hki:=ZAE h.net c1
   rw[hin] at hki
   have g3:=Zyy c n s k h hs (by omega)
   simp only[eSG] at g3
   have hla:(ZaD c n s v k).length+[PV.agg [pI (toC c s k),.str (ZbI v k)]].length≤4294967296∧[PV.agg [pI (toC c s k),.str (ZbI v k)]].all (Zao 2)=true:=⟨by simp;omega,rfl⟩
   have hfl:Zas c n s v k=⟨toC c s k,ZbI v k⟩:=by unfold Zas;rw[if_pos c1]
   have hE:ZjP c n s v k=(decide (0≤toC c s k)&&(decide (n.signals[k].2=1)||Zq n v k)):=by unfold ZjP;rw[if_neg (by omega),hki]
   have hX:Zhg c n s v k=((!decide (n.signals[k].2=1)&&decide (toC c s k<0))&&Zq n v k):=by unfold Zhg;rw[decide_eq_true c1,hki];rfl
   by_cases c3:0≤toC c s k
   ·have c3':decide (0≤toC c s k)=true:=decide_eq_true c3
    have c3'':decide (toC c s k<0)=false:=decide_eq_false (by omega)
    rw[c3'] at hE
    rw[c3''] at hX
    simp only[Bool.and_false,Bool.false_and,Bool.true_and] at hE hX
    have e2:Zap c n s v (k+1)=Zap c n s v k:=Zds hX
    cases c2:decide (n.signals[k].2=1)<;>cases c4:Zq n v k<;>rw[c2,c4] at hE<;>rw[c4] at g1<;>simp only[Bool.or_true,Bool.or_false,Bool.true_or,Bool.false_or] at hE
    ·have e1:ZaD c n s v (k+1)=ZaD c n s v k:=Zds hE
     simp only[Zs k2,hd,hsg,ZS,g3,g1,c2,c3',List.drop_succ_cons,List.drop_zero,Zi k2 hm,e1,e2,EVS]
    ·have e1:ZaD c n s v (k+1)=ZaD c n s v k++[k]:=ZeJ hE
     simp only[Zs k2,hd,hsg,ZS,g3,g2,g1,c2,c3',List.drop_succ_cons,List.drop_zero,if_pos hla,if_pos hlb,Zi k2 hm,e1,e2,hfl,ePs,List.map_append,List.map_cons,List.map_nil,eNn,EVS]
    ·have e1:ZaD c n s v (k+1)=ZaD c n s v k++[k]:=ZeJ hE
     simp only[Zs k2,hd,hsg,ZS,g3,g2,g1,c2,c3',List.drop_succ_cons,List.drop_zero,if_pos hla,if_pos hlb,Zi k2 hm,e1,e2,hfl,ePs,List.map_append,List.map_cons,List.map_nil,eNn,EVS]
    ·have e1:ZaD c n s v (k+1)=ZaD c n s v k++[k]:=ZeJ hE
     simp only[Zs k2,hd,hsg,ZS,g3,g2,g1,c2,c3',List.drop_succ_cons,List.drop_zero,if_pos hla,if_pos hlb,Zi k2 hm,e1,e2,hfl,ePs,List.map_append,List.map_cons,List.map_nil,eNn,EVS]
   ·have c3':decide (0≤toC c s k)=false:=decide_eq_false c3
    have c3'':decide (toC c s k<0)=true:=decide_eq_true (by omega)
    rw[c3'] at hE
    rw[c3''] at hX
    simp only[Bool.and_true,Bool.false_and,Bool.true_and] at hE hX
    have e1:ZaD c n s v (k+1)=ZaD c n s v k:=Zds hE
    cases c2:decide (n.signals[k].2=1)<;>cases c4:Zq n v k<;>rw[c2,c4] at hX<;>rw[c4] at g1<;>simp only[Bool.not_true,Bool.not_false,Bool.and_true,Bool.and_false,Bool.true_and,Bool.false_and] at hX
    ·have e2:Zap c n s v (k+1)=Zap c n s v k:=Zds hX
     simp only[Zs k2,hd,hsg,ZS,g3,g1,c2,c3',List.drop_succ_cons,List.drop_zero,Zi k2 hm,e1,e2,EVS]
    ·have e2:Zap c n s v (k+1)=Zap c n s v k++[k]:=ZeJ hX
     simp only[Zs k2,hd,hsg,ZS,g3,g1,c2,c3',List.drop_succ_cons,List.drop_zero,if_pos hlx,Zi k2 hm,e1,e2,List.map_append,List.map_cons,List.map_nil,eNn,EVS]
    ·have e2:Zap c n s v (k+1)=Zap c n s v k:=Zds hX
     simp only[Zs k2,hd,hsg,ZS,g3,g1,c2,c3',List.drop_succ_cons,List.drop_zero,Zi k2 hm,e1,e2,EVS]
    ·have e2:Zap c n s v (k+1)=Zap c n s v k:=Zds hX
     simp only[Zs k2,hd,hsg,ZS,g3,g1,c2,c3',List.drop_succ_cons,List.drop_zero,Zi k2 hm,e1,e2,EVS]
  ·have hd:decide ((k:Int)<(n.signals.length:Int))=false:=by simp only[decide_eq_false_iff_not];omega
   have hE:ZjP c n s v k=Zq n v k:=by unfold ZjP;rw[if_pos (by omega)]
   have hX:Zhg c n s v k=false:=by unfold Zhg;rw[decide_eq_false c1];rfl
   have e2:Zap c n s v (k+1)=Zap c n s v k:=Zds hX
   have hfl:Zas c n s v k=⟨(s:Int),ZbI v k⟩:=by unfold Zas;rw[if_neg c1]
   have hla:(ZaD c n s v k).length+[PV.agg [pI (s:Int),.str (ZbI v k)]].length≤4294967296∧[PV.agg [pI (s:Int),.str (ZbI v k)]].all (Zao 2)=true:=⟨by simp;omega,rfl⟩
   have hge:decide (0≤(s:Int))=true:=decide_eq_true (by omega)
   cases c4:Zq n v k<;>rw[c4] at hE g1
   ·have e1:ZaD c n s v (k+1)=ZaD c n s v k:=Zds hE
    simp only[Zs k2,hd,ZS,g1,hge,Zi k2 hm,e1,e2,EVS]
   ·have e1:ZaD c n s v (k+1)=ZaD c n s v k++[k]:=ZeJ hE
    simp only[Zs k2,hd,ZS,g2,g1,hge,if_pos hla,if_pos hlb,Zi k2 hm,e1,e2,hfl,ePs,List.map_append,List.map_cons,List.map_nil,eNn,EVS]
 ·simp only[ZW,EVS]
def StB (c:PSG) (n:PNet) (b:PSt):Prop:=∃s:Nat,b.state=s∧s<c.codes.length∧Z2 b.values n.wires.length=true
def ZcX (k:Nat) (P:ProdG) (w:Nat) (b:PSt):ProdG:=
 if b∈P.states then ⟨P.states,P.flips++[⟨k,w,(P.states.idxOf b:Nat)⟩],P.extra⟩ else ⟨P.states++[b],P.flips++[⟨k,w,(P.states.length:Nat)⟩],P.extra⟩
def inU (c:PSG) (n:PNet) (k s:Nat) (v:List UInt8):List Nat→ProdG→ProdG
 |[],P=>P
 |w::r,P=>inU c n k s v r (ZcX k P w (Zas c n s v w))
def exU (k:Nat) (l:List Nat) (P:ProdG):ProdG:=⟨P.states,P.flips,P.extra++l.map fun w:Nat=>⟨(k:Int),(w:Int), -1⟩⟩
def rdU (c:PSG) (n:PNet) (k:Nat) (b:PSt) (P:ProdG):ProdG:=
 exU k (Zap c n b.state.toNat b.values n.wires.length) (inU c n k b.state.toNat b.values (ZaD c n b.state.toNat b.values n.wires.length) P)
def ZjQ (c:PSG) (n:PNet):Nat→Nat→ProdG→Option ProdG
 |0,_,P=>some P
 | f+1,k,P=>match P.states[k]? with
  |none=>some P
  |some b=>if 600<(rdU c n k b P).states.length then none else ZjQ c n f (k+1) (rdU c n k b P)
def Ze3 (c:PSG) (n:PNet):Option ProdG:=ZjQ c n 601 0 ⟨[Zhf c n],[],[]⟩
theorem ZgO (k:Nat) (P:ProdG) (w:Nat) (b:PSt):P.states.length≤(ZcX k P w b).states.length∧(ZcX k P w b).states.length≤P.states.length+1∧(ZcX k P w b).flips.length=P.flips.length+1∧(ZcX k P w b).extra=P.extra:=by
 unfold ZcX
 split<;>simp
theorem Zf1 (c:PSG) (n:PNet) (k s:Nat) (v:List UInt8):∀(l:List Nat) (P:ProdG),P.states.length≤(inU c n k s v l P).states.length∧(inU c n k s v l P).states.length≤P.states.length+l.length∧(inU c n k s v l P).flips.length=P.flips.length+l.length∧(inU c n k s v l P).extra=P.extra
 |[],P=>by simp[inU]
 | w::r,P=>by
  unfold inU
  obtain ⟨h1,h2,h3,h4⟩:=ZgO k P w (Zas c n s v w)
  obtain ⟨g1,g2,g3,g4⟩:=Zf1 c n k s v r (ZcX k P w (Zas c n s v w))
  simp only[List.length_cons]
  refine ⟨by omega,by omega,by omega,g4.trans h4⟩
theorem Zxn {k:Nat} {P:ProdG} {w:Nat} {b x:PSt} {i:Nat} (h:P.states[i]?=some x):(ZcX k P w b).states[i]?=some x:=by
 unfold ZcX
 split
 ·exact h
 ·have:=(List.getElem?_eq_some_iff.1 h).1
  show (P.states++[b])[i]?=_
  rw[List.getElem?_append_left this]
  exact h
theorem Zn4 {c:PSG} {n:PNet} {s:Nat} {v:List UInt8} {N w:Nat} (h:w∈ZaD c n s v N):w<N∧ZjP c n s v w=true:=by
 unfold ZaD at h
 rw[List.mem_filter] at h
 exact ⟨List.mem_range.1 h.1,h.2⟩
theorem ZzL {c:PSG} {n:PNet} (h:Go1 c n) {s:Nat} {v:List UInt8} {w:Nat} (hs:s<c.codes.length) (hb:Z2 v n.wires.length=true) (hw:ZjP c n s v w=true):StB c n (Zas c n s v w):=by
 unfold Zas
 by_cases c1:w<n.signals.length
 ·rw[if_pos c1]
  unfold ZjP at hw
  rw[if_neg (by omega),Bool.and_eq_true,decide_eq_true_eq] at hw
  have hsl:w<c.signals.length:=by rw[h.same];exact c1
  have:=toC_in h hs hsl
  exact ⟨(toC c s w).toNat,by show toC c s w=_;omega,by omega,ZoK hb⟩
 ·rw[if_neg c1]
  exact ⟨s,rfl,hs,ZoK hb⟩
theorem ZAH {c:PSG} {n:PNet} {k:Nat} {P:ProdG} {w:Nat} {b:PSt} (hP:∀x∈P.states,StB c n x) (hb:StB c n b):∀x∈(ZcX k P w b).states,StB c n x:=by
 unfold ZcX
 split
 ·exact hP
 ·intro x hx
  rcases List.mem_append.1 hx with hx|hx
  ·exact hP x hx
  ·rw[List.mem_singleton] at hx;subst hx;exact hb
theorem ZzM {c:PSG} {n:PNet} (h:Go1 c n) {k s:Nat} {v:List UInt8} (hs:s<c.codes.length) (hb:Z2 v n.wires.length=true):∀(l:List Nat) (P:ProdG),(∀w∈l,ZjP c n s v w=true)→(∀x∈P.states,StB c n x)→∀x∈(inU c n k s v l P).states,StB c n x
 |[],P,_,hP=>hP
 |w::r,P,hl,hP=>ZzM h hs hb r _ (fun x hx=>hl x (List.mem_cons_of_mem _ hx)) (ZAH hP (ZzL h hs hb (hl w List.mem_cons_self)))
theorem rdU_ok {c:PSG} {n:PNet} (h:Go1 c n) {k:Nat} {b:PSt} {P:ProdG} (hb:StB c n b) (hP:∀x∈P.states,StB c n x):∀x∈(rdU c n k b P).states,StB c n x:=by
 obtain ⟨s,h1,h2,h3⟩:=hb
 unfold rdU exU
 rw[h1,Int.toNat_natCast]
 exact ZzM h h2 h3 _ _ (fun w hw=>(Zn4 hw).2) hP
theorem Zka {n:PNet} {N:Nat}:∀(f k:Nat) (v:List UInt8),Z2 v N=true→Z2 (ZgX n f k v) N=true
 |0,k,v,h=>h
 | f+1,k,v,h=>by
  unfold ZgX
  exact Zka f _ _ (Zo9 h _)
theorem Zmx {c:PSG} {n:PNet} (h:Go1 c n):StB c n (Zhf c n):=by
 obtain ⟨x,hx,hb⟩:=h.code
 refine ⟨0,rfl,by have:=h.one;omega, ?_⟩
 unfold Zhf Zeq
 rw[List.getD_eq_getElem?_getD,hx]
 exact Zka _ _ _ (Zpa hb (ZaQ h.net).1)
theorem StB.mk' {c:PSG} {n:PNet} {b:PSt} (h:StB c n b):∃s:Nat,b=⟨(s:Int),b.values⟩∧s<c.codes.length∧Z2 b.values n.wires.length=true:=by
 obtain ⟨s,h1,h2,h3⟩:=h
 refine ⟨s, ?_,h2,h3⟩
 cases b
 simp only at h1
 rw[h1]
structure Pi (c:PSG) (n:PNet) (k:Nat) (P:ProdG):Prop where
 ok:∀x∈P.states,StB c n x
 len:P.states.length≤600
 fl:P.flips.length≤24 * k
 ex:P.extra.length≤24 * k
theorem Zkt (c:PSG) (n:PNet) (s:Nat) (v:List UInt8) (N:Nat):(Zap c n s v N).length≤N:=ZeK _ _
theorem ZoN (c:PSG) (n:PNet) (s:Nat) (v:List UInt8) (N:Nat):(ZaD c n s v N).length≤N:=ZeK _ _
theorem Pi.next {c:PSG} {n:PNet} (h:Go1 c n) {k:Nat} {P:ProdG} (hP:Pi c n k P) {b:PSt} (hb:P.states[k]?=some b) (hl:¬600<(rdU c n k b P).states.length):Pi c n (k+1) (rdU c n k b P):=by
 have hbs:=hP.ok b (List.mem_of_getElem? hb)
 have hn:=(ZaQ h.net).2
 have h1:=ZoN c n b.state.toNat b.values n.wires.length
 have h2:=Zkt c n b.state.toNat b.values n.wires.length
 obtain ⟨g1,g2,g3,g4⟩:=Zf1 c n k b.state.toNat b.values (ZaD c n b.state.toNat b.values n.wires.length) P
 have h3:=hP.fl
 have h4:=hP.ex
 refine ⟨rdU_ok h hbs hP.ok,by omega, ?_, ?_⟩
 ·show (inU c n k b.state.toNat b.values _ P).flips.length≤_
  omega
 ·show ((inU c n k b.state.toNat b.values _ P).extra++List.map _ _).length≤_
  rw[g4,List.length_append,List.length_map]
  omega
theorem ZzN (x y:PSt):eqV (some [(0,TD.int IntKind.i64),(1,TD.str)]) TD.struct (.agg [pI x.state,.str x.values]) (.agg [pI y.state,.str y.values])=some (decide (x=y)):=by
 have e:decide (x=y)=((x.state==y.state)&&((x.values==y.values)&&true)):=by
  rw[Bool.eq_iff_iff]
  cases x;cases y
  simp only[decide_eq_true_eq,Bool.and_eq_true,PSt.mk.injEq,beq_iff_eq,and_true]
 rw[e]
 show (some (x.state==y.state)).bind (fun b=>(some ((x.values==y.values)&&true)).map fun c=>b&&c)=_
 rfl
theorem ZqV (b:PSt):∀(l:List PSt) (k:Nat),ixf (fun x=>decide (x=b)) k l=if b∈l then ((k+l.idxOf b:Nat):Int) else -1
 |[],k=>by simp[ixf]
 | x::r,k=>by
  unfold ixf
  by_cases c:x=b
  ·subst c
   simp
  ·have h:(x::r).idxOf b=r.idxOf b+1:=by rw[List.idxOf_cons,beq_eq_false_iff_ne.2 c];rfl
   have hm:b∈x::r↔b∈r:=by rw[List.mem_cons];exact ⟨fun h=>h.resolve_left (fun e=>c e.symm),.inr⟩
   rw[decide_eq_false c,if_neg (by simp),ZqV b r (k+1),h]
   simp only[hm]
   rw[show k+1+r.idxOf b=k+(r.idxOf b+1) by omega]
theorem ZtI (l:List PSt) (b:PSt) (hl:ZA l):Zgl [.lst (l.map ePs),ePs b]=some (pI (if b∈l then (l.idxOf b:Nat) else -1)):=by
 unfold ZA at hl
 show (fun x0 x1=>Zgl [x0,x1]) _ _=_
 rw[ZsO]
 simp only[ePs,EVS]
 refine (congrArg (fun m:Option PV=>m.bind fun r=>if r.sc=true then some r else none) (ZcY l (fun x=>decide (x=b)) _ hl (fun again k x hx=> ?_) (fun again=> ?_))).trans ?_
 ·have hk:=Ze hx
  have hi:Zk (.lst (l.map ePs)) (.int .i64 (k:Int))=some (ePs x):=Zj hx
  have he:=ZzN x b
  have hf:(fun b:PSt=>PV.agg [pI b.state,PV.str b.values])=ePs:=rfl
  simp only[ePs] at hi
  cases c:decide (x=b)<;>rw[c] at he<;>simp only[Zs hk,Zi hk hl,hi,ZL,sp2,he,Bool.false_eq_true,if_false,if_true,EVS]
 ·simp only[ZW,EVS]
  rfl
 ·rw[ZqV,Nat.zero_add]
  rfl
def ZlA :PV:=.agg [.lst [],.lst [],.lst []]
def ZtJ {R:Type} (c:PSG) (n:PNet) (k s:Nat) (v:List UInt8) (z:Option R) (P:ProdG) (_:Nat) (w:Nat):Sum ProdG (Option R):=
 if Zas c n s v w∉P.states∧P.states.length=600 then .inr z else .inl (ZcX k P w (Zas c n s v w))
theorem ZoO {R:Type} (c:PSG) (n:PNet) (k s:Nat) (v:List UInt8) (z:Option R) (e:ProdG→Option R):∀(l:List Nat) (i:Nat) (P:ProdG),P.states.length≤600→
 Z5 (ZtJ c n k s v z) e i P l=if (inU c n k s v l P).states.length≤600 then e (inU c n k s v l P) else z
 |[],i,P,h=>by rw[show inU c n k s v [] P=P from rfl,if_pos h];rfl
 | w ::r,i,P,h=>by
  unfold Z5 ZtJ inU
  by_cases c1:Zas c n s v w∉P.states∧P.states.length=600
  ·rw[if_pos c1]
   have h1:(ZcX k P w (Zas c n s v w)).states.length=601:=by unfold ZcX;rw[if_neg c1.1];simp[c1.2]
   have h2:=(Zf1 c n k s v r (ZcX k P w (Zas c n s v w))).1
   rw[if_neg (by omega)]
  ·rw [if_neg c1]
   have h1:(ZcX k P w (Zas c n s v w)).states.length≤600:=by
    unfold ZcX
    split
    ·exact h
    ·rename_i hm
     have:P.states.length≠600:=fun e=>c1 ⟨hm,e⟩
     simp
     omega
   exact ZoO c n k s v z e r (i+1) _ h1
theorem ZrT {R:Type} (k:Nat) (e:ProdG→Option R):∀(l:List Nat) (i:Nat) (P:ProdG),Z5 (fun (P:ProdG) (_:Nat) (w:Nat)=>.inl ⟨P.states,P.flips,P.extra++[⟨(k:Int),(w:Int), -1⟩]⟩) e i P l=e (exU k l P)
 |[],i,P=>by cases P;simp[Z5,exU]
 | w::r,i,P=>by
  show Z5 _ e (i+1) _ r=_
  rw[ZrT k e r]
  unfold exU
  simp[List.append_assoc]
theorem ZqW (a b c x y z:PV):splice (splice (splice [a,b,c] 0 [x]) 1 [y]) 2 [z]=[x,y,z]:=rfl
theorem grp3 (a b c x y z:PV):ZoG [a,b,c] 0 (.agg [x,y,z])=some (.agg [x,y,z]):=rfl
theorem ZfR (a b c x y z:PV):splice [a,b,c] 0 [x,y,z]=[x,y,z]:=rfl
def prR (r:Option ProdG):PV:=match r with|some P=>.tup [ePr P,pB true]|none=>.tup [ZlA,pB false]
theorem ZoP (c:PSG) (n:PNet) (h:Go1 c n):Zd1 [eSG c,Zp n]=some (prR (Ze3 c n)):=by
 have g0:=ZrR c n h
 have hn24:=(ZaQ h.net).2
 show (fun x0 x1=>Zd1 [x0,x1]) _ _=_
 rw[ZnP]
 simp only[eSG,Zp,ePs] at g0
 simp only[eSG,Zp,ZL,ZS,g0,ZfR,grp3,EVS]
 unfold Ze3
 refine (ZaP (R:=PV) (fun q:{q:ProdG×Nat // Pi c n q.2 q.1∧q.2≤q.1.states.length}=>[ePr q.1.1,pI (Int.ofNat q.1.2)]) (fun q=>601 - q.1.2) (fun q=>some (prR (ZjQ c n (601 - q.1.2) q.1.2 q.1.1))) _ (fun again q ih=> ?_) _ ⟨(⟨[Zhf c n],[],[]⟩,0),⟨fun x hx=>by rw[List.mem_singleton] at hx;subst hx;exact Zmx h,by simp,by simp,by simp⟩,by simp⟩ (by simp only;omega))
 obtain ⟨⟨P,k⟩,hP,hk⟩:=q
 dsimp only at ih hP hk⊢
 have hlen:=hP.len
 by_cases ck:k<P.states.length
 ·obtain ⟨b,hb⟩:∃b,P.states[k]?=some b:=⟨P.states[k],List.getElem?_eq_getElem ck⟩
  obtain ⟨s,hbe,hs,hbits⟩:=(hP.ok b (List.mem_of_getElem? hb)).mk'
  obtain ⟨v,hv⟩:∃v,b.values=v:=⟨_,rfl⟩
  rw[hv] at hbe hbits
  subst hbe
  have g1:=ZtH c n h s v hs hbits
  have p1:ZaM (P.states.map ePs) (.int .i64 (k:Int))=some (.int .i64 (k:Int)):=ZbE (by rw[List.length_map];exact ck)
  have q1:(P.states.map ePs)[k]?=some (.agg [pI (s:Int),.str v]):=by rw[List.getElem?_map,hb];rfl
  have hcl:=ZoN c n s v n.wires.length
  have hxl:=Zkt c n s v n.wires.length
  simp only[eSG,Zp,ePs] at g1
  simp only[ePr,List.length_map,Zs ck,p1,q1,Int.toNat_natCast,ZL,ZS,g1,EVS]
  have hst:ZjQ c n (601 - k) k P=if 600<(rdU c n k ⟨(s:Int),v⟩ P).states.length then none else ZjQ c n (600 - k) (k+1) (rdU c n k ⟨(s:Int),v⟩ P):=by
   rw[show 601 - k=(600 - k)+1 by omega]
   show (match P.states[k]? with|none=>some P|some b=>_)=_
   rw[hb]
  rw[hst]
  obtain ⟨L,hL⟩:∃L,ZaD c n s v n.wires.length=L:=⟨_,rfl⟩
  obtain ⟨X,hX⟩:∃X,Zap c n s v n.wires.length=X:=⟨_,rfl⟩
  have hrd:rdU c n k ⟨(s:Int),v⟩ P=exU k X (inU c n k s v L P):=by unfold rdU;rw[Int.toNat_natCast,hL,hX]
  have hLok:∀w∈L,ZjP c n s v w=true:=fun w hw=>by rw[←hL] at hw;exact (Zn4 hw).2
  rw[hrd,hL,hX]
  rw[hL] at hcl
  rw[hX] at hxl
  refine (ZaI (R:=PV) L (fun (P:ProdG) i=>[ePr P,pI (Int.ofNat i)]) (fun i Q=>Q.states.length≤600∧Q.flips.length=P.flips.length+i∧Q.extra=P.extra) (ZtJ c n k s v (some (.tup [ZlA,pB false]))) (fun Q=>again [ePr (exU k X Q),pI (Int.ofNat (k+1))]) _ (by omega) (fun Q i w Q' hi hw he=> ?_) (fun again1 Q i w hi hw=> ?_) (fun again1 Q hi=> ?_) (b:=P) ⟨hlen,rfl,rfl⟩).trans ((ZoO c n k s v _ _ L 0 P hlen).trans ?_)
  ·unfold ZtJ at he
   split at he
   ·cases he
   ·rename_i c1
    cases he
    obtain ⟨a1,a2,a3,a4⟩:=ZgO k Q w (Zas c n s v w)
    refine ⟨?_,by omega,a4.trans hi.2.2⟩
    unfold ZcX
    split
    ·exact hi.1
    ·rename_i hm
     have:Q.states.length≠600:=fun e=>c1 ⟨hm,e⟩
     have:=hi.1
     simp
     omega
  ·have hil:=Ze hw
   obtain ⟨i1,i2,i3⟩:=hi
   have hPf:=hP.fl
   have hix:Zk (.lst (L.map fun k=>ePs (Zas c n s v k))) (.int .i64 (i:Int))=some (ePs (Zas c n s v w)):=Zj (enc:=fun k=>ePs (Zas c n s v k)) hw
   have hiw:Zk (.lst (L.map eNn)) (.int .i64 (i:Int))=some (pI (w:Int)):=Zj (enc:=eNn) hw
   have g2:=ZtI Q.states (Zas c n s v w) (by unfold ZA;omega)
   obtain ⟨bb,hbb⟩:∃bb,Zas c n s v w=bb:=⟨_,rfl⟩
   rw[hbb] at hix g2
   have hnx:=Zi hil (show L.length≤9223372036854775807 by omega)
   have hlb:Q.states.length+[PV.agg [pI bb.state,.str bb.values]].length≤4294967296∧[PV.agg [pI bb.state,.str bb.values]].all (Zao 2)=true:=⟨by simp;omega,rfl⟩
   have hla:∀t:Int,Q.flips.length+[PV.agg [pI (k:Int),pI (w:Int),pI t]].length≤4294967296∧[PV.agg [pI (k:Int),pI (w:Int),pI t]].all (Zao 3)=true:=fun t=>⟨by simp;omega,rfl⟩
   unfold ZtJ ZcX
   rw[hbb]
   simp only[ePs] at hix g2
   by_cases c1:bb∈Q.states
   ·rw[if_neg (fun h=>h.1 c1),if_pos c1]
    rw[if_pos c1] at g2
    have hneg:decide (((Q.states.idxOf bb:Nat):Int)<0)=false:=by simp only[decide_eq_false_iff_not];omega
    simp only[ePr,List.length_map,Zs hil,hix,ZL,sp2,g2,hneg,hiw,ZqW,if_pos (hla _),hnx,List.map_append,List.map_cons,List.map_nil,eFl,EVS]
   ·rw[if_neg c1] at g2
    have hneg:decide ((-1:Int)<0)=true:=rfl
    by_cases c2:Q.states.length=600
    ·rw[if_pos ⟨c1,c2⟩]
     have h6:decide ((Q.states.length:Int)=600)=true:=by simp only[decide_eq_true_eq];omega
     simp only[ePr,List.length_map,Zs hil,hix,ZL,sp2,g2,hneg,h6,ZfR,EVS]
     rfl
    ·rw[if_neg (fun h=>c2 h.2),if_neg c1]
     have h6:decide ((Q.states.length:Int)=600)=false:=by simp only[decide_eq_false_iff_not];omega
     simp only[ePr,List.length_map,Zs hil,hix,ZL,sp2,g2,hneg,h6,hiw,ZqW,if_pos hlb,if_pos (hla _),hnx,List.map_append,List.map_cons,List.map_nil,eFl,EVS]
     rfl
  ·have hxx:X.length≤9223372036854775807:=by omega
   have hPe:=hP.ex
   simp only[List.length_map,ZW,EVS]
   refine (ZaI (R:=PV) X (fun (P:ProdG) i=>[ePr P,pI (Int.ofNat i)]) (fun i Q'=>Q'.states.length≤600∧Q'.extra.length=P.extra.length+i) (fun (P:ProdG) (_:Nat) (w:Nat)=>.inl ⟨P.states,P.flips,P.extra++[⟨(k:Int),(w:Int), -1⟩]⟩) (fun Q=>again [ePr Q,pI (Int.ofNat (k+1))]) _ hxx (fun Q' i w Q2 hi' hw he=> ?_) (fun again2 Q' i w hi' hw=> ?_) (fun again2 Q' hi'=> ?_) (b:=Q) ⟨hi.1,by rw[hi.2.2];rfl⟩).trans (ZrT k _ X 0 Q)
   ·cases he
    exact ⟨hi'.1,by simp;omega⟩
   ·have hil:=Ze hw
    have hiw:Zk (.lst (X.map eNn)) (.int .i64 (i:Int))=some (pI (w:Int)):=Zj (enc:=eNn) hw
    have hla:Q'.extra.length+[PV.agg [pI (k:Int),pI (w:Int),pI (-1)]].length≤4294967296∧[PV.agg [pI (k:Int),pI (w:Int),pI (-1)]].all (Zao 3)=true:=⟨by simp;omega,rfl⟩
    have hneg:(Int.negSucc 0)=(-1:Int):=rfl
    simp only[ePr,List.length_map,Zs hil,hiw,ZqW,hneg,if_pos hla,Zi hil hxx,List.map_append,List.map_cons,List.map_nil,eFl,EVS]
   ·simp only[ZW,Zi ck (show P.states.length≤9223372036854775807 by omega),EVS]
  ·by_cases c6:(inU c n k s v L P).states.length≤600
   ·have hx6:¬600<(exU k X (inU c n k s v L P)).states.length:=by show ¬600<(inU c n k s v L P).states.length;omega
    rw[if_pos c6,if_neg hx6]
    have hnx:=Pi.next h hP hb (by rw[hrd];exact hx6)
    rw[hrd] at hnx
    have hkl:k+1≤(exU k X (inU c n k s v L P)).states.length:=by
     have:=(Zf1 c n k s v L P).1
     show k+1≤(inU c n k s v L P).states.length
     omega
    have:=ih ⟨(exU k X (inU c n k s v L P),k+1),hnx,hkl⟩ (by simp only;omega)
    rw[show 601 - (k+1)=600 - k by omega] at this
    exact this
   ·rw[if_neg c6,if_pos (show 600<(exU k X (inU c n k s v L P)).states.length by show 600<(inU c n k s v L P).states.length;omega)]
    rfl
 ·obtain rfl:k=P.states.length:=by omega
  have hst:ZjQ c n (601 - P.states.length) P.states.length P=some P:=by
   rw[show 601 - P.states.length=(600 - P.states.length)+1 by omega]
   show (match P.states[P.states.length]? with|none=>some P|some b=>_)=_
   rw[List.getElem?_eq_none (by omega)]
  rw[hst]
  simp only[ePr,List.length_map,ZW,ZS,ZfR,EVS]
  rfl
def ZrU (g:Nat→PV):Nat→List PSt→List (PV×PV)
 |_,[]=>[]
 |k,b::r=>(ePs b,g k)::ZrU g (k+1) r
theorem ZqX (g:Nat→PV) (a:PSt):∀(l:List PSt) (k:Nat),ZrU g k (l++[a])=ZrU g k l++[(ePs a,g (k+l.length))]
 |[],k=>rfl
 | x::r,k=>by
  show (ePs x,g k)::ZrU g (k+1) (r++[a])=_
  rw[ZqX g a r (k+1)]
  simp only[ZrU,List.length_cons,List.cons_append]
  rw[show k+1+r.length=k+(r.length+1) by omega]
theorem findP (g:Nat→PV) (s:PSt):∀(l:List PSt) (k i:Nat),Ze1 (some [(0,TD.int IntKind.i64),(1,TD.str)]) TD.struct (ZrU g k l) (.agg [pI s.state,.str s.values]) i=some (if s∈l then some (i+l.idxOf s,g (k+l.idxOf s)) else none)
 |[],k,i=>rfl
 | x::r,k,i=>by
  unfold ZrU Ze1
  rw[show ePs x=.agg [pI x.state,.str x.values] from rfl,ZzN]
  by_cases c:x=s
  ·subst c
   simp
  ·have h:(x::r).idxOf s=r.idxOf s+1:=by rw[List.idxOf_cons,beq_eq_false_iff_ne.2 c];rfl
   have hm:s∈x::r↔s∈r:=by rw[List.mem_cons];exact ⟨fun h=>h.resolve_left (fun e=>c e.symm),.inr⟩
   simp only[obs,c,show ¬s=x from fun e=>c e.symm,decide_false,Bool.false_eq_true,if_false,findP g s r (k+1) (i+1),hm,h]
   by_cases c2:s∈r
   ·rw[if_pos c2,if_pos c2,show i+1+r.idxOf s=i+(r.idxOf s+1) by omega,show k+1+r.idxOf s=k+(r.idxOf s+1) by omega]
   ·rw[if_neg c2,if_neg c2]
theorem keyP (a:PSt):((eqV (some [(0,TD.int IntKind.i64),(1,TD.str)]) TD.struct (.agg [pI a.state,.str a.values]) (.agg [pI a.state,.str a.values])).elim false fun x=>true)=true:=by rw[ZzN];rfl
theorem ZzO (l:List (PV×PV)):Zvr (.map l)=some l:=rfl
theorem zpInt' :Zba (TI.mk 1 8 (TD.int .i64) [ZC.int .i64] [] false)=.int .i64 0:=rfl
def ixP (l:List PSt):PV:=.map (ZrU (fun i=>pI i) 0 l)
theorem ZzP (l:List PSt) (a:PSt):PV.map (ZrU (fun i=>pI i) 0 l++[(.agg [pI a.state,.str a.values],pI (l.length:Int))])=ixP (l++[a]):=by
 unfold ixP
 rw[ZqX,Nat.zero_add]
 rfl
theorem ZqY {R:Type} (c:PSG) (n:PNet) (k s:Nat) (v:List UInt8) (e:ProdG→Option R):∀(l:List Nat) (i:Nat) (P:ProdG),Z5 (fun (P:ProdG) (_:Nat) (w:Nat)=>.inl (ZcX k P w (Zas c n s v w))) e i P l=e (inU c n k s v l P)
 |[],i,P=>rfl
 |w::r,i,P=>ZqY c n k s v e r (i+1) _
theorem ZrV (c:PSG) (n:PNet) (h:Go1 c n):ZbB [Zb1 c n]=some (prR (Ze3 c n)):=by
 have g0:=ZtF c n h
 have hn24:=(ZaQ h.net).2
 obtain ⟨f0,hf0⟩:∃f0,Zhf c n=f0:=⟨_,rfl⟩
 have p00:ZaM [PV.agg [pI f0.state,.str f0.values]] (.int .i64 ((0:Nat):Int))=some (.int .i64 ((0:Nat):Int)):=ZbE (by simp)
 have hk0:=keyP f0
 have hix0:PV.map ([]++[(PV.agg [pI f0.state,.str f0.values],pI 0)])=ixP [f0]:=rfl
 simp only[Int.natCast_zero] at p00
 show (fun x0=>ZbB [x0]) _=_
 rw[Zi1]
 rw[hf0] at g0
 simp only[Zb1,ePs] at g0
 simp only[Zb1,ZnD,g0,ZfR,grp3,p00,Int.toNat_zero,List.getElem?_cons_zero,ZL,hk0,hix0,if_true,EVS]
 unfold Ze3
 rw[hf0]
 refine (ZaP (R:=PV) (fun q:{q:ProdG×Nat // Pi c n q.2 q.1∧q.2≤q.1.states.length}=>[ixP q.1.1.states,ePr q.1.1,pI (Int.ofNat q.1.2)]) (fun q=>601 - q.1.2) (fun q=>some (prR (ZjQ c n (601 - q.1.2) q.1.2 q.1.1))) _ (fun again q ih=> ?_) _ ⟨(⟨[f0],[],[]⟩,0),⟨fun x hx=>by rw[List.mem_singleton] at hx;subst hx;rw[←hf0];exact Zmx h,by simp,by simp,by simp⟩,by simp⟩ (by simp only;omega))
 obtain ⟨⟨P,k⟩,hP,hk⟩:=q
 dsimp only at ih hP hk⊢
 have hlen:=hP.len
 by_cases ck:k<P.states.length
 ·obtain ⟨b,hb⟩:∃b,P.states[k]?=some b:=⟨P.states[k],List.getElem?_eq_getElem ck⟩
  obtain ⟨s,hbe,hs,hbits⟩:=(hP.ok b (List.mem_of_getElem? hb)).mk'
  obtain ⟨v,hv⟩:∃v,b.values=v:=⟨_,rfl⟩
  rw[hv] at hbe hbits
  subst hbe
  have g1:=ZoL c n h s v hs hbits
  have g3:=ZoM c n h s v hs hbits
  have p1:ZaM (P.states.map ePs) (.int .i64 (k:Int))=some (.int .i64 (k:Int)):=ZbE (by rw[List.length_map];exact ck)
  have q1:(P.states.map ePs)[k]?=some (.agg [pI (s:Int),.str v]):=by rw[List.getElem?_map,hb];rfl
  have hcl:=ZoN c n s v n.wires.length
  have hxl:=Zkt c n s v n.wires.length
  simp only[Zb1,ePs] at g1 g3
  simp only[ePr,List.length_map,Zs ck,p1,q1,Int.toNat_natCast,ZnD,ZL,g1,EVS]
  have hst:ZjQ c n (601 - k) k P=if 600<(rdU c n k ⟨(s:Int),v⟩ P).states.length then none else ZjQ c n (600 - k) (k+1) (rdU c n k ⟨(s:Int),v⟩ P):=by
   rw[show 601 - k=(600 - k)+1 by omega]
   show (match P.states[k]? with|none=>some P|some b=>_)=_
   rw[hb]
  rw[hst]
  obtain ⟨L,hL⟩:∃L,ZaD c n s v n.wires.length=L:=⟨_,rfl⟩
  obtain ⟨X,hX⟩:∃X,Zap c n s v n.wires.length=X:=⟨_,rfl⟩
  have hrd:rdU c n k ⟨(s:Int),v⟩ P=exU k X (inU c n k s v L P):=by unfold rdU;rw[Int.toNat_natCast,hL,hX]
  have hLok:∀w∈L,ZjP c n s v w=true:=fun w hw=>by rw[←hL] at hw;exact (Zn4 hw).2
  rw[hX] at g3
  rw[hrd,hL]
  rw[hL] at hcl
  rw[hX] at hxl
  refine (ZaI (R:=PV) L (fun (P:ProdG) i=>[ixP P.states,ePr P,pI (Int.ofNat i)]) (fun i Q=>(Q.states.length≤P.states.length+i∧Q.states[k]?=some ⟨(s:Int),v⟩)∧Q.flips.length=P.flips.length+i∧Q.extra=P.extra) (fun (P:ProdG) (_:Nat) (w:Nat)=>.inl (ZcX k P w (Zas c n s v w))) (fun Q=>if 600<Q.states.length then some (.tup [ZlA,pB false]) else again [ixP Q.states,ePr (exU k X Q),pI (Int.ofNat (k+1))]) _ (by omega) (fun Q i w Q' hi hw he=> ?_) (fun again1 Q i w hi hw=> ?_) (fun again1 Q hi=> ?_) (b:=P) ⟨⟨by omega,hb⟩,rfl,rfl⟩).trans ((ZqY c n k s v _ L 0 P).trans ?_)
  ·cases he
   obtain ⟨a1,a2,a3,a4⟩:=ZgO k Q w (Zas c n s v w)
   exact ⟨⟨by omega,Zxn hi.1.2⟩,by omega,a4.trans hi.2.2⟩
  ·have hil:=Ze hw
   obtain ⟨⟨i1,i0⟩,i2,i3⟩:=hi
   have hPf:=hP.fl
   have hix:Zk (.lst (L.map fun k=>ePs (Zas c n s v k))) (.int .i64 (i:Int))=some (ePs (Zas c n s v w)):=Zj (enc:=fun k=>ePs (Zas c n s v k)) hw
   have hiw:Zk (.lst (L.map eNn)) (.int .i64 (i:Int))=some (pI (w:Int)):=Zj (enc:=eNn) hw
   obtain ⟨bb,hbb⟩:∃bb,Zas c n s v w=bb:=⟨_,rfl⟩
   rw[hbb] at hix
   have g2:=findP (fun i=>pI i) bb Q.states 0 0
   have hkk:=keyP bb
   have hnx:=Zi hil (show L.length≤9223372036854775807 by omega)
   have hlb:Q.states.length+[PV.agg [pI bb.state,.str bb.values]].length≤4294967296∧[PV.agg [pI bb.state,.str bb.values]].all (Zao 2)=true:=⟨by simp;omega,rfl⟩
   have hla:∀t:Int,Q.flips.length+[PV.agg [pI (k:Int),pI (w:Int),pI t]].length≤4294967296∧[PV.agg [pI (k:Int),pI (w:Int),pI t]].all (Zao 3)=true:=fun t=>⟨by simp;omega,rfl⟩
   unfold ZcX
   rw[hbb]
   simp only[ePs] at hix
   by_cases c1:bb∈Q.states
   ·rw[if_pos c1]
    rw[if_pos c1] at g2
    simp only[Nat.zero_add] at g2
    simp only[ePr,ixP,List.length_map,Zs hil,hix,ZL,sp2,ZzO,hkk,g2,hiw,ZqW,Option.elim_some,if_pos (hla _),hnx,List.map_append,List.map_cons,List.map_nil,eFl,if_true,EVS]
   ·rw[if_neg c1]
    rw[if_neg c1] at g2
    have hN:=ZzP Q.states bb
    unfold ixP at hN
    simp only[ePr,ixP,List.length_map,Zs hil,hix,ZL,sp2,ZzO,hkk,g2,hiw,ZqW,zpInt',Option.elim_none,if_pos hlb,if_pos (hla _),hnx,hN,List.map_append,List.map_cons,List.map_nil,eFl,if_true,EVS]
    rfl
  ·obtain ⟨⟨i1,i0⟩,i2,i3⟩:=hi
   have hxx:X.length≤9223372036854775807:=by omega
   have hPe:=hP.ex
   have p2:ZaM (Q.states.map ePs) (.int .i64 (k:Int))=some (.int .i64 (k:Int)):=ZbE (by rw[List.length_map];exact (List.getElem?_eq_some_iff.1 i0).1)
   have q2:(Q.states.map ePs)[k]?=some (.agg [pI (s:Int),.str v]):=by rw[List.getElem?_map,i0];rfl
   simp only[ePr,List.length_map,ZW,p2,q2,Int.toNat_natCast,ZnD,ZL,g3,EVS]
   refine (ZaI (R:=PV) X (fun (P:ProdG) i=>[ePr P,pI (Int.ofNat i)]) (fun i Q'=>Q'.states=Q.states∧Q'.extra.length=P.extra.length+i) (fun (P:ProdG) (_:Nat) (w:Nat)=>.inl ⟨P.states,P.flips,P.extra++[⟨(k:Int),(w:Int), -1⟩]⟩) (fun Q'=>if 600<Q'.states.length then some (.tup [ZlA,pB false]) else again [ixP Q'.states,ePr Q',pI (Int.ofNat (k+1))]) _ hxx (fun Q' i w Q2 hi' hw he=> ?_) (fun again2 Q' i w hi' hw=> ?_) (fun again2 Q' hi'=> ?_) (b:=Q) ⟨rfl,by rw[i3];rfl⟩).trans (ZrT k _ X 0 Q)
   ·cases he
    exact ⟨hi'.1,by simp;omega⟩
   ·have hil:=Ze hw
    have p3:ZaM (X.map eNn) (.int .i64 (i:Int))=some (.int .i64 (i:Int)):=ZbE (by rw[List.length_map];exact hil)
    have q3:(X.map eNn)[i]?=some (pI (w:Int)):=by rw[List.getElem?_map,hw];rfl
    have hla:Q'.extra.length+[PV.agg [pI (k:Int),pI (w:Int),pI (-1)]].length≤4294967296∧[PV.agg [pI (k:Int),pI (w:Int),pI (-1)]].all (Zao 3)=true:=⟨by simp;omega,rfl⟩
    have hneg:(Int.negSucc 0)=(-1:Int):=rfl
    simp only[ePr,List.length_map,Zs hil,p3,q3,Int.toNat_natCast,ZqW,hneg,if_pos hla,Zi hil hxx,List.map_append,List.map_cons,List.map_nil,eFl,EVS]
   ·have hks:=(List.getElem?_eq_some_iff.1 i0).1
    by_cases c6:600<Q'.states.length
    ·have c6':decide ((600:Int)<(Q'.states.length:Int))=true:=by simp only[decide_eq_true_eq];omega
     rw[if_pos c6]
     simp only[ePr,List.length_map,ZW,c6',ZfR,EVS]
     rfl
    ·have c6':decide ((600:Int)<(Q'.states.length:Int))=false:=by simp only[decide_eq_false_iff_not];omega
     rw[if_neg c6]
     rw[hi'.1] at c6'
     simp only[ePr,List.length_map,ZW,c6',Zi ck (show P.states.length≤9223372036854775807 by omega),hi'.1,EVS]
  ·by_cases c6:(inU c n k s v L P).states.length≤600
   ·have hx6:¬600<(exU k X (inU c n k s v L P)).states.length:=by show ¬600<(inU c n k s v L P).states.length;omega
    rw[if_neg (show ¬600<(inU c n k s v L P).states.length by omega),if_neg hx6]
    have hnx:=Pi.next h hP hb (by rw[hrd];exact hx6)
    rw[hrd] at hnx
    have hkl:k+1≤(exU k X (inU c n k s v L P)).states.length:=by
     have:=(Zf1 c n k s v L P).1
     show k+1≤(inU c n k s v L P).states.length
     omega
    have:=ih ⟨(exU k X (inU c n k s v L P),k+1),hnx,hkl⟩ (by simp only;omega)
    rw[show 601 - (k+1)=600 - k by omega] at this
    exact this
   ·rw[if_pos (show 600<(inU c n k s v L P).states.length by omega),if_pos (show 600<(exU k X (inU c n k s v L P)).states.length by show 600<(inU c n k s v L P).states.length;omega)]
    rfl
 ·obtain rfl:k=P.states.length:=by omega
  have hst:ZjQ c n (601 - P.states.length) P.states.length P=some P:=by
   rw[show 601 - P.states.length=(600 - P.states.length)+1 by omega]
   show (match P.states[P.states.length]? with|none=>some P|some b=>_)=_
   rw[List.getElem?_eq_none (by omega)]
  rw[hst]
  simp only[ePr,List.length_map,ZW,ZS,ZfR,EVS]
  rfl
structure PrU (c:PSG) (n:PNet) (P:ProdG):Prop where
 ok:∀x∈P.states,StB c n x
 one:1≤P.states.length
 len:P.states.length≤600
 few:P.flips.length≤14400
 xfew:P.extra.length≤14400
 fl:∀f∈P.flips,0≤f.from_∧f.from_<P.states.length∧0≤f.to∧f.to<P.states.length∧0≤f.wire∧f.wire<n.wires.length
 xl:∀f∈P.extra,0≤f.from_∧f.from_<P.states.length∧f.to= -1∧0≤f.wire∧f.wire<n.wires.length
structure Pj (n:PNet) (P:ProdG):Prop where
 fl:∀f∈P.flips,0≤f.from_∧f.from_<P.states.length∧0≤f.to∧f.to<P.states.length∧0≤f.wire∧f.wire<n.wires.length
 xl:∀f∈P.extra,0≤f.from_∧f.from_<P.states.length∧f.to= -1∧0≤f.wire∧f.wire<n.wires.length
theorem Pj.add {n:PNet} {P:ProdG} (h:Pj n P) {k w:Nat} {b:PSt} (hk:k<P.states.length) (hw:w<n.wires.length):Pj n (ZcX k P w b):=by
 unfold ZcX
 split
 ·rename_i hm
  refine ⟨fun f hf=> ?_,h.xl⟩
  rcases List.mem_append.1 hf with hf|hf
  ·exact h.fl f hf
  ·rw[List.mem_singleton] at hf
   subst hf
   have:=List.idxOf_lt_length_of_mem hm
   dsimp only
   omega
 ·refine ⟨fun f hf=> ?_,fun f hf=> ?_⟩
  ·rcases List.mem_append.1 hf with hf|hf
   ·have:=h.fl f hf
    simp only[List.length_append,List.length_singleton]
    omega
   ·rw[List.mem_singleton] at hf
    subst hf
    simp only[List.length_append,List.length_singleton]
    omega
  ·have:=h.xl f hf
   simp only[List.length_append,List.length_singleton]
   omega
theorem Pj.ins {c:PSG} {n:PNet} {k s:Nat} {v:List UInt8}:∀(l:List Nat) (P:ProdG),Pj n P→k<P.states.length→(∀w∈l,w<n.wires.length)→Pj n (inU c n k s v l P)
 |[],P,h,_,_=>h
 | w::r,P,h,hk,hl=>by
  unfold inU
  refine Pj.ins r _ (h.add hk (hl w List.mem_cons_self)) ?_ fun x hx=>hl x (List.mem_cons_of_mem _ hx)
  have:=(ZgO k P w (Zas c n s v w)).1
  omega
theorem Pj.rd {c:PSG} {n:PNet} {k:Nat} {b:PSt} {P:ProdG} (h:Pj n P) (hk:k<P.states.length):Pj n (rdU c n k b P):=by
 have h1:=Pj.ins (c:=c) (s:=b.state.toNat) (v:=b.values) (ZaD c n b.state.toNat b.values n.wires.length) P h hk fun w hw=>(Zn4 hw).1
 have h2:=(Zf1 c n k b.state.toNat b.values (ZaD c n b.state.toNat b.values n.wires.length) P).1
 unfold rdU exU
 refine ⟨h1.fl,fun f hf=> ?_⟩
 rcases List.mem_append.1 hf with hf|hf
 ·exact h1.xl f hf
 ·obtain ⟨w,hw,rfl⟩:=List.mem_map.1 hf
  unfold Zap at hw
  have:=List.mem_range.1 (List.mem_filter.1 hw).1
  dsimp only
  omega
theorem Zxo {c:PSG} {n:PNet} (h:Go1 c n):∀(f k:Nat) (P Q:ProdG),Pi c n k P→Pj n P→k≤P.states.length→1≤P.states.length→k+f≤601→ZjQ c n f k P=some Q→PrU c n Q
 | 0,k,P,Q,hP,hj,hk,h1,hf,he=>by
  cases he
  have:=hP.fl
  have:=hP.ex
  have:=hP.len
  exact ⟨hP.ok,h1,hP.len,by omega,by omega,hj.fl,hj.xl⟩
 | f +1,k,P,Q,hP,hj,hk,h1,hf,he=>by
  unfold ZjQ at he
  split at he
  ·cases he
   have:=hP.fl
   have:=hP.ex
   have:=hP.len
   exact ⟨hP.ok,h1,hP.len,by omega,by omega,hj.fl,hj.xl⟩
  ·rename_i b hb
   split at he
   ·cases he
   ·rename_i hl
    have hkl:=(List.getElem?_eq_some_iff.1 hb).1
    have hn:=Pi.next h hP hb hl
    have hm:=(Zf1 c n k b.state.toNat b.values (ZaD c n b.state.toNat b.values n.wires.length) P).1
    have hst:(rdU c n k b P).states=(inU c n k b.state.toNat b.values (ZaD c n b.state.toNat b.values n.wires.length) P).states:=rfl
    exact Zxo h f (k+1) _ Q hn (hj.rd hkl) (by rw[hst];omega) (by rw[hst];omega) (by omega) he
theorem ZiD {c:PSG} {n:PNet} (h:Go1 c n) {P:ProdG} (he:Ze3 c n=some P):PrU c n P:=by
 unfold Ze3 at he
 exact Zxo h 601 0 _ P ⟨fun x hx=>by rw[List.mem_singleton] at hx;subst hx;exact Zmx h,by simp,by simp,by simp⟩ ⟨by simp,by simp⟩ (by simp) (by simp) (by omega) he
theorem capsAB (a b:List PV):Zbs 2 (.tup [.agg a,.agg b])=some [.agg a,.agg b]:=by simp[Zbs,PV.parts,PV.isU]
def Zkb {α:Type} (q:α→Bool):Nat→List α→List Nat
 |_,[]=>[]
 |k,b::r=>if q b=true then k::Zkb q (k+1) r else Zkb q (k+1) r
theorem ZoV {R α:Type} (q:α→Bool) (e:List Nat→Option R):∀(l:List α) (k:Nat) (acc:List Nat),Z5 (fun (acc:List Nat) (k:Nat) (b:α)=>.inl (if q b=true then acc++[k] else acc)) e k acc l=e (acc++Zkb q k l)
 |[],k,acc=>by simp[Z5,Zkb]
 | b::r,k,acc=>by
  show Z5 _ e (k+1) (if q b=true then acc++[k] else acc) r=_
  rw[ZoV q e r]
  show _=e (acc++(if q b=true then k::Zkb q (k+1) r else Zkb q (k+1) r))
  cases c:q b
  ·simp
  ·simp[List.append_assoc]
def ZlH (c:PSG) (s:Nat):Bool:=(List.range c.signals.length).any fun k=> !inAt' c k&&decide (0≤toC c s k)
where inAt' (c:PSG) (k:Nat):Bool:=match c.signals[k]? with|some x=>decide (x.2=1)|none=>false
def ZvV (n:PNet) (v:List UInt8):Bool:=decide (((ZaW (Zq n v) n.wires.length).length:Int)=0)
def ZeS (c:PSG) (n:PNet) (b:PSt):Bool:=ZvV n b.values&&ZlH c b.state.toNat
def ZmB (c:PSG) (s:Nat) (a:PArc):Bool:=decide (a.from_=(s:Int))&& !ZlH.inAt' c a.sig.toNat
theorem ZzX {c:PSG} {n:PNet} (h:Go1 c n) {s:Nat} (hs:s<c.codes.length):(c.arcs.any (ZmB c s))=ZlH c s:=by
 rw[Bool.eq_iff_iff,List.any_eq_true]
 unfold ZlH
 rw[List.any_eq_true]
 constructor
 ·rintro ⟨a,ha,hq⟩
  unfold ZmB at hq
  rw[Bool.and_eq_true,decide_eq_true_eq] at hq
  obtain ⟨b1,b2,b3,b4,b5,b6⟩:=h.arcs a ha
  refine ⟨a.sig.toNat,List.mem_range.2 (by omega), ?_⟩
  rw[hq.2,Bool.true_and,decide_eq_true_eq]
  rcases ZiS h hs (show a.sig.toNat<c.signals.length by omega) with ⟨b,hb,h1,h2⟩|⟨h1,h2⟩
  ·have:=h.arcs b hb;omega
  ·exact absurd ⟨hq.1,by omega⟩ (h2 a ha)
 ·rintro ⟨k,hk,hq⟩
  rw[Bool.and_eq_true,decide_eq_true_eq] at hq
  have hkl:=List.mem_range.1 hk
  rcases ZiS h hs hkl with ⟨b,hb,h1,h2⟩|⟨h1,h2⟩
  ·refine ⟨b,hb, ?_⟩
   unfold ZmB
   rw[h1.1,h1.2,Int.toNat_natCast,hq.1,Bool.and_true,decide_eq_true_eq]
  ·omega
theorem ZvW (c:PSG) (n:PNet) (h:Go1 c n) (s:Nat) (hs:s<c.codes.length):Zho [eSG c,pI (s:Int)]=some (pB (ZlH c s)):=by
 have hl:=h.few
 show (fun x0 x1=>Zho [x0,x1]) _ _=_
 rw[Zuk]
 simp only[eSG,List.length_map,EVS]
 refine (congrArg (fun m:Option PV=>m.bind fun r=>if r.sc=true then some r else none) (ZO (R:=PV) c.arcs (fun _ a=> !ZmB c s a) (some (pB true)) (some (pB false)) _ (by omega) (fun again j a ha=> ?_) (fun again=> ?_))).trans ?_
 ·have hj:=Ze ha
  have hi:Zk (.lst (c.arcs.map Z3)) (.int .i64 (j:Int))=some (Z3 a):=Zj ha
  obtain ⟨b1,b2,b3,b4,b5,b6⟩:=h.arcs a (List.mem_of_getElem? ha)
  obtain ⟨g,hg⟩:∃g:Nat,a.sig=g:=⟨a.sig.toNat,by omega⟩
  have hgl:g<c.signals.length:=by omega
  have hsg:Zk (.lst (c.signals.map ZD)) (.int .i64 (g:Int))=some (ZD c.signals[g]):=Zj (List.getElem?_eq_getElem hgl)
  have hin:ZlH.inAt' c g=decide (c.signals[g].2=1):=by unfold ZlH.inAt';rw[List.getElem?_eq_getElem hgl]
  unfold ZmB
  rw[hg,Int.toNat_natCast,hin]
  simp only[Z3,hg] at hi
  cases c1:decide (a.from_=(s:Int))<;>cases c2:decide (c.signals[g].2=1)<;>simp only[Zs hj,Zi hj (show c.arcs.length≤9223372036854775807 by omega),hi,hg,Z3,c1,c2,hsg,List.drop_succ_cons,List.drop_zero,Bool.false_eq_true,if_false,if_true,EVS]
 ·simp only[ZW,EVS]
 ·rw[Zaj,←ZzX h hs,List.any_eq_not_all_not]
  cases (c.arcs.all fun a=> !ZmB c s a)<;>rfl
theorem Zr6 (c:PSG) (n:PNet) (h:Go1 c n) (s:Nat) (v:List UInt8) (hs:s<c.codes.length) (hb:Z2 v n.wires.length=true):Ze9 [eSG c,Zp n,ePs ⟨s,v⟩]=some (pB (ZeS c n ⟨s,v⟩)):=by
 obtain ⟨h1,h2,h3,h4,h5,h6⟩:=h.vals hb
 have g1:=ZiR n v h.fitn h2 h1 (by omega)
 have g2:=ZvW c n h s hs
 show (fun x0 x1 x2=>Ze9 [x0,x1,x2]) _ _ _=_
 rw[Zqf]
 unfold ZeS ZvV
 rw[Int.toNat_natCast]
 simp only[eSG,Zp] at g1 g2
 cases c1:decide (((ZaW (Zq n v) n.wires.length).length:Int)=0)<;>simp only[eSG,Zp,ePs,ZL,ZS,g1,g2,List.length_map,c1,EVS]
def ZBF (c:PSG) (n:PNet) (P:ProdG):List Nat:=Zkb (ZeS c n) 0 P.states
theorem ZoW (c:PSG) (n:PNet) (h:Go1 c n) (P:ProdG) (hP:PrU c n P):ZdR [eSG c,Zp n,ePr P]=some (.lst ((ZBF c n P).map eNn)):=by
 have hl:=hP.len
 show (fun x0 x1 x2=>ZdR [x0,x1,x2]) _ _ _=_
 rw[ZnH]
 simp only[eSG,Zp,ePr,List.length_map,EVS]
 refine (ZaI (R:=PV) P.states (fun (acc:List Nat) i=>[.lst (acc.map eNn),pI (Int.ofNat i)]) (fun i acc=>acc.length≤i) (fun (acc:List Nat) k b=>.inl (if ZeS c n b=true then acc++[k] else acc)) (fun l=>some (.lst (l.map eNn))) _ (by omega) (fun acc i f acc' hi hf he=> ?_) (fun again acc i b hi hf=> ?_) (fun again acc hi=> ?_) (b:=[]) (by simp)).trans (ZoV (ZeS c n) _ _ _ _)
 ·cases he
  split
  ·simp only[List.length_append,List.length_singleton];omega
  ·omega
 ·have hil:=Ze hf
  obtain ⟨s,hbe,hs,hbits⟩:=(hP.ok b (List.mem_of_getElem? hf)).mk'
  obtain ⟨v,hv⟩:∃v,b.values=v:=⟨_,rfl⟩
  rw[hv] at hbe hbits
  subst hbe
  have hix:Zk (.lst (P.states.map ePs)) (.int .i64 (i:Int))=some (ePs ⟨(s:Int),v⟩):=Zj hf
  have g:=Zr6 c n h s v hs hbits
  have hlb:acc.length+[pI (i:Int)].length≤4294967296∧[pI (i:Int)].all (Zao 1)=true:=⟨by simp;omega,rfl⟩
  simp only[eSG,Zp,ePs] at g hix
  cases c1:ZeS c n ⟨(s:Int),v⟩<;>rw[c1] at g<;>simp only[Zs hil,hix,ZL,ZS,sp2,g,if_pos hlb,Zi hil (show P.states.length≤9223372036854775807 by omega),List.map_append,List.map_cons,List.map_nil,eNn,Bool.false_eq_true,if_false,if_true,EVS]
 ·simp only[ZW,EVS]
def Zku (c:PSG) (k:Nat):List Nat:=(List.range k).filter fun k=> !ZlH.inAt' c k
theorem Zt0 (c:PSG) (hl:c.signals.length≤8):Zf4 [eSG c]=some (.lst ((Zku c c.signals.length).map eNn)):=by
 show (fun x0=>Zf4 [x0]) _=_
 rw[Zsj]
 simp only[eSG,List.length_map,EVS]
 refine (Zec (R:=PV) 0 c.signals.length (fun k=>[.lst ((Zku c k).map eNn),pI (Int.ofNat k)]) (some (.lst ((Zku c c.signals.length).map eNn))) _ (by omega) (fun again k k1 k2=> ?_) (fun again=> ?_) (Nat.zero_le _) _ (by simp[Zku]))
 ·have hsg:Zk (.lst (c.signals.map ZD)) (.int .i64 (k:Int))=some (ZD c.signals[k]):=Zj (List.getElem?_eq_getElem k2)
  have hin:ZlH.inAt' c k=decide (c.signals[k].2=1):=by unfold ZlH.inAt';rw[List.getElem?_eq_getElem k2]
  have hcl:(Zku c k).length≤k:=ZeK _ k
  have hlb:(Zku c k).length+[pI (k:Int)].length≤4294967296∧[pI (k:Int)].all (Zao 1)=true:=⟨by simp;omega,rfl⟩
  have hm:c.signals.length≤9223372036854775807:=by omega
  cases c1:decide (c.signals[k].2=1)<;>rw[c1] at hin
  ·have e1:Zku c (k+1)=Zku c k++[k]:=ZeJ (by rw[hin];rfl)
   simp only[Zs k2,hsg,sp2,ZL,c1,if_pos hlb,Zi k2 hm,e1,List.map_append,List.map_cons,List.map_nil,eNn,EVS]
  ·have e1:Zku c (k+1)=Zku c k:=Zds (by rw[hin];rfl)
   simp only[Zs k2,hsg,sp2,ZL,c1,Zi k2 hm,e1,EVS]
 ·simp only[ZW,EVS]
theorem drop5 (a b c d e f:PV):List.drop 5 [a,b,c,d,e,f]=[f]:=rfl
theorem Zr7 (c:PSG) (n:PNet) (k s:Nat) (v:List UInt8) (hs:s<c.codes.length) (hk:k<c.signals.length) (A:PV) (hA:A=Zb1 c n):ZbA [pI (k:Int),A,ePs ⟨s,v⟩]=some (pB (decide (0≤toC c s k))):=by
 subst hA
 obtain ⟨row,r1,r2⟩:=Zlz c hs hk
 show (fun x0 x1 x2=>ZbA [x0,x1,x2]) _ _ _=_
 rw[ZiW]
 simp only[Zb1,ePs,drop5,List.drop_zero,r1,r2,EVS]
theorem ZiG (c:PSG) (n:PNet) (s:Nat) (v:List UInt8) (hs:s<c.codes.length) (l:List Nat) (hl:∀k∈l,k<c.signals.length) (h8:l.length≤8):
 ZE [.lst (l.map eNn),.tup [Zb1 c n,ePs ⟨s,v⟩]]=some (pI (ixf (fun k=>decide (0≤toC c s k)) 0 l)):=by
 show (fun x0 x1=>ZE [x0,x1]) _ _=_
 rw[ZbM]
 simp only[EVS]
 refine (congrArg (fun m:Option PV=>m.bind fun r=>if r.sc=true then some r else none) (ZcY l (fun k=>decide (0≤toC c s k)) _ (by omega) (fun again j k hx=> ?_) (fun again=> ?_))).trans ?_
 ·have hj:=Ze hx
  have hi:Zk (.lst (l.map eNn)) (.int .i64 (j:Int))=some (pI (k:Int)):=Zj (enc:=eNn) hx
  have g:=Zr7 c n k s v hs (hl k (List.mem_of_getElem? hx)) _ rfl
  simp only[Zb1,ePs] at g
  cases c1:decide (0≤toC c s k)<;>rw[c1] at g<;>simp only[Zb1,ePs,List.length_map,Zs hj,Zi hj (show l.length≤9223372036854775807 by omega),hi,capsAB,g,List.append_nil,List.cons_append,List.nil_append,Bool.false_eq_true,if_false,if_true,EVS]
 ·simp only[List.length_map,ZW,EVS]
  rfl
 ·simp only[EVS]
theorem ZgQ (c:PSG) (n:PNet) (s:Nat) (v:List UInt8) (hs:s<c.codes.length) (l:List Nat) (hl:∀k∈l,k<c.signals.length) (h8:l.length≤8):
 Zv [.lst (l.map eNn),.tup [Zb1 c n,ePs ⟨s,v⟩]]=some (pB (l.any fun k=>decide (0≤toC c s k))):=by
 have g:=ZiG c n s v hs l hl h8
 show (fun x0 x1=>Zv [x0,x1]) _ _=_
 rw[Zbh]
 simp only[g,ZeT (fun k=>decide (0≤toC c s k)) l 0,EVS]
 rw[Zaj,List.any_eq_not_all_not]
theorem ZvX (c:PSG) (n:PNet) (h:Go1 c n) (s:Nat) (v:List UInt8) (hs:s<c.codes.length) (hb:Z2 v n.wires.length=true):ZcB [Zb1 c n,ePs ⟨s,v⟩]=some (pB (ZeS c n ⟨s,v⟩)):=by
 obtain ⟨h1,h2,h3,h4,h5,h6⟩:=h.vals hb
 have hsm:=h.smany
 have g1:=ZmH n v h.fitn h2 h1 (by omega)
 have g2:=Zt0 c hsm
 have hol:(Zku c c.signals.length).length≤8:=by have:=ZeK (fun k=> !ZlH.inAt' c k) c.signals.length;unfold Zku;omega
 have g3:=ZgQ c n s v hs (Zku c c.signals.length) (fun k hk=>List.mem_range.1 (List.mem_filter.1 hk).1) hol
 have hany:((Zku c c.signals.length).any fun k=>decide (0≤toC c s k))=ZlH c s:=by
  unfold Zku ZlH
  rw[List.any_filter]
 rw[hany] at g3
 show (fun x0 x1=>ZcB [x0,x1]) _ _=_
 rw[ZkG]
 unfold ZeS ZvV
 rw[Int.toNat_natCast]
 have hpv:Zb true 0 3 [PV.lst (c.signals.map ZD),.lst (c.codes.map PV.str),.lst (c.arcs.map Z3),.lst (n.signals.map ZD),.lst (n.wires.map Zo),.lst ((Znr c).map ZsU)]=some (.agg [.lst (c.signals.map ZD),.lst (c.codes.map PV.str),.lst (c.arcs.map Z3)]):=rfl
 simp only[eSG,Zp,Zb1,ePs] at g1 g2 g3
 cases c1:ZlH c s<;>rw[c1] at g3<;>cases c2:decide (((ZaW (Zq n v) n.wires.length).length:Int)=0)<;>simp only[Zb1,ePs,hpv,Zmw,g1,g2,g3,c2,List.drop_zero,List.length_map,EVS]
theorem Zt1 (c:PSG) (n:PNet) (h:Go1 c n) (P:ProdG) (hP:PrU c n P):Zb8 [Zb1 c n,ePr P]=some (.lst ((ZBF c n P).map eNn)):=by
 have hl:=hP.len
 show (fun x0 x1=>Zb8 [x0,x1]) _ _=_
 rw[ZjT]
 simp only[Zb1,ePr,List.length_map,EVS]
 refine (ZaI (R:=PV) P.states (fun (acc:List Nat) i=>[.lst (acc.map eNn),pI (Int.ofNat i)]) (fun i acc=>acc.length≤i) (fun (acc:List Nat) k b=>.inl (if ZeS c n b=true then acc++[k] else acc)) (fun l=>some (.lst (l.map eNn))) _ (by omega) (fun acc i f acc' hi hf he=> ?_) (fun again acc i b hi hf=> ?_) (fun again acc hi=> ?_) (b:=[]) (by simp)).trans (ZoV (ZeS c n) _ _ _ _)
 ·cases he
  split
  ·simp only[List.length_append,List.length_singleton];omega
  ·omega
 ·have hil:=Ze hf
  obtain ⟨s,hbe,hs,hbits⟩:=(hP.ok b (List.mem_of_getElem? hf)).mk'
  obtain ⟨v,hv⟩:∃v,b.values=v:=⟨_,rfl⟩
  rw[hv] at hbe hbits
  subst hbe
  have hix:Zk (.lst (P.states.map ePs)) (.int .i64 (i:Int))=some (ePs ⟨(s:Int),v⟩):=Zj hf
  have g:=ZvX c n h s v hs hbits
  have hlb:acc.length+[pI (i:Int)].length≤4294967296∧[pI (i:Int)].all (Zao 1)=true:=⟨by simp;omega,rfl⟩
  simp only[Zb1,ePs] at g hix
  cases c1:ZeS c n ⟨(s:Int),v⟩<;>rw[c1] at g<;>simp only[Zs hil,hix,ZL,ZnD,sp2,g,if_pos hlb,Zi hil (show P.states.length≤9223372036854775807 by omega),List.map_append,List.map_cons,List.map_nil,eNn,Bool.false_eq_true,if_false,if_true,EVS]
 ·simp only[ZW,EVS]
def ZiH (c:PSG) (n:PNet):Option ProdG:=if goP c n=true then Ze3 c n else none
theorem Zt2 {c:PSG} {n:PNet} (hc:SGFit c) (hn:n.Fit) {P:ProdG} (h:ZiH c n=some P):goP c n=true∧PrU c n P:=by
 unfold ZiH at h
 split at h
 ·rename_i hg;exact ⟨hg,ZiD (ZmI hg hc hn) h⟩
 ·cases h
theorem Zr8 (c:PSG) (n:PNet) (hc:SGFit c) (hn:n.Fit):Zgm [eSG c,Zp n]=some (prR (ZiH c n)):=by
 have g0:=Zyt c n hc hn
 show (fun x0 x1=>Zgm [x0,x1]) _ _=_
 rw[ZsQ]
 unfold ZiH
 cases c0:goP c n
 ·rw[c0] at g0
  simp only[eSG,Zp] at g0
  simp only[eSG,Zp,ZL,ZS,g0,ZfR,Bool.false_eq_true,if_false,EVS]
  rfl
 ·rw[c0] at g0
  have g1:=ZoP c n (ZmI c0 hc hn)
  simp only[eSG,Zp] at g0 g1
  rw[if_pos rfl]
  cases hp:Ze3 c n with
  | none=>
   rw[hp] at g1
   simp only[prR,ZlA] at g1
   simp only[eSG,Zp,ZL,ZS,g0,g1,ZfR,EVS]
   rfl
  | some P=>
   rw[hp] at g1
   simp only[prR,ePr] at g1
   simp only[eSG,Zp,ZL,ZS,g0,g1,ZfR,EVS]
   rfl
theorem ZoX (c:PSG) (n:PNet) (hc:SGFit c) (hn:n.Fit):Zev [eSG c,Zp n]=some (match ZiH c n with|some P=>.tup [Zb1 c n,ePr P,pB true]|none=>.tup [if goP c n=true then Zb1 c n else zSys,ZlA,pB false]):=by
 have g0:=Zqc c n hc hn
 show (fun x0 x1=>Zev [x0,x1]) _ _=_
 rw[Zpz]
 unfold ZiH
 cases c0:goP c n
 ·rw[c0] at g0
  simp only[eSG,Zp,zSys,Bool.false_eq_true,if_false] at g0
  simp only[eSG,Zp,ZL,ZS,g0,ZoJ,ZnD,ZfR,Bool.false_eq_true,if_false,EVS]
  rfl
 ·rw[c0] at g0
  have g1:=ZrV c n (ZmI c0 hc hn)
  simp only[eSG,Zp,Zb1,if_true] at g0
  simp only[Zb1] at g1
  rw[if_pos rfl]
  cases hp:Ze3 c n with
  | none=>
   rw[hp] at g1
   simp only[prR,ZlA] at g1
   simp only[eSG,Zp,ZL,ZS,g0,g1,ZoJ,ZnD,ZfR,EVS]
   rfl
  | some P=>
   rw[hp] at g1
   simp only[prR,ePr] at g1
   simp only[eSG,Zp,ZL,ZS,g0,g1,ZoJ,ZnD,ZfR,EVS]
   rfl
def moQ (c:PSG) (n:PNet):List Nat×Bool:=match ZiH c n with|some P=>(ZBF c n P,true)|none=>([],false)
theorem ZC4 (c:PSG) (n:PNet) (hc:SGFit c) (hn:n.Fit):ZCW [eSG c,Zp n]=some (.tup [.lst ((moQ c n).1.map eNn),pB (moQ c n).2]):=by
 have g0:=ZoX c n hc hn
 show (fun x0 x1=>ZCW [x0,x1]) _ _=_
 rw[ZC9]
 unfold moQ
 cases hp:ZiH c n with
 | none=>
  rw[hp] at g0
  cases c0:goP c n<;>rw[c0] at g0<;>simp only[eSG,Zp,ZlA,zSys,Zb1,Bool.false_eq_true,if_false,if_true] at g0<;>simp only[eSG,Zp,ZL,ZS,g0,ZoJ,ZfR,EVS]<;>try rfl
 | some P=>
  obtain ⟨hg,hP⟩:=Zt2 hc hn hp
  have g1:=Zt1 c n (ZmI hg hc hn) P hP
  rw[hp] at g0
  simp only[eSG,Zp,ePr,Zb1] at g0 g1
  simp only[eSG,Zp,ZL,ZS,ZnD,g0,g1,ZoJ,ZfR,EVS]
  try rfl
theorem ZC5 (c:PSG) (n:PNet) (hc:SGFit c) (hn:n.Fit):ZCU [eSG c,Zp n]=some (.tup [.lst ((moQ c n).1.map eNn),pB (moQ c n).2]):=by
 have g0:=Zr8 c n hc hn
 show (fun x0 x1=>ZCU [x0,x1]) _ _=_
 rw[ZC7]
 unfold moQ
 cases hp:ZiH c n with
 | none=>
  rw[hp] at g0
  simp only[eSG,Zp,prR,ZlA] at g0
  simp only[eSG,Zp,ZL,ZS,g0,ZfR,EVS]
  try rfl
 | some P=>
  obtain ⟨hg,hP⟩:=Zt2 hc hn hp
  have g1:=ZoW c n (ZmI hg hc hn) P hP
  rw[hp] at g0
  simp only[eSG,Zp,prR,ePr] at g0 g1
  simp only[eSG,Zp,ZL,ZS,g0,g1,ZfR,EVS]
  try rfl
theorem ZDf {α:Type} (p:α→Bool):∀(l:List α) (i:Nat),(Zkb p i l).length≤l.length∧∀k∈Zkb p i l,k<i+l.length
 |[],i=>by simp[Zkb]
 | x::l,i=>by
  obtain ⟨h1,h2⟩:=ZDf p l (i+1)
  unfold Zkb
  split
  ·refine ⟨by simp only[List.length_cons];omega,fun k hk=> ?_⟩
   rcases List.mem_cons.1 hk with rfl|hk
   ·simp only[List.length_cons];omega
   ·have:=h2 k hk;simp only[List.length_cons];omega
  ·refine ⟨by simp only[List.length_cons];omega,fun k hk=> ?_⟩
   have:=h2 k hk;simp only[List.length_cons];omega
theorem ZDQ {c:PSG} {n:PNet} (hc:SGFit c) (hn:n.Fit):(moQ c n).1.length≤600:=by
 unfold moQ
 cases hp:ZiH c n with
 |none=>simp
 | some P=>
  obtain ⟨_,hP⟩:=Zt2 hc hn hp
  have:=(ZDf (ZeS c n) P.states 0).1
  have:=hP.len
  show (Zkb (ZeS c n) 0 P.states).length≤600
  omega
theorem moQ_lt {c:PSG} {n:PNet} (hc:SGFit c) (hn:n.Fit):∀k∈(moQ c n).1,k<600:=by
 unfold moQ
 cases hp:ZiH c n with
 |none=>simp
 | some P=>
  obtain ⟨_,hP⟩:=Zt2 hc hn hp
  intro k hk
  have:=(ZDf (ZeS c n) P.states 0).2 k hk
  have:=hP.len
  omega
end Go.Proofs.YtpceleehbpnchaaGreat
