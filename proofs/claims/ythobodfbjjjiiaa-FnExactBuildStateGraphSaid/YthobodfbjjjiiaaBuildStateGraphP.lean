import Derived.Test.YthobodfbjjjiiaaBuildStateGraphF
import Derived.Test.YthobodfbjjjiiaaExPure
import Derived.Test.YthobodfbjjjiiaaReachFacts
namespace Go.Proofs.Ythobodfbjjjiiaa
open Go.RowKit
set_option linter.unusedVariables false
set_option linter.unusedSimpArgs false
theorem Zdv (n lo hi:Int):Zcc [pI n,pI lo,pI hi]=some (pB (decide (lo≤n)&&decide (n≤hi))):=by
 show (fun x0 x1 x2=>Zcc [x0,x1,x2]) _ _ _=_
 rw[ZrT]
 by_cases h:lo≤n<;>simp only[h,EVS]
def Zs3 (first:Bool) (b:UInt8):Bool:=(decide ((97:Int)≤b.toNat)&&decide ((b.toNat:Int)≤122))||(!first&&(!decide ((b.toNat:Int)<48)&& !decide ((57:Int)<b.toNat)))
def ZgD :Bool→List UInt8→Bool
 |_,[]=>true
 |f,b::r=>Zs3 f b&&ZgD false r
def Zc8 (s:List UInt8):Bool:=ZgD true s&&(decide ((1:Int)≤s.length)&&decide ((s.length:Int)≤6))
theorem Zpt (s:List UInt8) (hs:s.length≤9223372036854775807):Ze1 [.str s]=some (pB (Zc8 s)):=by
 show (fun x0=>Ze1 [x0]) _=_
 rw[Zot]
 refine (congrArg (Zh true) (Zdo (R:=PV) (fun k:Nat=>[pI (Int.ofNat k)]) (fun k=>s.length+1 - k) (fun k=>some (pB (ZgD (k==0) (s.drop k)&&(decide ((1:Int)≤s.length)&&decide ((s.length:Int)≤6))))) _ (fun again k ih=> ?_) _ 0 (by omega))).trans ?_
 ·by_cases hk:k<s.length
  ·obtain ⟨b,hb⟩:∃b,s[k]?=some b:=⟨s[k],List.getElem?_eq_getElem hk⟩
   have hd:s.drop k=b::s.drop (k+1):=by
    obtain ⟨h1,rfl⟩:=List.getElem?_eq_some_iff.1 hb
    exact List.drop_eq_getElem_cons h1
   have hlt:decide ((k:Int)<s.length)=true:=by simpa using hk
   have hw:IntKind.i64.wrap ((k:Int)+1)=((k+1:Nat):Int):=by rw[Za9 (by omega) (by omega)];omega
   have hnext:=ih (k+1) (by omega)
   simp only[Int.ofNat_eq_natCast] at hnext
   have hk0:decide ((k:Int)=0)=(k==0):=by rw[Bool.eq_iff_iff];simp
   rw[hd]
   have hk1:(k+1==0)=false:=rfl
   rw[hk1] at hnext
   have ev1:=hlt
   have ev2:=ZW (k:=.i64) hb
   simp only[ZgD,Zs3,hlt,ZW hb,hk0,hw,hnext,EVS]
   by_cases c1:(97:Int)≤b.toNat
   all_goals simp only[c1,ZW hb,EVS]
   by_cases c2:(b.toNat:Int)≤122
   all_goals try simp only[c2,ZW hb,EVS]
   all_goals try simp only[hk0]
   all_goals try (cases c5:(k==0))
   all_goals try simp only[c5,ZW hb,EVS]
   all_goals try (by_cases c3:(b.toNat:Int)<48)
   all_goals try simp only[c3,ZW hb,EVS]
   all_goals try (by_cases c4:(57:Int)<b.toNat)
   all_goals try simp only[c4,ZW hb,EVS]
  ·have hd:s.drop k=[]:=List.drop_eq_nil_of_le (by omega)
   have hlt:decide ((k:Int)<s.length)=false:=by simpa using hk
   rw[hd]
   simp only[ZgD,hlt,Zdv,EVS]
 ·simp only[Zc8,List.drop_zero,beq_self_eq_true,EVS]
theorem Zd {α:Type} {l:List α} {k:Nat} {x:α} (h:l[k]?=some x):k<l.length:=(List.getElem?_eq_some_iff.1 h).1
theorem Zq {k n:Nat} (h:k<n) (hn:n≤9223372036854775807):IntKind.i64.wrap ((k:Int)+1)=((k+1:Nat):Int):=by rw[Za9 (by omega) (by omega)];omega
theorem ZZ {k n:Nat} (h:k<n):decide ((k:Int)<(n:Int))=true:=by simpa using h
theorem Zae {n:Nat}:decide ((n:Int)<(n:Int))=false:=by simp
abbrev Zam (s:List UInt8×Int):PV:=.agg [.str s.1,pI s.2]
def inR (n lo hi:Int):Bool:=decide (lo≤n)&&decide (n≤hi)
def ZlM (l:List (List UInt8×Int)) (k:Nat) (s:List UInt8×Int):Bool:=(Zc8 s.1&&inR s.2 1 3)&&Za3 (fun _ y=> !decide (s.1=y.1)) 0 (l.take k)
def Zgi (l:List (List UInt8×Int)):Bool:=Za3 (ZlM l) 0 l&&inR l.length 1 8
theorem ZlN (x:List UInt8×Int):Za4 2 (Zam x)=true:=rfl
theorem Zk6 (l:List (List UInt8×Int)) (hl:l.length≤9223372036854775807) (hs:∀s∈l,s.1.length≤9223372036854775807):ZcD [.lst (l.map Zam)]=some (pB (Zgi l)):=by
 show (fun x0=>ZcD [x0]) _=_
 rw[ZkG]
 simp only[EVS]
 refine (congrArg (Zh true) (Zab (R:=PV) l (ZlM l) (some (pB false)) (some (pB (inR l.length 1 8))) _ hl (fun again k s hb=> ?_) (fun again=> ?_))).trans ?_
 ·have hk:=Zd hb
  have hi:Zx (.lst (l.map Zam)) (.int .i64 (k:Int))=some (Zam s):=Zs hb
  have hc:ZnJ 2 (.lst (l.map Zam)) none (some (.int .i64 (k:Int)))=some (.lst ((l.take k).map Zam)):=Zqi ZlN (by omega)
  have hn:=Zpt s.1 (hs s (List.mem_of_getElem? hb))
  simp only[ZZ hk,Zq hk hl,hi,Zam,hn,Zdv,ZlM,inR,EVS]
  obtain c1|c1:=(Bool.eq_false_or_eq_true (Zc8 s.1)).symm<;>simp only[c1,Zdv,EVS]
  obtain c2|c2:=(Bool.eq_false_or_eq_true (decide (1≤s.2)&&decide (s.2≤3))).symm<;>simp only[c2,EVS]
  simp only[hc,EVS]
  refine (Zab (R:=PV) (l.take k) (fun _ y=> !decide (s.1=y.1)) (some (pB false)) (again [pI ((k+1:Nat):Int)]) _ (by simp;omega) (fun again' j y hy=> ?_) (fun again'=> ?_)).trans ?_
  ·have hj:=Zd hy
   have hi':Zx (.lst ((l.take k).map Zam)) (.int .i64 (j:Int))=some (Zam y):=Zs hy
   simp only[ZZ hj,Zq hj (by simp;omega),hi',Zam,EVS]
   cases c3:decide (s.1=y.1)<;>simp only[c3,EVS]
  ·simp only[Zae,Zq hk hl,EVS]
  ·rfl
 ·simp only[Zae,Zdv,inR,EVS]
 ·unfold Zgi
  cases Za3 (ZlM l) 0 l<;>simp only[EVS]
abbrev ZaV {α:Type} (l:List α):Prop:=l.length≤9223372036854775807
theorem ZbW (n lo hi:Int):Zas [pI n,pI lo,pI hi]=some (pB (inR n lo hi)):=by
 show (fun x0 x1 x2=>Zas [x0,x1,x2]) _ _ _=_
 rw[ZoC]
 unfold inR
 by_cases h:lo≤n<;>simp only[h,EVS]
def Zic (k:Nat) (b:UInt8):Bool:=(decide ((97:Int)≤b.toNat)&&decide ((b.toNat:Int)≤122))||(!decide ((k:Int)=0)&&(decide ((48:Int)≤b.toNat)&&decide ((b.toNat:Int)≤57)))
def ZmE (s:List UInt8):Bool:=Za3 Zic 0 s&&inR s.length 1 6
theorem Zpu (s:List UInt8) (hs:s.length≤9223372036854775807):ZdH [.str s]=some (pB (ZmE s)):=by
 show (fun x0=>ZdH [x0]) _=_
 rw[ZoG]
 refine (congrArg (Zh true) (Zab (R:=PV) s Zic (some (pB false)) (some (pB (inR s.length 1 6))) _ hs (fun again k b hb=> ?_) (fun again=> ?_))).trans ?_
 ·have hk:=Zd hb
  simp only[Zic,ZZ hk,Zq hk hs,ZW hb,EVS]
  obtain c1|c1:=(Bool.eq_false_or_eq_true (decide ((97:Int)≤b.toNat))).symm<;>simp only[c1,ZW hb,EVS]
  all_goals (obtain c2|c2:=(Bool.eq_false_or_eq_true (decide ((b.toNat:Int)≤122))).symm<;>try simp only[c2,ZW hb,EVS])
  all_goals (obtain c3|c3:=(Bool.eq_false_or_eq_true (decide ((48:Int)≤b.toNat))).symm<;>try simp only[c3,ZW hb,EVS])
  all_goals (obtain c4|c4:=(Bool.eq_false_or_eq_true (decide ((b.toNat:Int)≤57))).symm<;>try simp only[c4,ZW hb,EVS])
  all_goals (obtain c5|c5:=(Bool.eq_false_or_eq_true (decide ((k:Int)=0))).symm<;>try simp only[c5,EVS])
 ·simp only[Zae,ZbW,EVS]
 ·unfold ZmE
  cases Za3 Zic 0 s<;>simp only[EVS]
theorem Zki :∀(l:List UInt8) (k:Nat),ZgD (k==0) l=Za3 Zic k l
 |[],_=>rfl
 | b::r,k=>by
  have h:=Zki r (k+1)
  have h1:(k+1==0)=false:=rfl
  rw[h1] at h
  unfold ZgD Za3
  rw[h]
  congr 1
  unfold Zs3 Zic
  have e1:decide ((48:Int)≤b.toNat)= !decide ((b.toNat:Int)<48):=by rw[Bool.eq_iff_iff];simp
  have e2:decide ((b.toNat:Int)≤57)= !decide ((57:Int)<b.toNat):=by rw[Bool.eq_iff_iff];simp
  have e3:decide ((k:Int)=0)=(k==0):=by rw[Bool.eq_iff_iff];simp
  rw[e1,e2,e3]
theorem ZtI (s:List UInt8):Zc8 s=ZmE s:=by
 unfold Zc8 ZmE inR
 rw[←Zki s 0]
 rfl
theorem Zn6 (s:List UInt8) (hs:s.length≤9223372036854775807):ZdH [.str s]=some (pB (Zc8 s)):=(Zpu s hs).trans (by rw[ZtI])
def ixf {α:Type} (q:α→Bool):Nat→List α→Int
 |_,[]=> -1
 |k,x::r=>if q x=true then (k:Int) else ixf q (k+1) r
theorem ZqI {α:Type} (q:α→Bool):∀(l:List α) (k:Nat),rgo (fun k x=>if q x=true then some (some (pI (k:Int))) else none) (some (pI (-1))) k l=some (pI (ixf q k l))
 |[],k=>rfl
 | x::r,k=>by
  unfold rgo ixf
  cases q x
  ·simp[ZqI q r (k+1)]
  ·simp
theorem Zkj {α:Type} (q:α→Bool):∀(l:List α) (k:Nat),decide ((0:Int)≤ixf q k l)= !Za3 (fun _ x=> !q x) k l
 |[],k=>rfl
 | x::r,k=>by
  unfold ixf Za3
  cases q x
  ·simp[Zkj q r (k+1)]
  ·simp
theorem Zhz {α:Type} (l:List α) (q:α→Bool) (f:(List PV→Option PV)→List PV→Option PV) (hl:l.length≤9223372036854775807)
 (h1:∀again k x,l[k]?=some x→f again [pI (Int.ofNat k)]=if q x=true then some (pI (k:Int)) else again [pI (Int.ofNat (k+1))])
 (h2:∀again,f again [pI (Int.ofNat l.length)]=some (pI (-1))):Zw f 18446744073709551616 [pI (Int.ofNat 0)]=some (pI (ixf q 0 l)):=by
 rw[Zsl l (fun k x=>if q x=true then some (some (pI (k:Int))) else none) (some (pI (-1))) f hl (fun again k x hx=> ?_) h2,ZqI]
 rw[h1 again k x hx]
 cases q x<;>simp
theorem ZqJ (l:List PV):Zfq 1 (.tup [.agg l])=some [.agg l]:=by simp[Zfq,PV.parts,PV.isU]
theorem Zid (a x:List UInt8×Int):Zbw [Zam a,Zam x]=some (pB (decide (a.1=x.1))):=by
 show (fun x0 x1=>Zbw [x0,x1]) _ _=_
 rw[ZhS]
 simp only[Zam,List.drop_zero,EVS]
theorem ZaI (l:List (List UInt8×Int)) (x:List UInt8×Int) (hl:ZaV l):Zt [.lst (l.map Zam),.tup [Zam x]]=some (pI (ixf (fun a=>decide (a.1=x.1)) 0 l)):=by
 show (fun x0 x1=>Zt [x0,x1]) _ _=_
 rw[ZaH]
 unfold ZaV at hl
 simp only[EVS]
 refine (congrArg (Zh true) (Zhz l (fun a=>decide (a.1=x.1)) _ hl (fun again k a hb=> ?_) (fun again=> ?_))).trans ?_
 ·have hk:=Zd hb
  have hi:Zx (.lst (l.map Zam)) (.int .i64 (k:Int))=some (Zam a):=Zs hb
  have g:=Zid a x
  simp only[Zam] at g
  simp only[ZZ hk,Zq hk hl,hi,Zam,ZqJ,List.cons_append,List.nil_append,g,EVS]
 ·simp only[Zae,EVS]
  rfl
 ·simp only[EVS]
theorem Zar (l:List (List UInt8×Int)) (x:List UInt8×Int) (hl:ZaV l):Zp [.lst (l.map Zam),.tup [Zam x]]=some (pB (!Za3 (fun _ a=> !decide (a.1=x.1)) 0 l)):=by
 show (fun x0 x1=>Zp [x0,x1]) _ _=_
 rw[Zap]
 simp only[ZaI l x hl,Zkj (fun a:List UInt8×Int=>decide (a.1=x.1)) l 0,EVS]
theorem eqPin (a c:Int) (b d:Bool):eqV (some [(0,TD.int .i64),(1,TD.bool)]) .struct (.agg [pI a,pB b]) (.agg [pI c,pB d])=some (decide (a=c)&&(b==d)):=by
 simp[eqV,ZjU,ZnL,Zd9]
def Zie (l:List (List UInt8×Int)) (k:Nat) (s:List UInt8×Int):Bool:=(Zc8 s.1&&inR s.2 1 3)&&Za3 (fun _ a=> !decide (a.1=s.1)) 0 (l.take k)
def ZqK (l:List (List UInt8×Int)):Bool:=Za3 (Zie l) 0 l&&inR l.length 1 8
theorem Zkk (l:List (List UInt8×Int)) (hl:ZaV l) (hs:∀s∈l,ZaV s.1):Zce [.lst (l.map Zam)]=some (pB (ZqK l)):=by
 unfold ZaV at hl
 show (fun x0=>Zce [x0]) _=_
 rw[Zi9]
 simp only[EVS]
 refine (congrArg (Zh true) (Zab (R:=PV) l (Zie l) (some (pB false)) (some (pB (inR l.length 1 8))) _ hl (fun again k s hb=> ?_) (fun again=> ?_))).trans ?_
 ·have hk:=Zd hb
  have hi:Zx (.lst (l.map Zam)) (.int .i64 (k:Int))=some (Zam s):=Zs hb
  have hc:ZnJ 2 (.lst (l.map Zam)) none (some (.int .i64 (k:Int)))=some (.lst ((l.take k).map Zam)):=Zqi ZlN (by omega)
  have hn:=Zn6 s.1 (hs s (List.mem_of_getElem? hb))
  have g:=Zar (l.take k) s (by show (l.take k).length≤_;simp;omega)
  simp only[Zam] at g
  simp only[ZZ hk,Zq hk hl,hi,Zam,hn,Zie,EVS]
  obtain c1|c1:=(Bool.eq_false_or_eq_true (Zc8 s.1)).symm<;>simp only[c1,ZbW,EVS]
  obtain c2|c2:=(Bool.eq_false_or_eq_true (inR s.2 1 3)).symm<;>simp only[c2,EVS]
  simp only[hc,List.drop_zero,Zo2,g,EVS]
  obtain c3|c3:=(Bool.eq_false_or_eq_true (Za3 (fun _ (a:List UInt8×Int)=> !decide (a.1=s.1)) 0 (l.take k))).symm<;>simp only[c3,EVS]
 ·simp only[Zae,ZbW,EVS]
 ·unfold ZqK
  cases Za3 (Zie l) 0 l<;>simp only[EVS]
theorem ZcO {α:Type} (q:α→Bool):∀(l:List α) (k:Nat),Za3 (fun _ x=>q x) k l=l.all q
 |[],_=>rfl
 |x::r,k=>by unfold Za3;rw[ZcO q r (k+1),List.all_cons]
theorem ZgE {α:Type} (f g:Nat→α→Bool) (h:∀k x,f k x=g k x):∀(l:List α) (k:Nat),Za3 f k l=Za3 g k l
 |[],_=>rfl
 |x::r,k=>by unfold Za3;rw[h k x,ZgE f g h r (k+1)]
theorem ZtJ (l:List (List UInt8×Int)):Zgi l=ZqK l:=by
 unfold Zgi ZqK
 rw[ZgE (ZlM l) (Zie l) (fun k x=> ?_) l 0]
 unfold ZlM Zie
 rw[ZgE (fun _ (y:List UInt8×Int)=> !decide (x.1=y.1)) (fun _ (y:List UInt8×Int)=> !decide (y.1=x.1)) (fun _ y=>by simp[eq_comm]) _ 0]
def Zk7 (b:UInt8):Bool:=decide ((b.toNat:Int)=48)||decide ((b.toNat:Int)=49)
def ZqL (s:List UInt8) (n:Int):Bool:=Za3 (fun _ b=>Zk7 b) 0 s&&decide ((s.length:Int)=n)
theorem Zpv (s:List UInt8) (n:Int) (hs:ZaV s):Ze6 [.str s,pI n]=some (pB (ZqL s n)):=by
 unfold ZaV at hs
 show (fun x0 x1=>Ze6 [x0,x1]) _ _=_
 rw[ZoE]
 refine (congrArg (Zh true) (Zab (R:=PV) s (fun _ b=>Zk7 b) (some (pB false)) (some (pB (decide ((s.length:Int)=n)))) _ hs (fun again k b hb=> ?_) (fun again=> ?_))).trans ?_
 ·have hk:=Zd hb
  simp only[Zk7,ZZ hk,Zq hk hs,ZW hb,EVS]
  obtain c1|c1:=(Bool.eq_false_or_eq_true (decide ((b.toNat:Int)=48))).symm<;>simp only[c1,ZW hb,EVS]
  obtain c2|c2:=(Bool.eq_false_or_eq_true (decide ((b.toNat:Int)=49))).symm<;>simp only[c2,ZW hb,EVS]
 ·simp only[Zae,EVS]
 ·unfold ZqL
  cases Za3 (fun _ b=>Zk7 b) 0 s<;>simp only[EVS]
theorem Zud {α:Type} (q:Nat→α→Bool):∀(l:List α) (j:Nat),Za3 q j l=true→∀(i:Nat) (x:α),l[i]?=some x→q (j+i) x=true
 |[],j,_,i,x,hx=>by simp at hx
 | y::r,j,h,i,x,hx=>by
  unfold Za3 at h
  rw[Bool.and_eq_true] at h
  cases i with
  |zero=>simp at hx;subst hx;simpa using h.1
  | succ i=>
   have:=Zud q r (j+1) h.2 i x (by simpa using hx)
   rw[show j+(i+1)=j+1+i by omega]
   exact this
def bitU (u:Bool):UInt8:=if u=true then 49 else 48
theorem ZlO (u:Bool):Zct [pB u]=some (.str [bitU u]):=by
 show (fun x0=>Zct [x0]) _=_
 rw[ZpY]
 cases u<;>simp only[EVS]<;>rfl
theorem ZqM (u:Bool):ZeR [pB u]=some (pU (bitU u)):=by
 show (fun x0=>ZeR [x0]) _=_
 rw[Ztm]
 cases u<;>simp only[EVS]<;>rfl
theorem Zs4 (b:UInt8):Zk7 b=true↔b=48∨b=49:=by
 unfold Zk7
 rw[Bool.or_eq_true,decide_eq_true_eq,decide_eq_true_eq]
 have h48:(48:UInt8).toNat=48:=rfl
 have h49:(49:UInt8).toNat=49:=rfl
 constructor
 ·rintro (h|h)
  ·exact .inl (UInt8.toNat_inj.1 (by omega))
  ·exact .inr (UInt8.toNat_inj.1 (by omega))
 ·rintro (rfl|rfl)
  ·exact .inl rfl
  ·exact .inr rfl
theorem ZqN (s:List UInt8) (h:s.length≤9223372036854775807):ZjO (.str s)=some (.lst (s.map pU)):=by
 unfold ZjO
 simp only
 rw[if_pos h]
theorem Zif (k k':IntKind) (m n:Int):ZJ 0 1 [.int k m] (.int k m) (.int k' n)=some (.int k' n):=rfl
theorem Zf2 {α:Type} (f:α→PV) (l:List α) (i:Nat) (x:α):(l.map f).set i (f x)=(l.set i x).map f:=by rw[List.map_set]
def eTr (t:Tr):PV:=.agg [.lst (t.pre.map pI),.lst (t.post.map pI)]
def eNt (n:Net):PV:=.agg [pI n.places,.lst (n.trans.map eTr)]
structure TrFit (t:Tr):Prop where
 pre:ZaV t.pre
 post:ZaV t.post
structure NtFit (n:Net):Prop where
 trans:ZaV n.trans
 each:∀t∈n.trans,TrFit t
def ZdL (l:List Int) (k:Nat):Int:=if k=0 then -1 else l.getD (k - 1) 0
theorem ZqO (hi:Int) (l:List Int):Za3 (fun k x=>inB x 0 hi&&decide (ZdL l k<x)) 0 l=ZfV hi l:=by
 suffices h:∀(a r:List Int),l=a++r→Za3 (fun k x=>inB x 0 hi&&decide (ZdL l k<x)) a.length r=Zl5 hi (ZdL l a.length) r by
  have:=h [] l rfl
  simpa[ZdL,ZfV] using this
 intro a r
 induction r generalizing a with
 |nil=>intro _;rfl
 | cons x r ih=>
  intro e
  have e2:=ih (a++[x]) (by simp[e])
  have hp:ZdL l (a.length+1)=x:=by unfold ZdL;rw[if_neg (by omega),e];simp
  simp only[List.length_append,List.length_cons,List.length_nil,Nat.zero_add] at e2
  unfold Za3 Zl5
  rw[e2,hp]
theorem sub_1 {k:Nat} (h:0<k) (hk:k≤9223372036854775807):IntKind.i64.wrap ((k:Int) - 1)=((k - 1:Nat):Int):=by rw[Za9 (by omega) (by omega)];omega
theorem ZqP {l:List Int} {k:Nat} (h:0<k) (hk:k<l.length):l[k - 1]?=some (ZdL l k):=by
 unfold ZdL
 rw[if_neg (by omega),List.getD_eq_getElem?_getD,List.getElem?_eq_getElem (by omega)];rfl
theorem ZmF (l:List Int) (hi:Int) (hl:ZaV l):Zdh [.lst (l.map pI),pI 0,pI hi]=some (pB (ZfV (hi) l)):=by
 unfold ZaV at hl
 show (fun x0 x1 x2=>Zdh [x0,x1,x2]) _ _ _=_
 rw[Zlu,←ZqO]
 simp only[EVS]
 refine (congrArg (Zh true) (Zab (R:=PV) l (fun k x=>inB x 0 (hi)&&decide (ZdL l k<x)) (some (pB false)) (some (pB true)) _ hl (fun again k x hx=> ?_) (fun again=> ?_))).trans ?_
 ·have hk:=Zd hx
  have hi':Zx (.lst (l.map pI)) (.int .i64 (k:Int))=some (pI x):=Zs hx
  have g:=Zdv x 0 (hi)
  have gi:inB x 0 (hi)=(decide ((0:Int)≤x)&&decide (x≤hi)):=rfl
  rw[←gi] at g
  simp only[ZZ hk,Zq hk hl,hi',g,EVS]
  cases hc:inB x 0 (hi)
  ·simp only[EVS]
  ·simp only[EVS]
   by_cases c:0<k
   ·have hj:Zx (.lst (l.map pI)) (.int .i64 ((k - 1:Nat):Int))=some (pI (ZdL l k)):=Zs (ZqP c hk)
    have hd:decide ((0:Int)<(k:Int))=true:=by simpa using c
    simp only[hd,sub_1 c (by omega),hj,EVS]
    by_cases c2:ZdL l k<x
    ·have:¬x≤ZdL l k:=by omega
     simp only[c2,this,EVS]
    ·have:x≤ZdL l k:=by omega
     simp only[c2,this,EVS]
   ·obtain rfl:k=0:=by omega
    have hd:decide ((0:Int)<(0:Int))=false:=by decide
    have c2:ZdL l 0<x:=by have:=(ZcG.1 hc).1;show (-1:Int)<x;omega
    simp only[hd,c2,EVS]
 ·simp only[Zae,EVS]
 ·cases Za3 (fun k x=>inB x 0 (hi)&&decide (ZdL l k<x)) 0 l<;>rfl
theorem Zev (l:List Int) (n:Int) (hl:ZaV l) (hn1: -9223372036854775808≤n - 1) (hn2:n - 1≤9223372036854775807):ZaF [.lst (l.map pI),pI n]=some (pB (ZfV (n - 1) l)):=by
 unfold ZaV at hl
 show (fun x0 x1=>ZaF [x0,x1]) _ _=_
 rw[ZhO,←ZqO]
 simp only[EVS]
 refine (congrArg (Zh true) (Zab (R:=PV) l (fun k x=>inB x 0 (n - 1)&&decide (ZdL l k<x)) (some (pB false)) (some (pB true)) _ hl (fun again k x hx=> ?_) (fun again=> ?_))).trans ?_
 ·have hk:=Zd hx
  have hi':Zx (.lst (l.map pI)) (.int .i64 (k:Int))=some (pI x):=Zs hx
  have g:=ZbW x 0 (n - 1)
  have gi:inB x 0 (n - 1)=inR x 0 (n - 1):=rfl
  rw[←gi] at g
  simp only[ZZ hk,Zq hk hl,hi',Za9 hn1 hn2,g,EVS]
  cases hc:inB x 0 (n - 1)
  ·simp only[EVS]
  ·simp only[EVS]
   by_cases c:0<k
   ·have hj:Zx (.lst (l.map pI)) (.int .i64 ((k - 1:Nat):Int))=some (pI (ZdL l k)):=Zs (ZqP c hk)
    have hd:decide ((0:Int)<(k:Int))=true:=by simpa using c
    simp only[hd,sub_1 c (by omega),hj,EVS]
    by_cases c2:ZdL l k<x
    ·have:¬x≤ZdL l k:=by omega
     simp only[c2,this,EVS]
    ·have:x≤ZdL l k:=by omega
     simp only[c2,this,EVS]
   ·obtain rfl:k=0:=by omega
    have hd:decide ((0:Int)<(0:Int))=false:=by decide
    have c2:ZdL l 0<x:=by have:=(ZcG.1 hc).1;show (-1:Int)<x;omega
    simp only[hd,c2,EVS]
 ·simp only[Zae,EVS]
 ·cases Za3 (fun k x=>inB x 0 (n - 1)&&decide (ZdL l k<x)) 0 l<;>rfl
theorem Zkl (l:List Int) (hi:Int) (hl:ZaV l):ZdF [.lst (l.map pI),pI hi]=some (pB (ZfV hi l)):=by
 show (fun x0 x1=>ZdF [x0,x1]) _ _=_
 rw[Zop]
 have g:=ZmF l hi hl
 simp only[g,EVS]
theorem emp_d (l:List Int):decide ((l.length:Int)=0)=l.isEmpty:=by cases l with
 |nil=>rfl
 |cons a l=>simp;omega
theorem Zpw (n:Net) (hn:NtFit n):Ze0 [eNt n]=some (pB (ZaC n)):=by
 have hl:=hn.trans
 unfold ZaV at hl
 show (fun x0=>Ze0 [x0]) _=_
 rw[Zor]
 simp only[eNt,EVS]
 obtain ⟨W,hW⟩:∃W,IntKind.i64.wrap (n.places - 1)=W:=⟨_,rfl⟩
 refine (congrArg (fun m:Option PV=>m.bind fun r=>if r.sc=true then some r else none) (Zab (R:=PV) n.trans (fun k t=> !t.pre.isEmpty&&ZfV W t.pre&&ZfV W t.post) (some (pB false)) (some (pB (inB n.places 1 30&&decide (n.trans.length≤24)))) _ hl (fun again k t hx=> ?_) (fun again=> ?_))).trans ?_
 ·have hk:=Zd hx
  have ht:=hn.each t (List.mem_of_getElem? hx)
  have hi':Zx (.lst (n.trans.map eTr)) (.int .i64 (k:Int))=some (eTr t):=Zs hx
  have g1:=Zkl t.pre W ht.pre
  have g2:=Zkl t.post W ht.post
  simp only[ZZ hk,Zq hk hl,hi',eTr,emp_d,hW,g1,g2,EVS]
  cases c1:t.pre.isEmpty<;>cases c2:ZfV W t.pre<;>cases c3:ZfV W t.post<;>simp only[c1,c2,c3,hW,g1,g2,EVS]
 ·have g:=Zdv n.places 1 30
  have gi:inB n.places 1 30=(decide ((1:Int)≤n.places)&&decide (n.places≤30)):=rfl
  rw[←gi] at g
  have hd:decide ((n.trans.length:Int)≤24)=decide (n.trans.length≤24):=by rw[Bool.eq_iff_iff];simp;omega
  simp only[Zae,g,EVS]
  cases inB n.places 1 30<;>simp only[hd,EVS]
 ·rw[ZcO]
  unfold ZaC
  cases c:inB n.places 1 30
  ·cases n.trans.all (fun t=> !t.pre.isEmpty&&ZfV W t.pre&&ZfV W t.post)<;>simp only[EVS]<;>rfl
  ·have hw:W=n.places - 1:=by rw[←hW];have:=ZcG.1 c;exact Za9 (by omega) (by omega)
   subst hw
   have hh:(n.trans.all fun t=> !t.pre.isEmpty&&ZfV (n.places - 1) t.pre&&ZfV (n.places - 1) t.post)=n.trans.all (trB n.places):=rfl
   rw[hh]
   cases n.trans.all (trB n.places)<;>simp only[EVS]<;>rfl
theorem Zig (t:Tr) (n:Net) (ht:TrFit t) (hp: -9223372036854775808≤n.places - 1∧n.places - 1≤9223372036854775807):Zbv [eTr t,.agg [pI n.places,.lst (n.trans.map eTr)]]=some (pB (!trB n.places t)):=by
 have g1:=Zev t.pre n.places ht.pre hp.1 hp.2
 have g2:=Zev t.post n.places ht.post hp.1 hp.2
 show (fun x0 x1=>Zbv [x0,x1]) _ _=_
 rw[ZhQ]
 simp only[eTr,emp_d,List.drop_zero,EVS]
 unfold trB
 cases c1:t.pre.isEmpty<;>cases c2:ZfV (n.places - 1) t.pre<;>cases c3:ZfV (n.places - 1) t.post<;>simp only[c1,c2,c3,g1,g2,EVS]
theorem Zan (n:Net) (hn:NtFit n) (hp: -9223372036854775808≤n.places - 1∧n.places - 1≤9223372036854775807):Zo [.lst (n.trans.map eTr),.tup [.agg [pI n.places,.lst (n.trans.map eTr)]]]=some (pI (ixf (fun t=> !trB n.places t) 0 n.trans)):=by
 show (fun x0 x1=>Zo [x0,x1]) _ _=_
 rw[Zal]
 have hl:=hn.trans
 unfold ZaV at hl
 simp only[EVS]
 refine (congrArg (fun m:Option PV=>m.bind fun r=>if r.sc=true then some r else none) (Zhz n.trans (fun t=> !trB n.places t) _ hl (fun again k a hb=> ?_) (fun again=> ?_))).trans ?_
 ·have hk:=Zd hb
  have hi:Zx (.lst (n.trans.map eTr)) (.int .i64 (k:Int))=some (eTr a):=Zs hb
  have g:=Zig a n (hn.each a (List.mem_of_getElem? hb)) hp
  simp only[eTr] at g
  simp only[ZZ hk,Zq hk hl,hi,eTr,ZqJ,List.cons_append,List.nil_append,EVS]
  simp only[eTr] at hi
  simp only[g,EVS]
 ·simp only[Zae,EVS]
  rfl
 ·simp only[EVS]
theorem Zaf (n:Net) (hn:NtFit n) (hp: -9223372036854775808≤n.places - 1∧n.places - 1≤9223372036854775807):Zl [.lst (n.trans.map eTr),.tup [.agg [pI n.places,.lst (n.trans.map eTr)]]]=some (pB (!n.trans.all (trB n.places))):=by
 show (fun x0 x1=>Zl [x0,x1]) _ _=_
 rw[Zaa]
 simp only[Zan n hn hp,Zkj (fun t=> !trB n.places t) n.trans 0,Bool.not_not,ZcO,EVS]
theorem Zkm (n:Net) (hn:NtFit n):Zcd [eNt n]=some (pB (ZaC n)):=by
 have g0:=ZbW n.places 1 30
 have gi:inB n.places 1 30=inR n.places 1 30:=rfl
 rw[←gi] at g0
 have hd:decide ((24:Int)<(n.trans.length:Int))= !decide (n.trans.length≤24):=by rw[Bool.eq_iff_iff];simp;omega
 show (fun x0=>Zcd [x0]) _=_
 rw[Zi7]
 unfold ZaC
 simp only[eNt,g0,EVS]
 cases c1:inB n.places 1 30
 ·simp only[EVS]
 have hp:=ZcG.1 c1
 have g:=Zaf n hn ⟨by omega,by omega⟩
 cases c2:decide (n.trans.length≤24)<;>simp only[c2,hd,List.drop_zero,g,Bool.not_not,EVS]
theorem ZlP (s:List UInt8):Za3 (fun _ b=>Zk7 b) 0 s=Za8 s:=by
 rw[ZcO]
 induction s with
 |nil=>rfl
 | cons b r ih=>
  simp only[List.all_cons,Za8,ih]
  have:Zk7 b=(b==48||b==49):=by
   rw[Bool.eq_iff_iff,Zs4];simp
  rw[this]
theorem Zs5 (b:UInt8):decide ((b.toNat:Int)=49)=(b==49):=by
 rw[Bool.eq_iff_iff];simp only[decide_eq_true_eq,beq_iff_eq]
 exact ⟨fun h=>UInt8.toNat_inj.1 (by show b.toNat=49;omega),fun h=>by subst h;rfl⟩
theorem by_48 (b:UInt8):decide ((b.toNat:Int)=48)=(b==48):=by
 rw[Bool.eq_iff_iff];simp only[decide_eq_true_eq,beq_iff_eq]
 exact ⟨fun h=>UInt8.toNat_inj.1 (by show b.toNat=48;omega),fun h=>by subst h;rfl⟩
theorem ZtK (s:List UInt8) (n:Int):ZqL s n=ZhV s n:=by unfold ZqL ZhV;rw[ZlP]
theorem Zpx (n:Net) (m:List UInt8) (hm:ZaV m):Ze2 [eNt n,.str m]=some (pB (ZhV m n.places)):=by
 unfold ZaV at hm
 show (fun x0 x1=>Ze2 [x0,x1]) _ _=_
 rw[Zov]
 simp only[eNt,EVS]
 refine (congrArg (fun m:Option PV=>m.bind fun r=>if r.sc=true then some r else none) (Zab (R:=PV) m (fun _ b=>Zk7 b) (some (pB false)) (some (pB (decide ((m.length:Int)=n.places)))) _ hm (fun again k b hx=> ?_) (fun again=> ?_))).trans ?_
 ·have hk:=Zd hx
  have hb:=ZW (k:=.i64) hx
  unfold Zk7
  simp only[ZZ hk,Zq hk hm,hb,EVS]
  cases c:decide ((b.toNat:Int)=48)<;>cases c2:decide ((b.toNat:Int)=49)<;>simp only[c,c2,hb,EVS]
 ·simp only[Zae,EVS]
 ·rw[ZlP]
  unfold ZhV
  cases Za8 m<;>simp only[EVS]<;>rfl
theorem ZgF (n:Net) (m:List UInt8) (hn:NtFit n) (hm:ZaV m):ZaY [eNt n,.str m]=some (pB (Zj n m)):=by
 have g1:=Zkm n hn
 have g2:=Zpv m n.places hm
 rw[ZtK] at g2
 show (fun x0 x1=>ZaY [x0,x1]) _ _=_
 rw[Zgd]
 unfold Zj
 simp only[eNt] at g1 g2⊢
 cases c:ZaC n<;>simp only[c,g1,g2,EVS]
theorem ZmG {m:List UInt8} {j:Nat} (h:j<m.length):m[j]?=some (m.getD j 0):=by
 rw[List.getD_eq_getElem?_getD,List.getElem?_eq_getElem h];rfl
theorem Zn7 (n:Net) (m:List UInt8) (k:Nat) (t:Tr) (hg:Zj n m=true) (ht:n.trans[k]?=some t) (hf:TrFit t):Zd2 [eNt n,.str m,pI k]=some (pB (enB m t)):=by
 have hl:=hf.pre
 unfold ZaV at hl
 have hpl:=(Zjq hg ht).1
 have hi:Zx (.lst (n.trans.map eTr)) (.int .i64 (k:Int))=some (eTr t):=Zs ht
 show (fun x0 x1 x2=>Zd2 [x0,x1,x2]) _ _ _=_
 rw[Zm8,←Ztp (Zl7 hg) hpl]
 simp only[eNt,hi,eTr,List.drop_zero,EVS]
 refine (congrArg (fun m:Option PV=>m.bind fun r=>if r.sc=true then some r else none) (Zab (R:=PV) t.pre (fun _ p=>m.getD p.toNat 0==49) (some (pB false)) (some (pB true)) _ hl (fun again k p hx=> ?_) (fun again=> ?_))).trans ?_
 ·have hk:=Zd hx
  have hi':Zx (.lst (t.pre.map pI)) (.int .i64 (k:Int))=some (pI p):=Zs hx
  obtain ⟨h1,h2⟩:=hpl p (List.mem_of_getElem? hx)
  obtain ⟨j,rfl⟩:∃j:Nat,p=j:=⟨p.toNat,by omega⟩
  have hb:=ZW (k:=.i64) (ZmG (m:=m) (j:=j) (by omega))
  simp only[ZZ hk,Zq hk hl,hi',hb,Zs5,Int.toNat_natCast,EVS]
  cases m.getD j 0==49<;>simp only[EVS]
 ·simp only[Zae,EVS]
 ·rw[ZcO]
  unfold Zp0
  cases t.pre.all (fun p=>m.getD p.toNat 0==49)<;>simp only[EVS]
theorem Zi4 (m:List UInt8) (j:Nat) (h:j<m.length):ZbR [pI j,.agg [.str m]]=some (pB (m.getD j 0==48)):=by
 have hb:=ZW (k:=.i64) (ZmG (m:=m) (j:=j) h)
 show (fun x0 x1=>ZbR [x0,x1]) _ _=_
 rw[ZiH]
 simp only[hb,by_48,EVS]
theorem Zbe (l:List Int) (m:List UInt8) (hp:ZeB l m.length) (hl:ZaV l):ZD [.lst (l.map pI),.tup [.agg [.str m]]]=some (pI (ixf (fun p=>m.getD p.toNat 0==48) 0 l)):=by
 show (fun x0 x1=>ZD [x0,x1]) _ _=_
 rw[Za7]
 unfold ZaV at hl
 simp only[EVS]
 refine (congrArg (fun m:Option PV=>m.bind fun r=>if r.sc=true then some r else none) (Zhz l (fun p=>m.getD p.toNat 0==48) _ hl (fun again k a hb=> ?_) (fun again=> ?_))).trans ?_
 ·have hk:=Zd hb
  have hi:Zx (.lst (l.map pI)) (.int .i64 (k:Int))=some (pI a):=Zs hb
  obtain ⟨h1,h2⟩:=hp a (List.mem_of_getElem? hb)
  obtain ⟨j,rfl⟩:∃j:Nat,a=j:=⟨a.toNat,by omega⟩
  have g:=Zi4 m j (by omega)
  simp only[ZZ hk,Zq hk hl,hi,ZqJ,List.cons_append,List.nil_append,g,Int.toNat_natCast,EVS]
 ·simp only[Zae,EVS]
  rfl
 ·simp only[EVS]
theorem ZaW (l:List Int) (m:List UInt8) (hp:ZeB l m.length) (hl:ZaV l):Zv [.lst (l.map pI),.tup [.agg [.str m]]]=some (pB (l.any (fun p=>m.getD p.toNat 0==48))):=by
 show (fun x0 x1=>Zv [x0,x1]) _ _=_
 rw[ZaM]
 have e:(!l.all fun p=> !(m.getD p.toNat 0==48))=l.any (fun p=>m.getD p.toNat 0==48):=by rw[List.not_all_eq_any_not];simp
 simp only[Zbe l m hp hl,Zkj (fun p:Int=>m.getD p.toNat 0==48) l 0,ZcO,e,EVS]
theorem Zgj (t:Tr) (m:List UInt8) (hp:ZeB t.pre m.length) (hf:TrFit t):ZbJ [eTr t,.str m]=some (pB (enB m t)):=by
 have g:=ZaW t.pre m hp hf.pre
 show (fun x0 x1=>ZbJ [x0,x1]) _ _=_
 rw[ZkJ]
 unfold enB
 simp only[eTr,List.drop_zero,g,EVS]
theorem ZmH (m:List UInt8):∀(l:List Tr) (k:Nat) (acc:List Int),ZO (R:=PV) (fun (acc:List Int) k t=>.inl (if enB m t=true then acc++[(k:Int)] else acc)) (fun acc=>some (.lst (acc.map pI))) k acc l=some (.lst ((acc++ZkO m k l).map pI))
 |[],k,acc=>by simp[ZO,ZkO]
 | t::r,k,acc=>by
  unfold ZO ZkO
  refine (ZmH m r (k+1) _).trans ?_
  cases enB m t<;>simp
theorem Zk8 (n:Net) (m:List UInt8) (hg:Zj n m=true) (hn:NtFit n):ZcE [eNt n,.str m]=some (.lst ((enL n m).map pI)):=by
 have hl:n.trans.length≤24:=by unfold Zj ZaC at hg;simp only[Bool.and_eq_true,decide_eq_true_eq] at hg;omega
 show (fun x0 x1=>ZcE [x0,x1]) _ _=_
 rw[ZkI]
 simp only[eNt,EVS]
 refine (ZT (R:=PV) n.trans (fun (acc:List Int) k=>[.lst (acc.map pI),pI (Int.ofNat k)]) (fun k acc=>acc.length≤k) (fun acc k t=>.inl (if enB m t=true then acc++[(k:Int)] else acc)) (fun acc=>some (.lst (acc.map pI))) _ (by omega) (fun acc k t acc' hi hx he=> ?_) (fun again acc k t hi hx=> ?_) (fun again acc hi=> ?_) (b:=[]) (Nat.zero_le _)).trans ?_
 ·cases he;split<;>first|(simp;omega)|omega
 ·have hk:=Zd hx
  have g:=Zn7 n m k t hg hx (hn.each t (List.mem_of_getElem? hx))
  simp only[eNt] at g
  have hla:acc.length+[pI (k:Int)].length≤4294967296∧[pI (k:Int)].all (Za4 1)=true:=⟨by simp;omega,rfl⟩
  simp only[ZZ hk,g,EVS]
  cases enB m t
  ·simp only[Zq hk (show n.trans.length≤9223372036854775807 by omega),EVS]
  ·simp only[if_pos hla,Zq hk (show n.trans.length≤9223372036854775807 by omega),List.map_append,List.map_cons,List.map_nil,EVS]
 ·simp only[Zae,EVS]
 ·rw[ZmH];rfl
theorem Zn8 (n:Net) (m:List UInt8) (hg:Zj n m=true) (hn:NtFit n):Zd6 [eNt n,.str m]=some (.lst ((enL n m).map pI)):=by
 have hl:n.trans.length≤24:=by unfold Zj ZaC at hg;simp only[Bool.and_eq_true,decide_eq_true_eq] at hg;omega
 show (fun x0 x1=>Zd6 [x0,x1]) _ _=_
 rw[Zng]
 simp only[eNt,EVS]
 refine (ZT (R:=PV) n.trans (fun (acc:List Int) k=>[.lst (acc.map pI),pI (Int.ofNat k)]) (fun k acc=>acc.length≤k) (fun acc k t=>.inl (if enB m t=true then acc++[(k:Int)] else acc)) (fun acc=>some (.lst (acc.map pI))) _ (by omega) (fun acc k t acc' hi hx he=> ?_) (fun again acc k t hi hx=> ?_) (fun again acc hi=> ?_) (b:=[]) (Nat.zero_le _)).trans ?_
 ·cases he;split<;>first|(simp;omega)|omega
 ·have hk:=Zd hx
  have hx':Zx (.lst (n.trans.map eTr)) (.int .i64 (k:Int))=some (eTr t):=Zs hx
  have g:=Zgj t m (Zjq hg hx).1 (hn.each t (List.mem_of_getElem? hx))
  simp only[eTr] at g
  have hla:acc.length+[pI (k:Int)].length≤4294967296∧[pI (k:Int)].all (Za4 1)=true:=⟨by simp;omega,rfl⟩
  simp only[ZZ hk,hx',eTr,g,EVS]
  cases enB m t
  ·simp only[Zq hk (show n.trans.length≤9223372036854775807 by omega),EVS]
  ·simp only[if_pos hla,Zq hk (show n.trans.length≤9223372036854775807 by omega),List.map_append,List.map_cons,List.map_nil,EVS]
 ·simp only[Zae,EVS]
 ·rw[ZmH];rfl
theorem ZlQ {n:Net} {m:List UInt8} (hg:Zj n m=true):m.length≤30:=by
 have:=Zi0 hg;omega
theorem ZgG {e:List UInt8→Option PV}:∀(l:List Int) (k:Nat) (m:List UInt8),ZO (R:=PV) (fun (m:List UInt8) _ p=>.inl (m.set p.toNat 48)) e k m l=e (Zg5 l m)
 |[],k,m=>rfl
 | p::r,k,m=>by
  unfold ZO Zg5
  exact ZgG r (k+1) _
theorem Zih :∀(l:List Int) (k:Nat) (m:List UInt8),ZO (R:=PV) (fun (m:List UInt8) _ p=>if (m.getD p.toNat 0==49)=true then .inr (some (.tup [.str [],pB false])) else .inl (m.set p.toNat 49)) (fun m=>some (.tup [.str m,pB true])) k m l=some (.tup [.str (ZhW (ZdK l m)).1,pB (ZhW (ZdK l m)).2])
 |[],k,m=>rfl
 | p::r,k,m=>by
  unfold ZO ZdK
  by_cases c:(m.getD p.toNat 0==49)=true
  ·rw[if_pos c,if_pos c];rfl
  ·rw[if_neg c,if_neg c]
   exact Zih r (k+1) _
theorem Zs6 (m:List UInt8) (j:Nat):(m.map pU).set j (.int .u8 48)=(m.set j 48).map pU:=Zf2 pU m j 48
theorem ZmI (m:List UInt8) (j:Nat):(m.map pU).set j (.int .u8 49)=(m.set j 49).map pU:=Zf2 pU m j 49
theorem Zf3 {m:List UInt8} {j:Nat} (h:j<m.length):(m.map pU)[j]?=some (pU (m.getD j 0)):=by rw[List.getElem?_map,ZmG h];rfl
theorem Zpy (n:Net) (m:List UInt8) (k:Nat) (t:Tr) (hg:Zj n m=true) (ht:n.trans[k]?=some t) (hf:TrFit t):Ze4 [eNt n,.str m,pI k]=some (.tup [.str (ZhW (Zl6 t m)).1,pB (ZhW (Zl6 t m)).2]):=by
 have hl1:=hf.pre
 have hl2:=hf.post
 unfold ZaV at hl1 hl2
 have hp:=Zjq hg ht
 have hm:=ZlQ hg
 have hi:Zx (.lst (n.trans.map eTr)) (.int .i64 (k:Int))=some (eTr t):=Zs ht
 show (fun x0 x1 x2=>Ze4 [x0,x1,x2]) _ _ _=_
 rw[Zoz]
 simp only[eNt,ZqN m (by omega),hi,eTr,List.drop_zero,EVS]
 refine (congrArg (fun m:Option PV=>m.bind fun r=>if r.sc=true then some r else none) (ZT (R:=PV) t.pre (fun (b:List UInt8) k=>[.lst (b.map pU),pI (Int.ofNat k)]) (fun _ b=>b.length=m.length) (fun (b:List UInt8) _ p=>.inl (b.set p.toNat 48)) (fun b=>some (.tup [.str (ZhW (ZdK t.post b)).1,pB (ZhW (ZdK t.post b)).2])) _ hl1 (fun b k p b' hb hx he=> ?_) (fun again b k p hb hx=> ?_) (fun again b hb=> ?_) (b:=m) rfl)).trans ?_
 ·cases he;simpa using hb
 ·have hk:=Zd hx
  have hi':Zx (.lst (t.pre.map pI)) (.int .i64 (k:Int))=some (pI p):=Zs hx
  obtain ⟨h1,h2⟩:=hp.1 p (List.mem_of_getElem? hx)
  obtain ⟨j,rfl⟩:∃j:Nat,p=j:=⟨p.toNat,by omega⟩
  have hj:j<b.length:=by omega
  have hpl:ZR (b.map pU) (.int .i64 (j:Int))=some (.int .i64 (j:Int)):=Zah (by rw[List.length_map];exact hj)
  simp only[ZZ hk,Zq hk hl1,hi',hpl,Zf3 hj,Zif,Zs6,EVS]
 ·have hi2:Zx (.lst (n.trans.map eTr)) (.int .i64 (k:Int))=some (eTr t):=hi
  simp only[Zae,hi2,eTr,List.drop_succ_cons,List.drop_zero,EVS]
  refine (ZT (R:=PV) t.post (fun (b:List UInt8) k=>[.lst (b.map pU),pI (Int.ofNat k)]) (fun _ b=>b.length=m.length) (fun (b:List UInt8) _ p=>if (b.getD p.toNat 0==49)=true then .inr (some (.tup [.str [],pB false])) else .inl (b.set p.toNat 49)) (fun b=>some (.tup [.str b,pB true])) _ hl2 (fun b k p b' hb hx he=> ?_) (fun again b k p hb hx=> ?_) (fun again b hb=> ?_) (b:=b) hb).trans (Zih _ _ _)
  ·split at he
   ·cases he
   ·cases he;simpa using hb
  ·have hk:=Zd hx
   have hi':Zx (.lst (t.post.map pI)) (.int .i64 (k:Int))=some (pI p):=Zs hx
   obtain ⟨h1,h2⟩:=hp.2 p (List.mem_of_getElem? hx)
   obtain ⟨j,rfl⟩:∃j:Nat,p=j:=⟨p.toNat,by omega⟩
   have hj:j<b.length:=by omega
   have hpl:ZR (b.map pU) (.int .i64 (j:Int))=some (.int .i64 (j:Int)):=Zah (by rw[List.length_map];exact hj)
   simp only[ZZ hk,Zq hk hl2,hi',hpl,Zf3 hj,Zif,ZmI,Zs5,EVS]
   cases c:(b.getD j 0==49)<;>simp only[hpl,Zf3 hj,Zif,ZmI,EVS]
   all_goals rfl
  ·simp only[Zae,ZdP,EVS]
 ·rw[ZgG]
  simp only[EVS,List.all_cons,List.all_nil]
  rfl
theorem ZrE (n:Net) (m:List UInt8) (k:Nat) (t:Tr) (ht:n.trans[k]?=some t):Zbn n m k=if enB m t=true then Zl6 t m else none:=by
 have hk:=Zd ht
 unfold Zbn
 rw[if_pos (ZcG.2 ⟨by omega,by omega⟩),Int.toNat_natCast,ht]
theorem Zs7 (n:Net) (m:List UInt8) (k:Nat) (t:Tr) (hg:Zj n m=true) (ht:n.trans[k]?=some t) (hf:TrFit t):ZhE [eNt n,.str m,pI k]=some (.tup [.str (ZhW (Zbn n m k)).1,pB (ZhW (Zbn n m k)).2]):=by
 rw[ZrE n m k t ht]
 have hlt:=Zd ht
 have hl:n.trans.length≤24:=by unfold Zj ZaC at hg;simp only[Bool.and_eq_true,decide_eq_true_eq] at hg;omega
 have hl1:=hf.pre
 have hl2:=hf.post
 unfold ZaV at hl1 hl2
 have hp:=Zjq hg ht
 have hm:=ZlQ hg
 have hi:Zx (.lst (n.trans.map eTr)) (.int .i64 (k:Int))=some (eTr t):=Zs ht
 have g0:=ZbW (k:Int) 0 ((n.trans.length:Int) - 1)
 have gi:inR (k:Int) 0 ((n.trans.length:Int) - 1)=true:=ZcG.2 ⟨by omega,by omega⟩
 rw[gi] at g0
 have gw:IntKind.i64.wrap ((n.trans.length:Int) - 1)=(n.trans.length:Int) - 1:=Za9 (by omega) (by omega)
 have g1:=Zgj t m hp.1 hf
 simp only[eTr] at g1
 show (fun x0 x1 x2=>ZhE [x0,x1,x2]) _ _ _=_
 rw[ZrS]
 simp only[eNt,gw,g0,hi,eTr,g1,List.drop_zero,EVS]
 cases hE:enB m t
 ·simp only[EVS];rfl
 simp only[ZqN m (by omega),hi,eTr,List.drop_zero,EVS]
 refine (congrArg (fun m:Option PV=>m.bind fun r=>if r.sc=true then some r else none) (ZT (R:=PV) t.pre (fun (b:List UInt8) k=>[.lst (b.map pU),pI (Int.ofNat k)]) (fun _ b=>b.length=m.length) (fun (b:List UInt8) _ p=>.inl (b.set p.toNat 48)) (fun b=>some (.tup [.str (ZhW (ZdK t.post b)).1,pB (ZhW (ZdK t.post b)).2])) _ hl1 (fun b k p b' hb hx he=> ?_) (fun again b k p hb hx=> ?_) (fun again b hb=> ?_) (b:=m) rfl)).trans ?_
 ·cases he;simpa using hb
 ·have hk:=Zd hx
  have hi':Zx (.lst (t.pre.map pI)) (.int .i64 (k:Int))=some (pI p):=Zs hx
  obtain ⟨h1,h2⟩:=hp.1 p (List.mem_of_getElem? hx)
  obtain ⟨j,rfl⟩:∃j:Nat,p=j:=⟨p.toNat,by omega⟩
  have hj:j<b.length:=by omega
  have hpl:ZR (b.map pU) (.int .i64 (j:Int))=some (.int .i64 (j:Int)):=Zah (by rw[List.length_map];exact hj)
  simp only[ZZ hk,Zq hk hl1,hi',hpl,Zf3 hj,Zif,Zs6,EVS]
 ·have hi2:Zx (.lst (n.trans.map eTr)) (.int .i64 (k:Int))=some (eTr t):=hi
  simp only[Zae,hi2,eTr,List.drop_succ_cons,List.drop_zero,EVS]
  refine (ZT (R:=PV) t.post (fun (b:List UInt8) k=>[.lst (b.map pU),pI (Int.ofNat k)]) (fun _ b=>b.length=m.length) (fun (b:List UInt8) _ p=>if (b.getD p.toNat 0==49)=true then .inr (some (.tup [.str [],pB false])) else .inl (b.set p.toNat 49)) (fun b=>some (.tup [.str b,pB true])) _ hl2 (fun b k p b' hb hx he=> ?_) (fun again b k p hb hx=> ?_) (fun again b hb=> ?_) (b:=b) hb).trans (Zih _ _ _)
  ·split at he
   ·cases he
   ·cases he;simpa using hb
  ·have hk:=Zd hx
   have hi':Zx (.lst (t.post.map pI)) (.int .i64 (k:Int))=some (pI p):=Zs hx
   obtain ⟨h1,h2⟩:=hp.2 p (List.mem_of_getElem? hx)
   obtain ⟨j,rfl⟩:∃j:Nat,p=j:=⟨p.toNat,by omega⟩
   have hj:j<b.length:=by omega
   have hpl:ZR (b.map pU) (.int .i64 (j:Int))=some (.int .i64 (j:Int)):=Zah (by rw[List.length_map];exact hj)
   simp only[ZZ hk,Zq hk hl2,hi',hpl,Zf3 hj,Zif,ZmI,Zs5,EVS]
   cases c:(b.getD j 0==49)<;>simp only[hpl,Zf3 hj,Zif,ZmI,EVS]
   all_goals rfl
  ·simp only[Zae,ZdP,EVS]
 ·rw[ZgG]
  simp only[EVS,List.all_cons,List.all_nil]
  rfl
theorem ZqQ (a b:List UInt8):eqV none .str (.str a) (.str b)=some (decide (a=b)):=by
 show ZnL .str (.str a) (.str b)=_
 simp only[ZnL]
 refine congrArg some ?_
 rw[Bool.eq_iff_iff];simp
theorem keyS (a:List UInt8):((eqV none TD.str (.str a) (.str a)).elim false fun x=>true)=true:=by rw[ZqQ];rfl
def ZmJ (g:Nat→PV):Nat→List (List UInt8)→List (PV×PV)
 |_,[]=>[]
 |k,x::r=>(.str x,g k)::ZmJ g (k+1) r
theorem ZlR (g:Nat→PV) (a:List UInt8):∀(l:List (List UInt8)) (k:Nat),ZmJ g k (l++[a])=ZmJ g k l++[(.str a,g (k+l.length))]
 |[],k=>by simp[ZmJ]
 | x::r,k=>by
  simp only[List.cons_append,ZmJ,ZlR g a r (k+1),List.length_cons]
  rw[show k+1+r.length=k+(r.length+1) by omega]
theorem findF (g:Nat→PV) (s:List UInt8):∀(l:List (List UInt8)) (k i:Nat),Zc2 none .str (ZmJ g k l) (.str s) i=some (if s∈l then some (i+l.idxOf s,g (k+l.idxOf s)) else none)
 |[],k,i=>rfl
 | x::r,k,i=>by
  unfold ZmJ Zc2
  rw[ZqQ]
  by_cases c:x=s
  ·subst c
   simp
  ·have h:(x::r).idxOf s=r.idxOf s+1:=by rw[List.idxOf_cons,beq_eq_false_iff_ne.2 c];rfl
   have hm:s∈x::r↔s∈r:=by rw[List.mem_cons];exact ⟨fun h=>h.resolve_left (fun e=>c e.symm),.inr⟩
   simp only[obs,show ¬s=x from fun e=>c e.symm,decide_false,Bool.false_eq_true,if_false,findF g s r (k+1) (i+1),hm,h]
   by_cases c2:s∈r
   ·rw[if_pos c2,if_pos c2,show i+1+r.idxOf s=i+(r.idxOf s+1) by omega,show k+1+r.idxOf s=k+(r.idxOf s+1) by omega]
   ·rw[if_neg c2,if_neg c2]
structure Mt (n:Net) (m:List UInt8) (k:Nat) (out0 out:List (List UInt8)) (i:Nat):Prop where
 pre:∃s,out=out0++s
 good:∀x∈out,Zj n x=true
 len:out.length≤out0.length+i
theorem Mt.at {n:Net} {m:List UInt8} {k:Nat} {out0 out:List (List UInt8)} {i:Nat} (h:Mt n m k out0 out i) (h0:out0[k]?=some m):out[k]?=some m:=by
 obtain ⟨s,rfl⟩:=h.pre
 rw[List.getElem?_append_left (Zd h0),h0]
theorem Mt.step {n:Net} {m m':List UInt8} {k:Nat} {out0 out:List (List UInt8)} {i:Nat} (h:Mt n m k out0 out i) (hg:Zj n m'=true):Mt n m k out0 (if m'∈out then out else out++[m']) (i+1):=by
 obtain ⟨s,hs⟩:=h.pre
 split
 ·exact ⟨⟨s,hs⟩,h.good,by have:=h.len;omega⟩
 ·refine ⟨⟨s++[m'],by rw[hs];simp⟩,fun x hx=> ?_,by have:=h.len;simp;omega⟩
  rcases List.mem_append.1 hx with hx|hx
  ·exact h.good x hx
  ·rw[List.mem_singleton] at hx;subst hx;exact hg
theorem Zf4 {l:List (List UInt8)} {k:Nat} {m:List UInt8} (h:l[k]?=some m):(l.map PV.str)[k]?=some (.str m):=by rw[List.getElem?_map,h];rfl
theorem Zew {l:List (List UInt8)} {k:Nat} {m:List UInt8} (h:l[k]?=some m):ZR (l.map PV.str) (.int .i64 (k:Int))=some (.int .i64 (k:Int)):=Zah (by rw[List.length_map];exact Zd h)
theorem ZhA {l:List Int} {k:Nat} {m:Int} (h:l[k]?=some m):ZR (l.map pI) (.int .i64 (k:Int))=some (.int .i64 (k:Int)):=Zah (by rw[List.length_map];exact Zd h)
theorem Zjm {l:List Int} {k:Nat} {m:Int} (h:l[k]?=some m):(l.map pI)[k]?=some (pI m):=by rw[List.getElem?_map,h];rfl
theorem Zbk (a b c d e:PV):Zb true 0 2 [a,b,c,d,e]=some (.agg [a,b]):=(Eq.refl _).trans (Eq.refl _)
def eLb (x:Lab):PV:=.agg [pI x.sig,pB x.up]
def sgP (x:Sig):List UInt8×Int:=(x.name,x.kind)
def ZV (s:STG):PV:=.agg [pI s.net.places,.lst (s.net.trans.map eTr),.lst ((s.signals.map sgP).map Zam),.lst (s.labels.map eLb),.str s.start]
structure StgFit (s:STG):Prop where
 net:NtFit s.net
 sigs:ZaV (s.signals.map sgP)
 each:∀x∈s.signals.map sgP,ZaV x.1
 labs:ZaV s.labels
 start:ZaV s.start
def Zii (n:Int) (x:Lab):Bool:=inB x.sig 0 (n - 1)||(decide (x.sig= -1)&& !x.up)
def ZgH (s:STG):Bool:=(Zj s.net s.start&&(Zgi (s.signals.map sgP)&&decide (s.labels.length=s.net.trans.length)))&&s.labels.all (Zii s.signals.length)
theorem Zn9 (x:Lab) (n:Nat) (hn:n≤9223372036854775807):Zd1 [eLb x,pI n]=some (pB (Zii n x)):=by
 have g:=Zdv x.sig 0 ((n:Int) - 1)
 have gi:inB x.sig 0 ((n:Int) - 1)=(decide ((0:Int)≤x.sig)&&decide (x.sig≤(n:Int) - 1)):=rfl
 rw[←gi] at g
 have hw:IntKind.i64.wrap ((n:Int) - 1)=(n:Int) - 1:=Za9 (by omega) (by omega)
 show (fun x0 x1=>Zd1 [x0,x1]) _ _=_
 rw[Zm6]
 unfold Zii
 simp only[eLb,hw,g,EVS]
 cases inB x.sig 0 ((n:Int) - 1)<;>simp only[EVS]
 rw[show Int.negSucc 0=(-1:Int) from rfl]
 cases decide (x.sig= -1)<;>simp only[EVS]
theorem Zpz (s:STG) (hs:StgFit s):Ze3 [ZV s]=some (pB (ZgH s)):=by
 have hl:=hs.labs
 unfold ZaV at hl
 have hsl:s.signals.length≤9223372036854775807:=by have:=hs.sigs;unfold ZaV at this;simpa using this
 have g1:=Zpw s.net hs.net
 have g2:=Zk6 (s.signals.map sgP) hs.sigs hs.each
 have g3:=Zpx s.net s.start hs.start
 simp only[eNt] at g1 g3
 show (fun x0=>Ze3 [x0]) _=_
 rw[Zox]
 simp only[ZV,EVS]
 refine (congrArg (fun m:Option PV=>m.bind fun r=>if r.sc=true then some r else none) (Zab (R:=PV) s.labels (fun _ x=>Zii s.signals.length x) (some (pB false)) (some (pB (Zj s.net s.start&&(Zgi (s.signals.map sgP)&&decide (s.labels.length=s.net.trans.length))))) _ hl (fun again k x hx=> ?_) (fun again=> ?_))).trans ?_
 ·have hk:=Zd hx
  have hi:Zx (.lst (s.labels.map eLb)) (.int .i64 (k:Int))=some (eLb x):=Zs hx
  have g:=Zn9 x s.signals.length hsl
  simp only[eLb] at g
  simp only[ZZ hk,Zq hk hl,hi,eLb,g,EVS]
  cases Zii s.signals.length x<;>simp only[EVS]
 ·have hd:decide ((s.labels.length:Int)=(s.net.trans.length:Int))=decide (s.labels.length=s.net.trans.length):=by rw[Bool.eq_iff_iff];simp only[decide_eq_true_eq];omega
  unfold Zj
  simp only[Zae,hd,EVS]
  cases c1:ZaC s.net<;>cases c2:Zgi (s.signals.map sgP)<;>cases c3:decide (s.labels.length=s.net.trans.length)<;>simp only[c1,c2,c3,hd,Zbk,g1,g2,g3,EVS]
 ·rw[ZcO]
  unfold ZgH
  cases s.labels.all (Zii s.signals.length)<;>simp only[EVS]<;>rfl
theorem ZpA (x:Lab) (n:Nat) (hn:n≤9223372036854775807):Ze7 [eLb x,pI n]=some (pB (Zii n x)):=by
 have g:=ZbW x.sig 0 ((n:Int) - 1)
 have gi:inB x.sig 0 ((n:Int) - 1)=inR x.sig 0 ((n:Int) - 1):=rfl
 rw[←gi] at g
 have hw:IntKind.i64.wrap ((n:Int) - 1)=(n:Int) - 1:=Za9 (by omega) (by omega)
 have he:eqV (some [(0,TD.int IntKind.i64),(1,TD.bool)]) TD.struct (.agg [pI x.sig,pB x.up]) (.agg [pI (-1),pB false])=some (decide (x.sig= -1)&& !x.up):=by
  rw[eqPin];cases x.up<;>rfl
 show (fun x0 x1=>Ze7 [x0,x1]) _ _=_
 rw[ZoI]
 unfold Zii
 simp only[eLb,hw,g,EVS]
 cases inB x.sig 0 ((n:Int) - 1)<;>simp only[EVS]
 rw[show Int.negSucc 0=(-1:Int) from rfl]
 simp only[he,EVS]
theorem Zij (x:Lab) (s:STG) (hs:StgFit s):Zbx [eLb x,ZV s]=some (pB (!Zii s.signals.length x)):=by
 have hsl:s.signals.length≤9223372036854775807:=by have:=hs.sigs;unfold ZaV at this;simpa using this
 have g:=ZpA x s.signals.length hsl
 simp only[eLb] at g
 show (fun x0 x1=>Zbx [x0,x1]) _ _=_
 rw[ZhU]
 simp only[eLb,ZV,List.drop_succ_cons,List.drop_zero,List.length_map,g,EVS]
theorem ZaX (s:STG) (hs:StgFit s):Zu [.lst (s.labels.map eLb),.tup [ZV s]]=some (pI (ixf (fun x=> !Zii s.signals.length x) 0 s.labels)):=by
 show (fun x0 x1=>Zu [x0,x1]) _ _=_
 rw[ZaK]
 have hl:=hs.labs
 unfold ZaV at hl
 simp only[EVS]
 refine (congrArg (fun m:Option PV=>m.bind fun r=>if r.sc=true then some r else none) (Zhz s.labels (fun x=> !Zii s.signals.length x) _ hl (fun again k a hb=> ?_) (fun again=> ?_))).trans ?_
 ·have hk:=Zd hb
  have hi:Zx (.lst (s.labels.map eLb)) (.int .i64 (k:Int))=some (eLb a):=Zs hb
  have g:=Zij a s hs
  simp only[eLb,ZV] at g
  simp only[ZZ hk,Zq hk hl,hi,eLb,ZV,ZqJ,List.cons_append,List.nil_append,g,EVS]
 ·simp only[Zae,EVS]
  rfl
 ·simp only[EVS]
theorem Zaw (s:STG) (hs:StgFit s):Zr [.lst (s.labels.map eLb),.tup [ZV s]]=some (pB (!s.labels.all (Zii s.signals.length))):=by
 show (fun x0 x1=>Zr [x0,x1]) _ _=_
 rw[Zau]
 simp only[ZaX s hs,Zkj (fun x=> !Zii s.signals.length x) s.labels 0,Bool.not_not,ZcO,EVS]
theorem Zkn (s:STG) (hs:StgFit s):Zcf [ZV s]=some (pB (ZgH s)):=by
 have g1:=ZgF s.net s.start hs.net hs.start
 have g2:=Zkk (s.signals.map sgP) hs.sigs hs.each
 rw[←ZtJ] at g2
 have g3:=Zaw s hs
 have hd:decide ((s.labels.length:Int)=(s.net.trans.length:Int))=decide (s.labels.length=s.net.trans.length):=by rw[Bool.eq_iff_iff];simp only[decide_eq_true_eq];omega
 simp only[eNt,ZV] at g1 g3
 show (fun x0=>Zcf [x0]) _=_
 rw[Zjb]
 unfold ZgH
 simp only[ZV,List.drop_zero,EVS]
 cases c1:Zj s.net s.start<;>cases c2:Zgi (s.signals.map sgP)<;>cases c3:decide (s.labels.length=s.net.trans.length)<;>simp only[c1,c2,c3,hd,Zbk,g1,g2,g3,List.drop_zero,Bool.not_not,EVS]
def eMv (v:Mv):PV:=.agg [pI v.from_,pI v.by_,pI v.to]
theorem Zik {m:List UInt8} {l:List (List UInt8)} (h:m∈l):Zbd m l=(l.idxOf m:Nat):=by
 unfold Zbd idxB
 suffices h2:∀(l:List (List UInt8)) (k:Nat),m∈l→Zfe (fun x=>x==m) k l=((k+l.idxOf m:Nat):Int) by simpa using h2 l 0 h
 intro l
 induction l with
 |nil=>intro k h;cases h
 | cons x r ih=>
  intro k h
  unfold Zfe
  by_cases c:x=m
  ·subst c;simp
  ·rw[if_neg (by simpa using c),ih (k+1) (by rcases List.mem_cons.1 h with h|h;exact absurd h.symm c;exact h),List.idxOf_cons,beq_eq_false_iff_ne.2 c]
   simp only[cond_false];omega
def Zdw (n:Net) (m:List UInt8) (k:Nat) (z1:Int→ESt→Option PV) (z2:ESt→Option PV) (s:ESt) (_:Nat) (t:Int):Sum ESt (Option PV):=match Zbn n m t with
 |none=>.inr (z1 t s)
 |some m'=>if m'∈s.marks then .inl (Zc6 k t (Zbd m' s.marks) s) else if s.marks.length=300 then .inr (z2 s) else .inl (Z2 k t m' s)
section
variable {n :Net} {m m':List UInt8} {k i:Nat} {z1:Int→ESt→Option PV} {z2:ESt→Option PV} {s:ESt} {t:Int}
theorem ZcP (h:Zbn n m t=none):Zdw n m k z1 z2 s i t=.inr (z1 t s):=by unfold Zdw;rw[h]
theorem Zdx (h:Zbn n m t=some m') (h2:m'∈s.marks):Zdw n m k z1 z2 s i t=.inl (Zc6 k t (Zbd m' s.marks) s):=by unfold Zdw;rw[h];exact if_pos h2
theorem ZcQ (h:Zbn n m t=some m') (h2:m'∉s.marks) (h3:s.marks.length=300):Zdw n m k z1 z2 s i t=.inr (z2 s):=by unfold Zdw;rw[h];exact (if_neg h2).trans (if_pos h3)
theorem Zdy (h:Zbn n m t=some m') (h2:m'∉s.marks) (h3:¬s.marks.length=300):Zdw n m k z1 z2 s i t=.inl (Z2 k t m' s):=by unfold Zdw;rw[h];exact (if_neg h2).trans (if_neg h3)
end
def ZmK (e:ESt→Option PV) (z1:Int→ESt→Option PV) (z2:ESt→Option PV):EOut→Option PV
 |.ok s=>e s
 |.bad t s=>z1 t s
 |.full s=>z2 s
theorem Zjn (n:Net) (m:List UInt8) (k:Nat) (e:ESt→Option PV) (z1:Int→ESt→Option PV) (z2:ESt→Option PV):∀(l:List Int) (i:Nat) (s:ESt),ZO (R:=PV) (Zdw n m k z1 z2) e i s l=ZmK e z1 z2 (Zbz n m k l s)
 |[],i,s=>rfl
 | t ::r,i,s=>by
  unfold ZO Zbz
  cases h:Zbn n m t with
  |none=>rw[ZcP h];rfl
  | some m'=>
   by_cases h2:m'∈s.marks
   ·rw[Zdx h h2]
    show ZO _ _ _ _ _=ZmK e z1 z2 (if m'∈s.marks then _ else _)
    rw[if_pos h2]
    exact Zjn n m k e z1 z2 r (i+1) _
   ·by_cases h3:s.marks.length=300
    ·rw[ZcQ h h2 h3]
     show _=ZmK e z1 z2 (if m'∈s.marks then _ else _)
     rw[if_neg h2,if_pos h3];rfl
    ·rw[Zdy h h2 h3]
     show ZO _ _ _ _ _=ZmK e z1 z2 (if m'∈s.marks then _ else _)
     rw[if_neg h2,if_neg h3]
     exact Zjn n m k e z1 z2 r (i+1) _
structure Ms (n:Net) (s0 s:ESt) (i:Nat):Prop where
 pre:∃a,s.marks=s0.marks++a
 good:∀x∈s.marks,Zj n x=true
 len:s.marks.length≤300
 mv:s.moves.length≤s0.moves.length+i
 by_:s.by_.length≤s.marks.length
theorem Ms.at {n:Net} {s0 s:ESt} {i k:Nat} {m:List UInt8} (h:Ms n s0 s i) (h0:s0.marks[k]?=some m):s.marks[k]?=some m:=by
 obtain ⟨a,ha⟩:=h.pre
 rw[ha,List.getElem?_append_left (Zd h0),h0]
theorem Ms.old {n:Net} {s0 s:ESt} {i k:Nat} {t j:Int} (h:Ms n s0 s i):Ms n s0 (Zc6 k t j s) (i+1):=⟨h.pre,h.good,h.len,by have:=h.mv;unfold Zc6;simp;omega,h.by_⟩
theorem Ms.new {n:Net} {s0 s:ESt} {i k:Nat} {t:Int} {m':List UInt8} (h:Ms n s0 s i) (hg:Zj n m'=true) (h3:¬s.marks.length=300):Ms n s0 (Z2 k t m' s) (i+1):=by
 obtain ⟨a,ha⟩:=h.pre
 have:=h.len
 have:=h.mv
 have:=h.by_
 refine ⟨⟨a++[m'],by unfold Z2;simp[ha]⟩,fun x hx=> ?_,by unfold Z2;simp;omega,by unfold Z2;simp;omega,by unfold Z2;simp;omega⟩
 rcases List.mem_append.1 hx with hx|hx
 ·exact h.good x hx
 ·rw[List.mem_singleton] at hx;subst hx;exact hg
theorem ZeP {n:Net} {m:List UInt8} {k:Nat} {s0:ESt} (hm:Zj n m=true):∀(l:List Int) (s:ESt) (i:Nat) (s':ESt),(∀t∈l,t∈enL n m)→Ms n s0 s i→Zbz n m k l s=.ok s'→Ms n s0 s' (i+l.length)
 |[],s,i,s',_,h,he=>by cases he;exact h
 | t ::r,s,i,s',hl,h,he=>by
  unfold Zbz at he
  obtain ⟨j,x,e,hx,he',hf⟩:=Zd7 (hl t (List.mem_cons_self ..))
  have hr:∀t∈r,t∈enL n m:=fun t ht=>hl t (List.mem_cons_of_mem _ ht)
  rw[show i+(t::r).length=i+1+r.length by simp;omega]
  cases hF:Zbn n m t with
  |none=>rw[hF] at he;cases he
  | some m'=>
   rw[hF] at he hf
   have he2:(if m'∈s.marks then Zbz n m k r (Zc6 k t (Zbd m' s.marks) s) else if s.marks.length=300 then .full s else Zbz n m k r (Z2 k t m' s))=.ok s':=he
   by_cases h2:m'∈s.marks
   ·rw[if_pos h2] at he2
    exact ZeP hm r _ (i+1) s' hr h.old he2
   ·rw[if_neg h2] at he2
    by_cases h3:s.marks.length=300
    ·rw[if_pos h3] at he2;cases he2
    ·rw[if_neg h3] at he2
     exact ZeP hm r _ (i+1) s' hr (h.new (Zg6 hm hf.symm) h3) he2
structure VA where
 f:Nat
 t:Nat
 e:Option Bool
abbrev Zy :=List (Option Bool)
def vAt (v:Zy) (k:Nat):Option Bool:=v.getD k none
def ZX (own:Bool) (v:Zy) (a:VA):Option Zy:=match a.e with
 | none=>match vAt v a.f,vAt v a.t with
  |some x,some y=>if x=y then some v else none
  |some x,none=>some (v.set a.t (some x))
  |none,some y=>some (v.set a.f (some y))
  |none,none=>some v
 |some up=>if (vAt v a.f=none∨vAt v a.f=some (!up))∧(vAt v a.t=none∨vAt v a.t=some up)∧(own=true→a.f≠a.t) then some ((v.set a.f (some (!up))).set a.t (some up)) else none
def ZU (own:Bool):List VA→Zy→Option Zy
 |[],v=>some v
 |a::r,v=>(ZX own v a).bind (ZU own r)
def Zex (v:Zy):Nat:=v.countP (fun x=>x.isNone)
theorem Zjo {v:Zy} {k:Nat} {x:Bool} (h:k<v.length):Zex (v.set k (some x))+(if vAt v k=none then 1 else 0)=Zex v:=by
 unfold Zex vAt
 induction v generalizing k with
 |nil=>simp at h
 | cons y r ih=>
  cases k with
  | zero=>
   cases y<;>simp[List.countP_cons]
  | succ k=>
   have:=ih (k:=k) (by simpa using h)
   simp only[List.set_cons_succ,List.countP_cons,List.getD_cons_succ]
   omega
theorem ZbX {v:Zy} {k j:Nat} {x:Option Bool} (h:k<v.length):vAt (v.set k x) j=if j=k then x else vAt v j:=by
 unfold vAt
 rw[List.getD_eq_getElem?_getD,List.getElem?_set,List.getD_eq_getElem?_getD]
 by_cases c:k=j
 ·subst c;simp[h]
 ·have c':¬j=k:=fun e=>c e.symm
  simp[c,c']
theorem ZcY {v:Zy} {k:Nat} {x:Bool} (h:vAt v k=some x):v.set k (some x)=v:=by
 unfold vAt at h
 rw[List.getD_eq_getElem?_getD] at h
 apply List.ext_getElem?
 intro i
 rw[List.getElem?_set]
 split
 ·rename_i e
  subst e
  cases hk:v[k]? with
  |none=>rw[hk] at h;cases h
  | some y=>
   rw[hk] at h
   have hl:=Zd hk
   rw[if_pos hl]
   simp only[Option.getD_some] at h
   rw[h]
 ·rfl
theorem ZlS {own:Bool} {v v':Zy} {a:VA} (hf:a.f<v.length) (ht:a.t<v.length) (hn:a.e=none∨a.f≠a.t) (h:ZX own v a=some v'):v'.length=v.length∧(v'=v∨Zex v'<Zex v):=by
 unfold ZX at h
 cases he:a.e with
 | none=>
  rw[he] at h
  dsimp only at h
  cases h1:vAt v a.f with
  | none=>
   cases h2:vAt v a.t with
   |none=>rw[h1,h2] at h;cases h;exact ⟨rfl,.inl rfl⟩
   | some y=>
    rw[h1,h2] at h;cases h
    have:=Zjo (x:=y) hf
    rw[h1,if_pos rfl] at this
    exact ⟨by simp,.inr (by omega)⟩
  | some x=>
   cases h2:vAt v a.t with
   | none=>
    rw[h1,h2] at h;cases h
    have:=Zjo (x:=x) ht
    rw[h2,if_pos rfl] at this
    exact ⟨by simp,.inr (by omega)⟩
   | some y=>
    rw[h1,h2] at h
    dsimp only at h
    split at h
    ·cases h;exact ⟨rfl,.inl rfl⟩
    ·cases h
 | some up=>
  rw[he] at h
  dsimp only at h
  split at h
  ·rename_i hc
   cases h
   have hne:a.f≠a.t:=hn.resolve_left (by rw[he];simp)
   refine ⟨by simp, ?_⟩
   have c1:=Zjo (v:=v) (x:= !up) hf
   have c2:=Zjo (v:=v.set a.f (some (!up))) (k:=a.t) (x:=up) (by simpa using ht)
   have e1:vAt (v.set a.f (some (!up))) a.t=vAt v a.t:=by rw[ZbX hf,if_neg (fun e=>hne e.symm)]
   rw[e1] at c2
   rcases hc.1 with h1|h1
   ·rw[if_pos h1] at c1
    exact .inr (by omega)
   ·rw[ZcY h1] at c2⊢
    rcases hc.2.1 with h2|h2
    ·rw[if_pos h2] at c2
     exact .inr (by omega)
    ·exact .inl (ZcY h2)
  ·cases h
def VOk (n:Nat) (l:List VA):Prop:=∀a∈l,a.f<n∧a.t<n
def VNo (l:List VA):Prop:=∀a∈l,a.e=none∨a.f≠a.t
theorem Zdl {own:Bool}:∀{l:List VA} {v v':Zy},VOk v.length l→VNo l→ZU own l v=some v'→v'.length=v.length∧(v'=v∨Zex v'<Zex v)
 |[],v,v',_,_,h=>by cases h;exact ⟨rfl,.inl rfl⟩
 | a::r,v,v',ho,hn,h=>by
  unfold ZU at h
  obtain ⟨u,h1,h2⟩:=Option.bind_eq_some_iff.1 h
  have ha:=ho a (List.mem_cons_self ..)
  obtain ⟨e1,e2⟩:=ZlS ha.1 ha.2 (hn a (List.mem_cons_self ..)) h1
  obtain ⟨e3,e4⟩:=Zdl (l:=r) (fun b hb=>by rw[e1];exact ho b (List.mem_cons_of_mem _ hb)) (fun b hb=>hn b (List.mem_cons_of_mem _ hb)) h2
  refine ⟨e3.trans e1, ?_⟩
  rcases e2 with rfl|e2<;>rcases e4 with rfl|e4
  ·exact .inl rfl
  ·exact .inr e4
  ·exact .inr e2
  ·exact .inr (by omega)
def ZcR (own:Bool):List VA→Zy→Bool
 |[],_=>false
 | a::r,v=>match ZX own v a with
  |none=>false
  |some u=>decide (u≠v)||ZcR own r u
theorem Zfx {own:Bool}:∀{l:List VA} {v v':Zy},VOk v.length l→VNo l→ZU own l v=some v'→ZcR own l v=decide (Zex v'<Zex v)
 |[],v,v',_,_,h=>by cases h;unfold ZcR;simp
 | a::r,v,v',ho,hn,h=>by
  unfold ZU at h
  obtain ⟨u,h1,h2⟩:=Option.bind_eq_some_iff.1 h
  have ha:=ho a (List.mem_cons_self ..)
  obtain ⟨e1,e2⟩:=ZlS ha.1 ha.2 (hn a (List.mem_cons_self ..)) h1
  have ho':VOk u.length r:=fun b hb=>by rw[e1];exact ho b (List.mem_cons_of_mem _ hb)
  have hn':VNo r:=fun b hb=>hn b (List.mem_cons_of_mem _ hb)
  obtain ⟨e3,e4⟩:=Zdl ho' hn' h2
  have ih:=Zfx ho' hn' h2
  have hc:Zex v'≤Zex u:=by rcases e4 with rfl|e4<;>omega
  show (match ZX own v a with|none=>false|some u=>decide (u≠v)||ZcR own r u)=_
  rw[h1]
  dsimp only
  rw[ih]
  rcases e2 with rfl|e2
  ·simp
  ·have:u≠v:=fun e=>by rw[e] at e2;omega
   simp[this];omega
def ZcS (l:List VA):Nat→Zy→Option Zy
 |0,v=>some v
 |f+1,v=>(ZU true l v).bind fun u=>if ZcR true l v=true then ZcS l f u else some u
def ZbI (own:Bool) (l:List VA):Nat→Zy→Option Zy
 |0,v=>some v
 |f+1,v=>(ZU own l v).bind (ZbI own l f)
theorem ZiS {own:Bool} {l:List VA} {v:Zy} (h:ZU own l v=some v):∀f,ZbI own l f v=some v
 |0=>rfl
 |f+1=>by unfold ZbI;rw[h];exact ZiS h f
theorem ZlT {l:List VA}:∀(f:Nat) (v:Zy),VOk v.length l→VNo l→Zex v≤f→ZcS l (f+1) v=ZbI true l (f+1) v
 | f,v,ho,hn,hc=>by
  unfold ZcS ZbI
  cases h:ZU true l v with
  |none=>rfl
  | some u=>
   obtain ⟨e3,e4⟩:=Zdl ho hn h
   show (if ZcR true l v=true then ZcS l f u else some u)=ZbI true l f u
   rw[Zfx ho hn h]
   rcases e4 with rfl|e4
   ·rw[if_neg (by simp),ZiS h f]
   ·rw[if_pos (by simpa using e4)]
    cases f with
    |zero=>omega
    |succ f=>exact ZlT f u (by rw[e3];exact ho) hn (by omega)
theorem ZrF {v:Zy} {a:VA} (h:a.e=none∨a.f≠a.t):ZX true v a=ZX false v a:=by
 unfold ZX
 cases he:a.e with
 |none=>rfl
 | some up=>
  have hne:a.f≠a.t:=h.resolve_left (by rw[he];simp)
  simp[hne]
theorem ZlU :∀{l:List VA} {v:Zy},VNo l→ZU true l v=ZU false l v
 |[],v,_=>rfl
 | a::r,v,h=>by
  unfold ZU
  rw[ZrF (h a (List.mem_cons_self ..))]
  cases ZX false v a with
  |none=>rfl
  |some u=>exact ZlU (fun b hb=>h b (List.mem_cons_of_mem _ hb))
theorem ZlV {l:List VA} (h:VNo l):∀(f:Nat) (v:Zy),ZbI true l f v=ZbI false l f v
 |0,v=>rfl
 | f+1,v=>by
  unfold ZbI
  rw[ZlU h]
  cases ZU false l v with
  |none=>rfl
  |some u=>exact ZlV h f u
theorem Zil :∀{l:List VA} {v:Zy} {a:VA},a∈l→a.e≠none→a.f=a.t→ZU true l v=none
 |[],v,a,h,_,_=>by cases h
 | b ::r,v,a,h,h1,h2=>by
  unfold ZU
  rcases List.mem_cons.1 h with rfl|h
  ·have:ZX true v a=none:=by
    unfold ZX
    cases he:a.e with
    |none=>exact absurd he h1
    |some up=>simp[h2]
   rw[this];rfl
  ·cases ZX true v b with
   |none=>rfl
   |some u=>exact Zil h h1 h2
theorem ZiT {v u:Zy} {a:VA} {k:Nat} {own:Bool} (hf:a.f<v.length) (ht:a.t<v.length) (h:ZX own v a=some u) (hk:vAt v k≠none):u.length=v.length∧vAt u k≠none:=by
 unfold ZX at h
 cases he:a.e with
 | none=>
  rw[he] at h
  dsimp only at h
  cases h1:vAt v a.f<;>cases h2:vAt v a.t<;>rw[h1,h2] at h<;>dsimp only at h
  ·cases h;exact ⟨rfl,hk⟩
  ·cases h
   refine ⟨by simp, ?_⟩
   rw[ZbX hf];split
   ·simp
   ·exact hk
  ·cases h
   refine ⟨by simp, ?_⟩
   rw[ZbX ht];split
   ·simp
   ·exact hk
  ·split at h
   ·cases h;exact ⟨rfl,hk⟩
   ·cases h
 | some up=>
  rw[he] at h
  dsimp only at h
  split at h
  ·cases h
   refine ⟨by simp, ?_⟩
   rw[ZbX (by simpa using ht),ZbX hf]
   split
   ·simp
   ·split
    ·simp
    ·exact hk
  ·cases h
theorem ZiU {own:Bool}:∀{l:List VA} {v u:Zy} {k:Nat},VOk v.length l→ZU own l v=some u→(vAt v k≠none∨∃a∈l,a.e≠none∧a.f=k)→u.length=v.length∧vAt u k≠none
 | [],v,u,k,_,h,hk=>by
  cases h
  rcases hk with hk|⟨a,ha,_⟩
  ·exact ⟨rfl,hk⟩
  ·cases ha
 | b :: r,v,u,k,ho,h,hk=>by
  unfold ZU at h
  obtain ⟨x,h1,h2⟩:=Option.bind_eq_some_iff.1 h
  have hb:=ho b (List.mem_cons_self ..)
  have hx:x.length=v.length:=by
   unfold ZX at h1
   cases he:b.e with
   | none=>
    rw[he] at h1
    dsimp only at h1
    cases c1:vAt v b.f<;>cases c2:vAt v b.t<;>rw[c1,c2] at h1<;>dsimp only at h1
    ·cases h1;rfl
    ·cases h1;simp
    ·cases h1;simp
    ·split at h1
     ·cases h1;rfl
     ·cases h1
   | some up=>
    rw[he] at h1
    dsimp only at h1
    split at h1
    ·cases h1;simp
    ·cases h1
  have ho':VOk x.length r:=fun b hb=>by rw[hx];exact ho b (List.mem_cons_of_mem _ hb)
  have hk':vAt x k≠none∨∃a∈r,a.e≠none∧a.f=k:=by
   rcases hk with hk|⟨a,ha,he,hf⟩
   ·exact .inl (ZiT hb.1 hb.2 h1 hk).2
   ·rcases List.mem_cons.1 ha with rfl|ha
    ·refine .inl ?_
     unfold ZX at h1
     cases hea:a.e with
     |none=>exact absurd hea he
     | some up=>
      rw[hea] at h1
      dsimp only at h1
      split at h1
      ·cases h1
       rw[ZbX (by simpa using hb.2),ZbX hb.1,hf]
       split<;>simp
      ·cases h1
    ·exact .inr ⟨a,ha,he,hf⟩
  have:=ZiU ho' h2 hk'
  exact ⟨this.1.trans hx,this.2⟩
theorem ZiV :∀{l:List VA} {v:Zy} {a:VA},VOk v.length l→a∈l→a.e≠none→a.f=a.t→vAt v a.f≠none→ZU false l v=none
 |[],v,a,_,h,_,_,_=>by cases h
 | b ::r,v,a,ho,h,h1,h2,h3=>by
  unfold ZU
  rcases List.mem_cons.1 h with rfl|h
  ·have:ZX false v a=none:=by
    unfold ZX
    cases he:a.e with
    |none=>exact absurd he h1
    | some up=>
     dsimp only
     rw[if_neg]
     rintro ⟨c1,c2,_⟩
     have c1:=c1.resolve_left h3
     rw[←h2] at c2
     have c2:=c2.resolve_left h3
     rw[c1] at c2
     cases up<;>cases c2
   rw[this];rfl
  ·cases hb:ZX false v b with
   |none=>rfl
   | some u=>
    have hh:=ho b (List.mem_cons_self ..)
    obtain ⟨e1,e2⟩:=ZiT hh.1 hh.2 hb h3
    exact ZiV (fun c hc=>by rw[e1];exact ho c (List.mem_cons_of_mem _ hc)) h h1 h2 e2
theorem ZtL {l:List VA} {v:Zy} (ho:VOk v.length l) (hn:0<v.length):ZcS l (v.length+1) v=ZbI false l (v.length+1) v:=by
 by_cases c:VNo l
 ·rw[←ZlV c]
  exact ZlT v.length v ho c (by unfold Zex;exact List.countP_le_length)
 ·have hb:∃a,a∈l∧a.e≠none∧a.f=a.t:=by
   apply Classical.byContradiction
   intro hh
   refine c fun a ha=> ?_
   apply Classical.byContradiction
   intro h2
   exact hh ⟨a,ha,fun e=>h2 (.inl e),Classical.byContradiction fun e=>h2 (.inr e)⟩
  obtain ⟨a,ha,h1,h2⟩:=hb
  have e1:ZcS l (v.length+1) v=none:=by unfold ZcS;rw[Zil ha h1 h2];rfl
  rw[e1]
  obtain ⟨m,hm⟩:∃m,v.length=m+1:=⟨v.length - 1,by omega⟩
  rw[hm]
  unfold ZbI
  cases hp:ZU false l v with
  |none=>rfl
  | some u=>
   obtain ⟨e3,e4⟩:=ZiU (k:=a.f) ho hp (.inr ⟨a,ha,h1,rfl⟩)
   show none=ZbI false l (m+1) u
   unfold ZbI
   rw[ZiV (fun c hc=>by rw[e3];exact ho c hc) ha h1 h2 e4]
   rfl
theorem mapLm (l:List (PV×PV)):Zpb (.map l)=some l:=rfl
theorem zpInt :Zad (TI.mk 1 8 (TD.int .i64) [ZC.int .i64] [] false)=.int .i64 0:=rfl
theorem ZgI (a b c d e:PV):Zb true 0 2 [a,b,c,d,e]=some (.agg [a,b]):=(Eq.refl _).trans (Eq.refl _)
theorem grp2 (a b c d:PV):Zhy [a,b] 0 (.agg [c,d])=some (.agg [c,d]):=rfl
theorem spl3 (a b c x y z:PV):splice (splice (splice [a,b,c] 0 [x]) 1 [y]) 2 [z]=[x,y,z]:=rfl
def rgV (s:ESt):PV:=.agg [.lst (s.marks.map PV.str),.lst (s.moves.map eMv)]
def ixM (s:ESt):PV:=.map (ZmJ (fun i=>pI i) 0 s.marks)
theorem ZtN (s:ESt) (m:List UInt8) (k:Nat) (t:Int):PV.map (ZmJ (fun i=>pI i) 0 s.marks++[(.str m,pI s.marks.length)])=ixM (Z2 k t m s):=by
 unfold ixM Z2
 rw[ZlR,Nat.zero_add]
def exV (r:ERes):PV:=.tup [rgV r.st,pI (if r.code=1 then (r.k:Int) else -1),pI (if r.code=1 then r.t else -1),pB (r.code==0)]
theorem ZmL (s:STG) (hs:StgFit s) (hg:Zj s.net s.start=true):Zda [ZV s]=some (exV (ZaB s)):=by
 have hn:=hs.net
 show (fun x0=>Zda [x0]) _=_
 rw[Zle]
 simp only[ZV,keyS,grp2,EVS]
 refine (Zdo (R:=PV) (fun q:{q:ESt×Nat // (∀x∈q.1.marks,Zj s.net x=true)∧q.1.marks.length≤300∧q.2≤q.1.marks.length∧q.1.moves.length≤24 * q.2∧q.1.by_.length≤q.1.marks.length}=>[rgV q.1.1,ixM q.1.1,pI (Int.ofNat q.1.2)]) (fun q=>301 - q.1.2) (fun q=>some (exV (Za1 s.net (301 - q.1.2) q.1.2 q.1.1))) _ (fun again q ih=> ?_) _ ⟨(ZG s.start,0),by simpa[ZG] using hg,by simp[ZG],by simp,by simp[ZG],by simp[ZG]⟩ (by simp only;omega)).trans ?_
 ·obtain ⟨⟨e,k⟩,hgd,hlen,hk,hmv,hby⟩:=q
  dsimp only at ih hgd hlen hk hmv hby⊢
  by_cases c:k<e.marks.length
  ·obtain ⟨mk,hmk⟩:∃mk,e.marks[k]?=some mk:=⟨e.marks[k],List.getElem?_eq_getElem c⟩
   have hmg:=hgd mk (List.mem_of_getElem? hmk)
   have g1:=Zn8 s.net mk hmg hn
   simp only[eNt] at g1
   have hel:=Zg3 hmg
   simp only[rgV,ZZ c,Zew hmk,Zf4 hmk,ZgI,g1,EVS]
   rw[show 301 - k=(300 - k)+1 by omega,ZbZ hmk]
   refine (ZT (R:=PV) (enL s.net mk) (fun (o:ESt) i=>[ixM o,rgV o,pI (Int.ofNat i)]) (fun i o=>Ms s.net e o i) (Zdw s.net mk k (fun t o=>some (.tup [rgV o,pI k,pI t,pB false])) (fun o=>some (.tup [rgV o,pI (-1),pI (-1),pB false]))) (fun o=>again [rgV o,ixM o,pI (Int.ofNat (k+1))]) _ (by omega) (fun o i t o' hi hx he=> ?_) (fun again2 o i t hi hx=> ?_) (fun again2 o hi=> ?_) (b:=e) ⟨⟨[],by simp⟩,hgd,hlen,by omega,hby⟩).trans ?_
   ·obtain ⟨j,x,rfl,hx',he',hf⟩:=Zd7 (List.mem_of_getElem? hx)
    cases hF:Zbn s.net mk (j:Int) with
    |none=>rw[ZcP hF] at he;cases he
    | some m'=>
     by_cases h2:m'∈o.marks
     ·rw[Zdx hF h2] at he;cases he;exact hi.old
     ·by_cases h3:o.marks.length=300
      ·rw[ZcQ hF h2 h3] at he;cases he
      ·rw[Zdy hF h2 h3] at he;cases he;exact hi.new (Zg6 hmg (hf.symm.trans hF)) h3
   ·obtain ⟨j,x,rfl,hx',he',hf⟩:=Zd7 (List.mem_of_getElem? hx)
    have hki:=Zd hx
    have hoA:=hi.at hmk
    have g2:=Zs7 s.net mk j x hmg hx' (hn.each x (List.mem_of_getElem? hx'))
    simp only[eNt] at g2
    have hil:(enL s.net mk).length≤9223372036854775807:=by omega
    cases hF:Zbn s.net mk (j:Int) with
    | none=>
     rw[hF] at g2
     simp only[ZhW] at g2
     rw[ZcP hF]
     simp only[rgV,ZZ hki,ZhA hx,Zjm hx,Zew hoA,Zf4 hoA,ZgI,g2,EVS]
    | some m'=>
     rw[hF] at g2
     simp only[ZhW] at g2
     have g3:=findF (fun i=>pI i) m' o.marks 0 0
     have hmv2:=hi.mv
     have hl2:=hi.len
     have hla:∀v:Mv,o.moves.length+[eMv v].length≤4294967296∧[eMv v].all (Za4 3)=true:=fun v=>⟨by simp;omega,rfl⟩
     have hlb:o.marks.length+[PV.str m'].length≤4294967296∧[PV.str m'].all (Za4 1)=true:=⟨by simp;omega,rfl⟩
     simp only[eMv] at hla
     simp only[rgV,ixM,ZZ hki,ZhA hx,Zjm hx,Zew hoA,Zf4 hoA,ZgI,g2,mapLm,keyS,g3,EVS]
     by_cases h2:m'∈o.marks
     ·rw[Zdx hF h2]
      simp only[h2,Option.elim_some,spl3,if_pos (hla ⟨_,_,_⟩),Zq hki hil,EVS]
      simp only[Zc6,Zik h2,Nat.zero_add,List.map_append,List.map_cons,List.map_nil,eMv]
     ·by_cases h3:o.marks.length=300
      ·rw[ZcQ hF h2 h3]
       simp only[h2,h3,zpInt,Option.elim_none,EVS]
       rfl
      ·have h4:decide ((o.marks.length:Int)=300)=false:=by simp only[decide_eq_false_iff_not];omega
       have hN:=ZtN o m' k j
       unfold ixM at hN
       rw[Zdy hF h2 h3]
       simp only[h2,h4,zpInt,Option.elim_none,if_pos hlb,if_pos (hla ⟨_,_,_⟩),spl3,Zq hki hil,EVS]
       rw[hN]
       simp only[Z2,List.map_append,List.map_cons,List.map_nil,eMv]
   ·simp only[Zae,Zq c (show e.marks.length≤9223372036854775807 by omega),EVS]
   ·rw[Zjn]
    cases hE:Zbz s.net mk k (enL s.net mk) e with
    |bad t s'=>rfl
    |full s'=>rfl
    | ok s'=>
     have hms:=ZeP (s0:=e) hmg (enL s.net mk) e 0 s' (fun t ht=>ht) ⟨⟨[],by simp⟩,hgd,hlen,by omega,hby⟩ hE
     have hl2:=Zd (hms.at hmk)
     have hm2:=hms.mv
     have:=ih ⟨(s',k+1),hms.good,hms.len,by dsimp only;omega,by dsimp only;omega,hms.by_⟩ (by simp only;omega)
     rw[show 301 - (k+1)=300 - k by omega] at this
     exact this
  ·obtain rfl:k=e.marks.length:=by omega
   rw[Zl4 (by omega)]
   simp only[rgV,Zae,EVS]
   rfl
 ·rfl
theorem ZlW {α:Type} (q:α→Bool):∀(l:List α) (k:Nat),ixf q k l=Zfe q k l
 |[],k=>rfl
 |x::r,k=>by unfold ixf Zfe;rw[ZlW q r (k+1)]
theorem ZpB (l:List (List UInt8)) (m:List UInt8) (hl:ZaV l):Ze5 [.lst (l.map PV.str),.str m]=some (pI (Zbd m l)):=by
 unfold ZaV at hl
 show (fun x0 x1=>Ze5 [x0,x1]) _ _=_
 rw[ZoB]
 unfold Zbd idxB
 rw[←ZlW]
 simp only[EVS]
 refine (congrArg (fun m:Option PV=>m.bind fun r=>if r.sc=true then some r else none) (Zhz l (fun x=>x==m) _ hl (fun again k x hx=> ?_) (fun again=> ?_))).trans ?_
 ·have hk:=Zd hx
  have hi:Zx (.lst (l.map PV.str)) (.int .i64 (k:Int))=some (.str x):=Zs hx
  have hd:(x==m)=decide (x=m):=by rw[Bool.eq_iff_iff];simp
  simp only[ZZ hk,Zq hk hl,hi,hd,EVS]
 ·simp only[Zae,EVS]
  rfl
 ·simp only[EVS]
theorem spl1 (a b c d e f x y:PV):splice (splice [a,b,c,d,e,f] 3 [x]) 4 [y]=[a,b,c,x,y,f]:=rfl
theorem spl5 (a b c d e f x:PV):splice [a,b,c,d,e,f] 5 [x]=[a,b,c,d,e,x]:=rfl
theorem spl6 (a b c d e f a' b' c' d' e' f':PV):splice [a,b,c,d,e,f] 0 [a',b',c',d',e',f']=[a',b',c',d',e',f']:=rfl
theorem ZpC (a b c d e f:PV):Zb true 0 6 [a,b,c,d,e,f]=some (.agg [a,b,c,d,e,f]):=rfl
def stW (s:ESt) (a b:Int) (c:Bool):PV:=.agg [.lst (s.marks.map PV.str),.lst (s.moves.map eMv),.lst (s.by_.map eMv),pI a,pI b,pB c]
def exW (r:ERes):PV:=stW r.st (if r.code=1 then (r.k:Int) else 0) (if r.code=1 then r.t else -1) (r.code==2)
theorem Zoa (s:STG) (hs:StgFit s) (hg:Zj s.net s.start=true):Zd3 [ZV s]=some (exW (ZaB s)):=by
 have hn:=hs.net
 show (fun x0=>Zd3 [x0]) _=_
 rw[Zna]
 simp only[ZV,EVS]
 refine (Zdo (R:=PV) (fun q:{q:ESt×Nat // (∀x∈q.1.marks,Zj s.net x=true)∧q.1.marks.length≤300∧q.2≤q.1.marks.length∧q.1.moves.length≤24 * q.2∧q.1.by_.length≤q.1.marks.length}=>[stW q.1.1 0 (-1) false,pI (Int.ofNat q.1.2)]) (fun q=>301 - q.1.2) (fun q=>some (exW (Za1 s.net (301 - q.1.2) q.1.2 q.1.1))) _ (fun again q ih=> ?_) _ ⟨(ZG s.start,0),by simpa[ZG] using hg,by simp[ZG],by simp,by simp[ZG],by simp[ZG]⟩ (by simp only;omega)).trans ?_
 ·obtain ⟨⟨e,k⟩,hgd,hlen,hk,hmv,hby⟩:=q
  dsimp only at ih hgd hlen hk hmv hby⊢
  by_cases c:k<e.marks.length
  ·obtain ⟨mk,hmk⟩:∃mk,e.marks[k]?=some mk:=⟨e.marks[k],List.getElem?_eq_getElem c⟩
   have hmg:=hgd mk (List.mem_of_getElem? hmk)
   have g1:=Zk8 s.net mk hmg hn
   simp only[eNt] at g1
   have hel:=Zg3 hmg
   simp only[stW,ZZ c,Zew hmk,Zf4 hmk,ZgI,g1,EVS]
   rw[show 301 - k=(300 - k)+1 by omega,ZbZ hmk]
   refine (ZT (R:=PV) (enL s.net mk) (fun (o:ESt) i=>[stW o 0 (-1) false,pI (Int.ofNat i)]) (fun i o=>Ms s.net e o i) (Zdw s.net mk k (fun t o=>some (stW o k t false)) (fun o=>some (stW o 0 (-1) true))) (fun o=>again [stW o 0 (-1) false,pI (Int.ofNat (k+1))]) _ (by omega) (fun o i t o' hi hx he=> ?_) (fun again2 o i t hi hx=> ?_) (fun again2 o hi=> ?_) (b:=e) ⟨⟨[],by simp⟩,hgd,hlen,by omega,hby⟩).trans ?_
   ·obtain ⟨j,x,rfl,hx',he',hf⟩:=Zd7 (List.mem_of_getElem? hx)
    cases hF:Zbn s.net mk (j:Int) with
    |none=>rw[ZcP hF] at he;cases he
    | some m'=>
     by_cases h2:m'∈o.marks
     ·rw[Zdx hF h2] at he;cases he;exact hi.old
     ·by_cases h3:o.marks.length=300
      ·rw[ZcQ hF h2 h3] at he;cases he
      ·rw[Zdy hF h2 h3] at he;cases he;exact hi.new (Zg6 hmg (hf.symm.trans hF)) h3
   ·obtain ⟨j,x,rfl,hx',he',hf⟩:=Zd7 (List.mem_of_getElem? hx)
    have hki:=Zd hx
    have hoA:=hi.at hmk
    have g2:=Zpy s.net mk j x hmg hx' (hn.each x (List.mem_of_getElem? hx'))
    rw[←hf] at g2
    simp only[eNt] at g2
    have hil:(enL s.net mk).length≤9223372036854775807:=by omega
    cases hF:Zbn s.net mk (j:Int) with
    | none=>
     rw[hF] at g2
     simp only[ZhW] at g2
     rw[ZcP hF]
     simp only[stW,ZZ hki,ZhA hx,Zjm hx,Zew hoA,Zf4 hoA,ZgI,g2,spl1,spl6,ZpC,EVS]
    | some m'=>
     rw[hF] at g2
     simp only[ZhW] at g2
     have hmv2:=hi.mv
     have hl2:=hi.len
     have hb2:=hi.by_
     have g3:=ZpB o.marks m' (by unfold ZaV;omega)
     have hla:∀v:Mv,o.moves.length+[eMv v].length≤4294967296∧[eMv v].all (Za4 3)=true:=fun v=>⟨by simp;omega,rfl⟩
     have hlc:∀v:Mv,o.by_.length+[eMv v].length≤4294967296∧[eMv v].all (Za4 3)=true:=fun v=>⟨by simp;omega,rfl⟩
     have hlb:o.marks.length+[PV.str m'].length≤4294967296∧[PV.str m'].all (Za4 1)=true:=⟨by simp;omega,rfl⟩
     simp only[eMv] at hla hlc
     simp only[stW,ZZ hki,ZhA hx,Zjm hx,Zew hoA,Zf4 hoA,ZgI,g2,g3,EVS]
     by_cases h2:m'∈o.marks
     ·have h4:decide (Zbd m' o.marks<0)=false:=by have:=ZiY h2;simp only[decide_eq_false_iff_not];omega
      rw[Zdx hF h2]
      simp only[h4,spl3,if_pos (hla ⟨_,_,_⟩),Zq hki hil,EVS]
      simp only[Zc6,List.map_append,List.map_cons,List.map_nil,eMv]
     ·have h4:decide (Zbd m' o.marks<0)=true:=by rw[ZrU h2];rfl
      by_cases h3:o.marks.length=300
      ·rw[ZcQ hF h2 h3]
       simp only[h4,h3,spl5,spl6,ZpC,EVS]
      ·have h5:decide ((o.marks.length:Int)=300)=false:=by simp only[decide_eq_false_iff_not];omega
       rw[Zdy hF h2 h3]
       simp only[h4,h5,if_pos hlb,if_pos (hla ⟨_,_,_⟩),if_pos (hlc ⟨_,_,_⟩),spl3,Zq hki hil,EVS]
       simp only[Z2,List.map_append,List.map_cons,List.map_nil,eMv]
   ·simp only[Zae,Zq c (show e.marks.length≤9223372036854775807 by omega),EVS]
   ·rw[Zjn]
    cases hE:Zbz s.net mk k (enL s.net mk) e with
    |bad t s'=>rfl
    |full s'=>rfl
    | ok s'=>
     have hms:=ZeP (s0:=e) hmg (enL s.net mk) e 0 s' (fun t ht=>ht) ⟨⟨[],by simp⟩,hgd,hlen,by omega,hby⟩ hE
     have hl2:=Zd (hms.at hmk)
     have hm2:=hms.mv
     have:=ih ⟨(s',k+1),hms.good,hms.len,by dsimp only;omega,by dsimp only;omega,hms.by_⟩ (by simp only;omega)
     rw[show 301 - (k+1)=300 - k by omega] at this
     exact this
  ·obtain rfl:k=e.marks.length:=by omega
   rw[Zl4 (by omega)]
   simp only[stW,Zae,ZpC,spl6,EVS]
   rfl
 ·rfl
structure Ei (s:ESt):Prop where
 lim:s.marks.length≤300
 len:s.by_.length=s.marks.length
 top:∀v∈s.moves,0≤v.to∧v.to<s.marks.length
 up:∀k:Nat,1≤k→k<s.marks.length→∃v,s.by_[k]?=some v∧s.moves.find? (fun x=>decide (x.to=(k:Int)))=some v∧0≤v.from_∧v.from_<k∧0≤v.by_∧v.by_≤24
theorem Ei.old {s:ESt} {k:Nat} {t i:Int} (h:Ei s) (hi:0≤i∧i<s.marks.length):Ei (Zc6 k t i s):=by
 refine ⟨h.lim,h.len,fun v hv=> ?_,fun k' h1 h2=> ?_⟩
 ·rcases List.mem_append.1 hv with hv|hv
  ·exact h.top v hv
  ·rw[List.mem_singleton] at hv;subst hv;exact hi
 ·obtain ⟨v,a,b,c⟩:=h.up k' h1 h2
  refine ⟨v,a, ?_,c⟩
  show (s.moves++[_]).find? _=_
  rw[List.find?_append,b];rfl
theorem Ei.new {s:ESt} {k:Nat} {t:Int} {m:List UInt8} (h:Ei s) (hk:k<s.marks.length) (ht:0≤t∧t≤24) (h3:¬s.marks.length=300):Ei (Z2 k t m s):=by
 have hl:=h.len
 have hlim:=h.lim
 refine ⟨by unfold Z2;simp;omega,by unfold Z2;simp[hl],fun v hv=> ?_,fun k' h1 h2=> ?_⟩
 ·have e:(Z2 k t m s).marks.length=s.marks.length+1:=by unfold Z2;simp
  rw[e]
  rcases List.mem_append.1 hv with hv|hv
  ·have:=h.top v hv;constructor<;>omega
  ·rw[List.mem_singleton] at hv;subst hv;constructor<;>dsimp only<;>omega
 ·have e:(Z2 k t m s).marks.length=s.marks.length+1:=by unfold Z2;simp
  rw[e] at h2
  show ∃v:Mv,(s.by_++[(⟨(k:Int),t,(s.marks.length:Int)⟩:Mv)])[k']?=some v∧(s.moves++[(⟨(k:Int),t,(s.marks.length:Int)⟩:Mv)]).find? (fun x=>decide (x.to=(k':Int)))=some v∧0≤v.from_∧v.from_<k'∧0≤v.by_∧v.by_≤24
  by_cases c:k'<s.marks.length
  ·obtain ⟨v,a,b,d⟩:=h.up k' h1 c
   refine ⟨v, ?_, ?_,d⟩
   ·rw[List.getElem?_append_left (by omega),a]
   ·rw[List.find?_append,b];rfl
  ·obtain rfl:k'=s.marks.length:=by omega
   refine ⟨⟨k,t,s.marks.length⟩, ?_, ?_,by dsimp only;omega,by dsimp only;omega,ht.1,ht.2⟩
   ·rw[List.getElem?_append_right (by omega),hl];simp
   ·have hn:s.moves.find? (fun x=>decide (x.to=(s.marks.length:Int)))=none:=by
     rw[List.find?_eq_none]
     intro v hv
     have:=h.top v hv
     simp only[decide_eq_true_eq];omega
    rw[List.find?_append,hn]
    simp
theorem ZmM {n:Net} {m:List UInt8} {k:Nat} (hm:Zj n m=true):∀(l:List Int) (s:ESt),(∀t∈l,t∈enL n m)→k<s.marks.length→Ei s→(match Zbz n m k l s with
 |.ok s'=>Ei s'
 |.bad t s'=>Ei s'∧k<s'.marks.length∧0≤t∧t≤24
 |.full s'=>Ei s')
 |[],s,_,_,h=>h
 | t ::r,s,hl,hk,h=>by
  have hr:∀t∈r,t∈enL n m:=fun t ht=>hl t (List.mem_cons_of_mem _ ht)
  obtain ⟨j,x,e,hx,he',hf⟩:=Zd7 (hl t (List.mem_cons_self ..))
  have ht:0≤t∧t≤24:=by
   have:=Zd hx
   have hl:n.trans.length≤24:=by unfold Zj ZaC at hm;simp only[Bool.and_eq_true,decide_eq_true_eq] at hm;omega
   omega
  unfold Zbz
  cases hF:Zbn n m t with
  |none=>exact ⟨h,hk,ht⟩
  | some m'=>
   show match (if m'∈s.marks then Zbz n m k r (Zc6 k t (Zbd m' s.marks) s) else if s.marks.length=300 then .full s else Zbz n m k r (Z2 k t m' s)) with
    |.ok s'=>Ei s'
    |.bad t s'=>Ei s'∧k<s'.marks.length∧0≤t∧t≤24
    |.full s'=>Ei s'
   by_cases h2:m'∈s.marks
   ·rw[if_pos h2]
    exact ZmM hm r _ hr hk (h.old (ZiY h2))
   ·rw[if_neg h2]
    by_cases h3:s.marks.length=300
    ·rw[if_pos h3];exact h
    ·rw[if_neg h3]
     exact ZmM hm r _ hr (by unfold Z2;simp;omega) (h.new hk ht h3)
structure Eo (r:ERes):Prop where
 ei:Ei r.st
 bad:r.code=1→r.k<r.st.marks.length∧0≤r.t∧r.t≤24
theorem Zob {n:Net}:∀(f k:Nat) (s:ESt),(∀x∈s.marks,Zj n x=true)→s.marks.length≤300→s.by_.length≤s.marks.length→Ei s→Eo (Za1 n f k s)
 |0,k,s,_,_,_,h=>⟨h,fun h=>by cases h⟩
 | f +1,k,s,hg,hl,hb,h=>by
  cases hk:s.marks[k]? with
  |none=>unfold Za1;rw[hk];exact ⟨h,fun h=>by cases h⟩
  | some m=>
   rw[ZbZ hk]
   have hm:=hg m (List.mem_of_getElem? hk)
   have h1:=ZmM hm (enL n m) s (fun t ht=>ht) (Zd hk) h
   cases hE:Zbz n m k (enL n m) s with
   |bad t s'=>rw[hE] at h1;exact ⟨h1.1,fun _=>h1.2⟩
   |full s'=>rw[hE] at h1;exact ⟨h1,fun h=>by cases h⟩
   | ok s'=>
    rw[hE] at h1
    have hms:=ZeP (s0:=s) hm (enL n m) s 0 s' (fun t ht=>ht) ⟨⟨[],by simp⟩,hg,hl,by omega,hb⟩ hE
    exact Zob f (k+1) s' hms.good hms.len hms.by_ h1
theorem ZpD {s:STG} (hg:Zj s.net s.start=true):Eo (ZaB s):=by
 refine Zob 301 0 (ZG s.start) (by simpa[ZG] using hg) (by simp[ZG]) (by simp[ZG]) ⟨by simp[ZG],by simp[ZG],by simp[ZG],fun k h1 h2=> ?_⟩
 simp[ZG] at h2;omega
theorem ZqR (n:Net):∀(f k:Nat) (s:ESt),(∀x∈s.marks,Zj n x=true)→s.marks.length≤300→s.by_.length≤s.marks.length→k≤300→s.moves.length≤24 * k→(Za1 n f k s).st.moves.length≤100000
 |0,k,s,_,_,_,_,h=>by show s.moves.length≤_;omega
 | f + 1,k,s,hg,hl,hb,hk3,h=>by
  cases hk:s.marks[k]? with
  |none=>unfold Za1;rw[hk];show s.moves.length≤_;omega
  | some m=>
   rw[ZbZ hk]
   have hm:=hg m (List.mem_of_getElem? hk)
   have hkl:=Zd hk
   have hel:=Zg3 hm
   have hin:∀(l:List Int) (s:ESt),s.moves.length+l.length≤100000→match Zbz n m k l s with
    |.ok s'=>True
    |.bad t s'=>s'.moves.length≤100000
    |.full s'=>s'.moves.length≤100000:=by
    intro l
    induction l with
    |nil=>intro s h;trivial
    | cons t r ih=>
     intro s h
     simp only[List.length_cons] at h
     unfold Zbz
     cases hF:Zbn n m t with
     |none=>show s.moves.length≤_;omega
     | some m'=>
      show match (if m'∈s.marks then Zbz n m k r (Zc6 k t (Zbd m' s.marks) s) else if s.marks.length=300 then .full s else Zbz n m k r (Z2 k t m' s)) with
       |.ok s'=>True
       |.bad t s'=>s'.moves.length≤100000
       |.full s'=>s'.moves.length≤100000
      by_cases h2:m'∈s.marks
      ·rw[if_pos h2];exact ih _ (by unfold Zc6;simp;omega)
      ·rw[if_neg h2]
       by_cases h3:s.marks.length=300
       ·rw[if_pos h3];show s.moves.length≤_;omega
       ·rw[if_neg h3];exact ih _ (by unfold Z2;simp;omega)
   have h1:=hin (enL n m) s (by omega)
   cases hE:Zbz n m k (enL n m) s with
   |bad t s'=>rw[hE] at h1;exact h1
   |full s'=>rw[hE] at h1;exact h1
   | ok s'=>
    have hms:=ZeP (s0:=s) hm (enL n m) s 0 s' (fun t ht=>ht) ⟨⟨[],by simp⟩,hg,hl,by omega,hb⟩ hE
    have:=hms.mv
    exact ZqR n f (k+1) s' hms.good hms.len hms.by_ (by omega) (by omega)
theorem Zk9 {s:STG} (hg:Zj s.net s.start=true):(ZaB s).st.moves.length≤100000:=
 ZqR s.net 301 0 (ZG s.start) (by simpa[ZG] using hg) (by simp[ZG]) (by simp[ZG]) (by omega) (by simp[ZG])
theorem spl2 (a b c d:PV):splice [a,b] 0 [c,d]=[c,d]:=rfl
theorem Zfy (a c:PV):splice [a] 0 [c]=[c]:=rfl
def qN :Option Bool→Int
 |none=>63
 |some false=>48
 |some true=>49
def eQ (x:Option Bool):PV:=.int .u8 (qN x)
def Zfd (s:STG) (k:Int):Lab:=s.labels.getD k.toNat ⟨0,false⟩
def Zdz (s:STG) (sig:Int) (m:Mv):VA:=⟨m.from_.toNat,m.to.toNat,if (Zfd s m.by_).sig=sig then some (Zfd s m.by_).up else none⟩
theorem qAt {v:Zy} {k:Nat} (h:k<v.length):(v.map eQ)[k]?=some (eQ (vAt v k)):=by
 rw[List.getElem?_map]
 unfold vAt
 rw[List.getD_eq_getElem?_getD,List.getElem?_eq_getElem h];rfl
theorem qSet (v:Zy) (k:Nat) (x:Option Bool):(v.map eQ).set k (eQ x)=(v.set k x).map eQ:=Zf2 eQ v k x
theorem Zoc (v:Zy) (f t:Nat) (hf:f<v.length) (ht:t<v.length):ZX false v ⟨f,t,none⟩=(if (vAt v f).or (vAt v t)≠none∧vAt v t≠none∧vAt v t≠(vAt v f).or (vAt v t) then none else some ((v.set f ((vAt v f).or (vAt v t))).set t ((vAt v f).or (vAt v t)))):=by
 have hn:∀{v:Zy} {k:Nat},vAt v k=none→v.set k none=v:=fun {v k} h=>by
  unfold vAt at h
  by_cases hk:k<v.length
  ·rw[List.getD_eq_getElem?_getD,List.getElem?_eq_getElem hk] at h
   simp only[Option.getD_some] at h
   exact Zj1 (by rw[List.getElem?_eq_getElem hk,h])
  ·exact List.set_eq_of_length_le (by omega)
 unfold ZX
 dsimp only
 cases h1:vAt v f with
 | none=>
  cases h2:vAt v t with
  | none=>
   simp only[Option.or_none,ne_eq,not_true_eq_false,false_and,if_false]
   rw[hn h1,hn h2]
  | some y=>
   simp only[Option.none_or,ne_eq,not_true_eq_false,and_false,if_false]
   by_cases e:f=t
   ·subst e;rw[h1] at h2;cases h2
   ·have h3:(v.set f (some y)).set t (some y)=v.set f (some y):=ZcY (by rw[ZbX hf,if_neg (fun hc=>e hc.symm)];exact h2)
    rw[h3]
 | some x=>
  cases h2:vAt v t with
  | none=>
   simp only[Option.some_or,ne_eq,reduceCtorEq,not_false_eq_true,not_true_eq_false,false_and,and_false,if_false]
   rw[ZcY h1]
  | some y=>
   simp only[Option.some_or,ne_eq,reduceCtorEq,not_false_eq_true,true_and,Option.some.injEq]
   by_cases e:x=y
   ·subst e
    simp only[if_true,not_true_eq_false,if_false]
    rw[ZcY h1,ZcY h2]
   ·rw[if_neg e,if_pos (fun hc=>e hc.symm)]
theorem ZpE (v:Zy) (f t:Nat) (up:Bool):ZX false v ⟨f,t,some up⟩=(if (vAt v f=none∨vAt v f=some (!up))∧(vAt v t=none∨vAt v t=some up) then some ((v.set f (some (!up))).set t (some up)) else none):=by
 unfold ZX
 simp
def Zim {R α:Type} (g:α→VA) (z:Option R) (v:Zy) (_:Nat) (m:α):Sum Zy (Option R):=match ZX false v (g m) with|none=>.inr z|some u=>.inl u
def Zko {R:Type} (l:List VA) (z:Option R) (v:Zy) (_:Nat) (_:Unit):Sum Zy (Option R):=match ZU false l v with|none=>.inr z|some u=>.inl u
theorem ZdV {R α:Type} {g:α→VA} {z:Option R} {v:Zy} {k:Nat} {m:α} (h:ZX false v (g m)=none):Zim g z v k m=.inr z:=by unfold Zim;rw[h]
theorem ZdW {R α:Type} {g:α→VA} {z:Option R} {v u:Zy} {k:Nat} {m:α} (h:ZX false v (g m)=some u):Zim g z v k m=.inl u:=by unfold Zim;rw[h]
theorem ZlX {R:Type} {α:Type} (g:α→VA) (z:Option R) (e:Zy→Option R):∀(l:List α) (k:Nat) (v:Zy),ZO (R:=R) (Zim g z) e k v l=(match ZU false (l.map g) v with|none=>z|some u=>e u)
 |[],k,v=>rfl
 | m::r,k,v=>by
  unfold ZO
  simp only[List.map_cons]
  unfold ZU
  cases h:ZX false v (g m) with
  |none=>rw[ZdV h];rfl
  |some u=>rw[ZdW h];exact ZlX g z e r (k+1) u
theorem ZlY {R:Type} (l:List VA) (z:Option R) (e:Zy→Option R):∀(n k:Nat) (v:Zy),ZO (R:=R) (Zko l z) e k v (List.replicate n ())=(match ZbI false l n v with|none=>z|some u=>e u)
 |0,k,v=>rfl
 | n+1,k,v=>by
  rw[List.replicate_succ]
  unfold ZO ZbI Zko
  cases ZU false l v with
  |none=>rfl
  |some u=>exact ZlY l z e n (k+1) u
theorem ZcT {R α β:Type} (f:β→Nat→α→Sum β (Option R)) (z:Option R) (h:∀b k x,∃b',f b k x=.inl b'):∀(q:List α) (k:Nat) (b:β),ZO f (fun _=>z) k b q=z
 |[],k,b=>rfl
 | x::q,k,b=>by
  unfold ZO
  obtain ⟨b',e⟩:=h b k x
  rw[e]
  exact ZcT f z h q (k+1) b'
def qB :Option Bool→UInt8
 |none=>63
 |some false=>48
 |some true=>49
theorem ZlZ :∀v:Zy,Zax (v.map eQ)=some (v.map qB)
 |[]=>rfl
 | x::r=>by
  rw[List.map_cons,List.map_cons]
  unfold Zax
  rw[ZlZ r]
  have hb:Zgv (eQ x)=some (qB x):=by
   cases x with
   |none=>rfl
   |some b=>cases b<;>rfl
  rw[hb];rfl
theorem Zfz (a b:Int):ZJ 0 1 [.int .u8 a] (.int .u8 a) (.int .u8 b)=some (.int .u8 b):=rfl
def Zod (s:STG) (n:Nat) (mv:List Mv):Prop:=∀m∈mv,(0≤m.from_∧m.from_<n)∧(0≤m.to∧m.to<n)∧(0≤m.by_∧m.by_<s.labels.length)
def l5V (s:STG) (n:Nat) (mv:List Mv) (sig:Int):Option Zy:=ZbI false (mv.map (Zdz s sig)) (n+1) (List.replicate n none)
def l5R :Option Zy→PV
 |none=>.tup [.str [],pB false]
 |some v=>.tup [.str (v.map qB),pB true]
def ZhB (n k:Nat):List PV:=List.replicate k (eQ none)++List.replicate (n - k) (.int .u8 0)
theorem filK_0 (n:Nat):List.replicate n (PV.int .u8 0)=ZhB n 0:=by simp[ZhB]
theorem Zs8 (n:Nat):(ZhB n 0).length=n:=by simp[ZhB]
theorem filK_n (n:Nat):ZhB n n=(List.replicate n none).map eQ:=by simp[ZhB]
theorem Zin {own:Bool} {v u:Zy} {a:VA} (h:ZX own v a=some u):u.length=v.length:=by
 unfold ZX at h
 split at h
 ·split at h
  ·split at h
   ·cases h;rfl
   ·cases h
  ·cases h;simp
  ·cases h;simp
  ·cases h;rfl
 ·split at h
  ·cases h;simp
  ·cases h
theorem Zio {own:Bool}:∀{l:List VA} {v u:Zy},ZU own l v=some u→u.length=v.length
 |[],v,u,h=>by cases h;rfl
 | a::r,v,u,h=>by
  unfold ZU at h
  obtain ⟨w,h1,h2⟩:=Option.bind_eq_some_iff.1 h
  exact (Zio h2).trans (Zin h1)
theorem Zec (a b c:PV):Zb true 0 3 [a,b,c]=some (.agg [a,b,c]):=rfl
theorem ZmN (a b:PV):Zb true 0 2 [a,b]=some (.agg [a,b]):=rfl
theorem ZdX (a b c a' b' c':PV):splice [a,b,c] 0 [a',b',c']=[a',b',c']:=rfl
theorem Zgk (a b a' b':PV):splice [a,b] 0 [a',b']=[a',b']:=rfl
theorem ZpF (a b c d e:PV):Zb false 3 1 [a,b,c,d,e]=some d:=rfl
theorem ZhC (s:STG) (ms:List (List UInt8)) (mv:List Mv) (sig:Int) (hn:ms.length≤1000) (hm:mv.length≤1000000) (hl:s.labels.length≤1000) (ho:Zod s ms.length mv):
 Zbu [ZV s,.agg [.lst (ms.map PV.str),.lst (mv.map eMv)],pI sig]=some (l5R (l5V s ms.length mv sig)):=by
 show (fun x0 x1 x2=>Zbu [x0,x1,x2]) _ _ _=_
 rw[Zlv]
 obtain ⟨n,hne⟩:∃n,ms.length=n:=⟨_,rfl⟩
 have hz:Zad (TI.mk 1 1 (TD.int .u8) [ZC.int .u8] [] false)=.int .u8 0:=rfl
 simp only[ZV,List.length_map,hne,ZnG _ _ (show n≤4294967296 by omega),List.length_replicate,hz,filK_0,Zs8,EVS]
 refine (congrArg (fun m:Option PV=>m.bind fun r=>if r.sc=true then some r else none) ((ZT (R:=PV) (List.replicate n ()) (fun (_:Unit) k=>[.lst (ZhB n k),pI (Int.ofNat k)]) (fun _ _=>True) (fun _ _ _=>.inl ()) (fun _=>some (l5R (l5V s n mv sig))) _ (by rw[List.length_replicate];omega) (fun b k x b' _ _ _=>trivial) (fun again b k x _ hx=> ?_) (fun again b _=> ?_) (b:=()) trivial).trans (ZcT _ _ (fun b k x=>⟨_,rfl⟩) _ _ _))).trans ?_
 ·have hk:=Zd hx
  rw[List.length_replicate] at hk
  have hpl:ZR (ZhB n k) (.int .i64 (k:Int))=some (.int .i64 (k:Int)):=Zah (by unfold ZhB;simp;omega)
  have hat:(ZhB n k)[k]?=some (.int .u8 0):=by
   unfold ZhB
   rw[List.getElem?_append_right (by simp),List.length_replicate,Nat.sub_self,List.getElem?_replicate,if_pos (by omega)]
  have hst:(ZhB n k).set k (.int .u8 63)=ZhB n (k+1):=by
   unfold ZhB
   rw[List.set_append_right _ _ (by simp),List.length_replicate,Nat.sub_self]
   obtain ⟨j,hj⟩:∃j,n - k=j+1:=⟨n - k - 1,by omega⟩
   rw[hj,show n - (k+1)=j by omega,List.replicate_succ,List.set_cons_zero,List.replicate_succ',List.append_assoc]
   rfl
  simp only[ZZ hk,hpl,hat,Zfz,hst,Zq hk (show n≤9223372036854775807 by omega),EVS]
 ·simp only[List.length_replicate,filK_n,Zae,EVS]
  refine (ZT (R:=PV) (List.replicate (n+1) ()) (fun (v:Zy) k=>[.lst (v.map eQ),pI (Int.ofNat k)]) (fun _ v=>v.length=n) (Zko (mv.map (Zdz s sig)) (some (l5R none))) (fun v=>some (l5R (some v))) _ (by rw[List.length_replicate];omega) (fun v k x v' hi hx he=> ?_) (fun again v k x hi hx=> ?_) (fun again v hi=> ?_) (b:=List.replicate n none) (by simp)).trans ?_
  ·unfold Zko at he
   cases hp:ZU false (mv.map (Zdz s sig)) v with
   |none=>rw[hp] at he;cases he
   |some u=>rw[hp] at he;cases he;exact (Zio hp).trans hi
  ·have hk:=Zd hx
   rw[List.length_replicate] at hk
   have hd:decide ((k:Int)≤(n:Int))=true:=by simp only[decide_eq_true_eq];omega
   simp only[hd,EVS]
   refine (ZT (R:=PV) mv (fun (v:Zy) j=>[.lst (v.map eQ),pI (Int.ofNat j)]) (fun _ v=>v.length=n) (Zim (Zdz s sig) (some (l5R none))) (fun u=>again [.lst (u.map eQ),pI (Int.ofNat (k+1))]) _ (by omega) (fun v j m v' hi hx he=> ?_) (fun again v j m hi hx=> ?_) (fun again2 v hi=> ?_) (b:=v) hi).trans ?_
   ·cases h:ZX false v (Zdz s sig m) with
    |none=>rw[ZdV h] at he;cases he
    |some u=>rw[ZdW h] at he;cases he;exact (Zin h).trans hi
   ·have hj:=Zd hx
    have him:Zx (.lst (mv.map eMv)) (.int .i64 (j:Int))=some (eMv m):=Zs hx
    obtain ⟨⟨f1,f2⟩,⟨t1,t2⟩,b1,b2⟩:=ho m (List.mem_of_getElem? hx)
    obtain ⟨f,hf⟩:∃f:Nat,m.from_=f:=⟨m.from_.toNat,by omega⟩
    obtain ⟨t,ht⟩:∃t:Nat,m.to=t:=⟨m.to.toNat,by omega⟩
    obtain ⟨b,hb⟩:∃b:Nat,m.by_=b:=⟨m.by_.toNat,by omega⟩
    have hbl:b<s.labels.length:=by omega
    obtain ⟨lb,hlb⟩:∃lb,s.labels[b]?=some lb:=⟨s.labels[b],List.getElem?_eq_getElem hbl⟩
    have hil:Zx (.lst (s.labels.map eLb)) (.int .i64 (b:Int))=some (eLb lb):=Zs hlb
    have hva:Zdz s sig m=⟨f,t,if lb.sig=sig then some lb.up else none⟩:=by
     unfold Zdz Zfd
     rw[hf,ht,hb,Int.toNat_natCast,Int.toNat_natCast,Int.toNat_natCast,List.getD_eq_getElem?_getD,hlb];rfl
    have hpf:ZR (v.map eQ) (.int .i64 (f:Int))=some (.int .i64 (f:Int)):=Zah (by rw[List.length_map];omega)
    have hpt:ZR (v.map eQ) (.int .i64 (t:Int))=some (.int .i64 (t:Int)):=Zah (by rw[List.length_map];omega)
    have haf:(v.map eQ)[f]?=some (.int .u8 (qN (vAt v f))):=qAt (by omega)
    have hat:(v.map eQ)[t]?=some (.int .u8 (qN (vAt v t))):=qAt (by omega)
    have hpt2:∀x,ZR ((v.set f x).map eQ) (.int .i64 (t:Int))=some (.int .i64 (t:Int)):=fun x=>Zah (by simp;omega)
    have hat2:∀x,((v.set f x).map eQ)[t]?=some (.int .u8 (qN (vAt (v.set f x) t))):=fun x=>qAt (by simp;omega)
    have s0:(v.map eQ).set f (.int .u8 63)=(v.set f none).map eQ:=qSet v f none
    have s1:(v.map eQ).set f (.int .u8 48)=(v.set f (some false)).map eQ:=qSet v f (some false)
    have s2:(v.map eQ).set f (.int .u8 49)=(v.set f (some true)).map eQ:=qSet v f (some true)
    have r0:∀x,((v.set f x).map eQ).set t (.int .u8 63)=((v.set f x).set t none).map eQ:=fun x=>qSet _ t none
    have r1:∀x,((v.set f x).map eQ).set t (.int .u8 48)=((v.set f x).set t (some false)).map eQ:=fun x=>qSet _ t (some false)
    have r2:∀x,((v.set f x).map eQ).set t (.int .u8 49)=((v.set f x).set t (some true)).map eQ:=fun x=>qSet _ t (some true)
    have hnw:=Zq hj (show mv.length≤9223372036854775807 by omega)
    simp only[ZZ hj,him,eMv,hf,ht,hb,hil,eLb,Zec,ZmN,ZpF,ZdX,Zgk,List.drop_zero,EVS]
    by_cases c:lb.sig=sig
    ·have hsp:=ZpE v f t lb.up
     rw[if_pos c] at hva
     rw[←hva] at hsp
     have hdc:decide (lb.sig=sig)=true:=by simp[c]
     have g0:Zct [.bool false]=some (.str [48]):=ZlO false
     have g1:Zct [.bool true]=some (.str [49]):=ZlO true
     have y0:Zbi (.str [48]) (.int .i64 0)=some (.int .u8 48):=rfl
     have y1:Zbi (.str [49]) (.int .i64 0)=some (.int .u8 49):=rfl
     cases cu:lb.up<;>rcases cf:vAt v f with _|⟨_|_⟩<;>rcases ct:vAt v t with _|⟨_|_⟩<;>
      (rw[cf] at haf hsp;rw[ct] at hat hsp;rw[cu] at hsp;simp at hsp;(first|rw[ZdW hsp]|rw[ZdV hsp]);simp only[hdc,g0,g1,y0,y1,hpf,haf,hpt,hat,hpt2,hat2,Zfz,s0,s1,s2,r0,r1,r2,hnw,qN,Int.reduceEq,decide_true,decide_false,EVS];try rfl)
    ·have hsp:=Zoc v f t (by omega) (by omega)
     rw[if_neg c] at hva
     rw[←hva] at hsp
     have hdc:decide (lb.sig=sig)=false:=by simp[c]
     rcases cf:vAt v f with _|⟨_|_⟩<;>rcases ct:vAt v t with _|⟨_|_⟩<;>
      (rw[cf] at haf hsp;rw[ct] at hat hsp;simp at hsp;(first|rw[ZdW hsp]|rw[ZdV hsp]);simp only[hdc,hpf,haf,hpt,hat,hpt2,hat2,Zfz,s0,s1,s2,r0,r1,r2,hnw,qN,Int.reduceEq,decide_true,decide_false,EVS];try rfl)
   ·simp only[Zae,Zq (show k<n+1 by omega) (show n+1≤9223372036854775807 by omega),EVS]
   ·rw[ZlX]
    unfold Zko
    cases ZU false (mv.map (Zdz s sig)) v<;>rfl
  ·have hd:decide (((n+1:Nat):Int)≤(n:Int))=false:=by simp only[decide_eq_false_iff_not];omega
   simp only[List.length_replicate,hd,ZlZ,EVS]
   rfl
  ·rw[ZlY]
   unfold l5V
   cases ZbI false (mv.map (Zdz s sig)) (n+1) (List.replicate n none)<;>rfl
 ·cases l5V s n mv sig<;>rfl
theorem Zco {s:STG} (c:ZgH s=true):Zj s.net s.start=true:=by unfold ZgH at c;simp only[Bool.and_eq_true] at c;exact c.1.1
structure Mo (s:ESt):Prop where
 lim:s.marks.length≤300
 mv:∀v∈s.moves,(0≤v.from_∧v.from_≤300)∧(0≤v.by_∧v.by_≤24)∧(0≤v.to∧v.to≤300)
theorem ZmO {n:Net} {m:List UInt8} {k:Nat} (hm:Zj n m=true) (hk:k≤300):∀(l:List Int) (s s':ESt),(∀t∈l,t∈enL n m)→Mo s→Zbz n m k l s=.ok s'→Mo s'
 |[],s,s',_,h,he=>by cases he;exact h
 | t ::r,s,s',hl,h,he=>by
  have hr:∀t∈r,t∈enL n m:=fun t ht=>hl t (List.mem_cons_of_mem _ ht)
  obtain ⟨j,x,e,hx,he',hf⟩:=Zd7 (hl t (List.mem_cons_self ..))
  have hj:=Zd hx
  have hle:n.trans.length≤24:=by unfold Zj ZaC at hm;simp only[Bool.and_eq_true,decide_eq_true_eq] at hm;omega
  have hlim:=h.lim
  unfold Zbz at he
  cases hF:Zbn n m t with
  |none=>rw[hF] at he;cases he
  | some m'=>
   rw[hF] at he
   have he2:(if m'∈s.marks then Zbz n m k r (Zc6 k t (Zbd m' s.marks) s) else if s.marks.length=300 then .full s else Zbz n m k r (Z2 k t m' s))=.ok s':=he
   by_cases h2:m'∈s.marks
   ·rw[if_pos h2] at he2
    refine ZmO hm hk r (Zc6 k t (Zbd m' s.marks) s) s' hr ⟨hlim,fun v hv=> ?_⟩ he2
    rcases List.mem_append.1 hv with hv|hv
    ·exact h.mv v hv
    ·rw[List.mem_singleton] at hv
     subst hv
     have h3:=Zik h2
     have h4:=List.idxOf_lt_length_iff.2 h2
     exact ⟨⟨by show (0:Int)≤(k:Int);omega,by show (k:Int)≤300;omega⟩,⟨by show 0≤t;omega,by show t≤24;omega⟩,by show 0≤Zbd m' s.marks;omega,by show Zbd m' s.marks≤300;omega⟩
   ·rw [if_neg h2] at he2
    by_cases h3:s.marks.length=300
    ·rw[if_pos h3] at he2;cases he2
    ·rw[if_neg h3] at he2
     refine ZmO hm hk r (Z2 k t m' s) s' hr ⟨by unfold Z2;simp;omega,fun v hv=> ?_⟩ he2
     rcases List.mem_append.1 hv with hv|hv
     ·exact h.mv v hv
     ·rw[List.mem_singleton] at hv
      subst hv
      exact ⟨⟨by show (0:Int)≤(k:Int);omega,by show (k:Int)≤300;omega⟩,⟨by show 0≤t;omega,by show t≤24;omega⟩,by show (0:Int)≤(s.marks.length:Int);omega,by show (s.marks.length:Int)≤300;omega⟩
theorem Zoe {n:Net}:∀(f k:Nat) (s:ESt),(∀x∈s.marks,Zj n x=true)→s.by_.length≤s.marks.length→Mo s→(Za1 n f k s).code=0→Mo (Za1 n f k s).st∧∀x∈(Za1 n f k s).st.marks,Zj n x=true
 |0,k,s,hg,_,h,_=>⟨h,hg⟩
 | f +1,k,s,hg,hb,h,hc=>by
  cases hk:s.marks[k]? with
  |none=>unfold Za1;rw[hk];exact ⟨h,hg⟩
  | some m=>
   rw[ZbZ hk] at hc⊢
   have hm:=hg m (List.mem_of_getElem? hk)
   have hkl:=Zd hk
   have hlim:=h.lim
   cases hE:Zbz n m k (enL n m) s with
   |bad t s'=>rw[hE] at hc;cases hc
   |full s'=>rw[hE] at hc;cases hc
   | ok s'=>
    rw[hE] at hc
    have hms:=ZeP (s0:=s) hm (enL n m) s 0 s' (fun t ht=>ht) ⟨⟨[],by simp⟩,hg,hlim,by omega,hb⟩ hE
    exact Zoe f (k+1) s' hms.good hms.by_ (ZmO hm (by omega) (enL n m) s s' (fun t ht=>ht) h hE) hc
theorem ZpG {s:STG} (hg:Zj s.net s.start=true) (hc:(ZaB s).code=0):Mo (ZaB s).st∧∀x∈(ZaB s).st.marks,Zj s.net x=true:=
 Zoe 301 0 (ZG s.start) (by simpa[ZG] using hg) (by simp[ZG]) ⟨by simp[ZG],by simp[ZG]⟩ hc
theorem Zkp (n:Net):∀(f k:Nat) (s:ESt),(Za1 n f k s).code≤2
 |0,k,s=>Nat.zero_le _
 | f+1,k,s=>by
  unfold Za1
  cases s.marks[k]? with
  |none=>exact Nat.zero_le _
  | some m=>
   dsimp only
   cases Zbz n m k (enL n m) s with
   |ok s'=>exact Zkp n f (k+1) s'
   |bad t s'=>exact Nat.le_succ _
   |full s'=>exact Nat.le_refl _
theorem Zl0 (l:List PV):(PV.tup l).parts=l:=rfl
theorem ZfA (a b:PV):Zb true 0 2 [a,b]=some (.agg [a,b]):=rfl
def exP (s:STG):RG×Bool:=if ZgH s=true∧(ZaB s).code=0 then (⟨(ZaB s).st.marks,(ZaB s).st.moves⟩,true) else (⟨[],[]⟩,false)
theorem ZqS (s:STG):(exP s).1.marks.length≤300∧(exP s).1.moves.length≤100000:=by
 unfold exP
 split
 ·rename_i c
  exact ⟨(ZpG (Zco c.1) c.2).1.lim,Zk9 (Zco c.1)⟩
 ·exact ⟨Nat.zero_le _,Nat.zero_le _⟩
theorem ZmP (s:STG) (hs:StgFit s):ZdY [ZV s]=some (.tup [.agg [.lst ((exP s).1.marks.map PV.str),.lst ((exP s).1.moves.map eMv)],pB (exP s).2]):=by
 have g1:=Zkn s hs
 simp only[ZV] at g1
 show (fun x0=>ZdY [x0]) _=_
 rw[ZmZ]
 unfold exP
 cases c1:ZgH s
 ·rw[c1] at g1
  simp only[ZV,ZbF,g1,EVS]
  rfl
 ·rw[c1] at g1
  have g2:=ZmL s hs (Zco c1)
  unfold exV rgV at g2
  simp only[ZV] at g2
  by_cases c2:(ZaB s).code=0
  ·rw[c2] at g2
   simp only[ZV,ZbF,g1,g2,c2,Zl0,grp2,spl2,ZfA,show ((0:Nat)==0)=true from rfl,and_self,if_true,List.getElem?_cons_zero,List.getElem?_cons_succ,EVS]
   try rfl
  ·have hb:((ZaB s).code==0)=false:=by simpa using c2
   rw[hb] at g2
   simp only[ZV,ZbF,g1,g2,c2,Zl0,grp2,spl2,ZfA,and_false,if_false,List.getElem?_cons_zero,List.getElem?_cons_succ,EVS]
   try rfl
theorem ZmQ (s:STG) (hs:StgFit s):Zd4 [ZV s]=some (.tup [.agg [.lst ((exP s).1.marks.map PV.str),.lst ((exP s).1.moves.map eMv)],pB (exP s).2]):=by
 have g1:=Zpz s hs
 simp only[ZV] at g1
 show (fun x0=>Zd4 [x0]) _=_
 rw[Znc]
 unfold exP
 cases c1:ZgH s
 ·rw[c1] at g1
  simp only[ZV,ZbF,g1,EVS]
  rfl
 ·rw[c1] at g1
  have g2:=Zoa s hs (Zco c1)
  unfold exW stW at g2
  simp only[ZV] at g2
  have hle2:(ZaB s).code≤2:=Zkp s.net _ _ _
  obtain ⟨cd,hcd⟩:∃cd,(ZaB s).code=cd:=⟨_,rfl⟩
  rw[hcd] at g2 hle2
  have h3:cd=0∨cd=1∨cd=2:=by omega
  rcases h3 with rfl|rfl|rfl
  ·simp only[ZV,ZbF,g1,g2,hcd,ZgI,show ((0:Nat)==2)=false from rfl,show ¬(0:Nat)=1 by omega,and_self,if_true,if_false,show decide ((0:Int)≤ -1)=false from rfl,EVS]
   try rfl
  ·obtain ⟨hk,ht1,ht2⟩:=(ZpD (Zco c1)).bad hcd
   have hd:decide ((0:Int)≤(ZaB s).t)=true:=by simpa using ht1
   simp only[ZV,ZbF,g1,g2,hcd,hd,show ((1:Nat)==2)=false from rfl,show ¬(1:Nat)=0 by omega,and_false,if_true,if_false,EVS]
   try rfl
  ·simp only[ZV,ZbF,g1,g2,hcd,show ((2:Nat)==2)=true from rfl,show ¬(2:Nat)=0 by omega,show ¬(2:Nat)=1 by omega,and_false,if_true,if_false,show decide ((0:Int)≤ -1)=false from rfl,EVS]
   try rfl
def Mv2 (n:Net) (s:ESt):Prop:=∀v∈s.moves,(0≤v.from_∧v.from_<s.marks.length)∧(0≤v.to∧v.to<s.marks.length)∧(0≤v.by_∧v.by_<n.trans.length)
theorem ZhD {n:Net} {m:List UInt8} {k:Nat}:∀(l:List Int) (s s':ESt),(∀t∈l,t∈enL n m)→k<s.marks.length→Mv2 n s→Zbz n m k l s=.ok s'→Mv2 n s'∧s.marks.length≤s'.marks.length
 |[],s,s',_,_,h,he=>by cases he;exact ⟨h,Nat.le_refl _⟩
 | t :: r,s,s',hl,hk,h,he=>by
  have hr:∀t∈r,t∈enL n m:=fun t ht=>hl t (List.mem_cons_of_mem _ ht)
  obtain ⟨j,x,e,hx,he',hf⟩:=Zd7 (hl t (List.mem_cons_self ..))
  have hj:=Zd hx
  unfold Zbz at he
  cases hF:Zbn n m t with
  |none=>rw[hF] at he;cases he
  | some m'=>
   rw[hF] at he
   have he2:(if m'∈s.marks then Zbz n m k r (Zc6 k t (Zbd m' s.marks) s) else if s.marks.length=300 then .full s else Zbz n m k r (Z2 k t m' s))=.ok s':=he
   by_cases h2:m'∈s.marks
   ·rw[if_pos h2] at he2
    refine ZhD r (Zc6 k t (Zbd m' s.marks) s) s' hr hk (fun v hv=> ?_) he2
    rcases List.mem_append.1 hv with hv|hv
    ·exact h v hv
    ·rw[List.mem_singleton] at hv
     subst hv
     have h3:=Zik h2
     have h4:=List.idxOf_lt_length_iff.2 h2
     exact ⟨⟨by show (0:Int)≤(k:Int);omega,by show (k:Int)<(s.marks.length:Int);omega⟩,⟨by show 0≤Zbd m' s.marks;omega,by show Zbd m' s.marks<(s.marks.length:Int);omega⟩,by show 0≤t;omega,by show t<(n.trans.length:Int);omega⟩
   ·rw [if_neg h2] at he2
    by_cases h3:s.marks.length=300
    ·rw[if_pos h3] at he2;cases he2
    ·rw [if_neg h3] at he2
     have hlen:(Z2 k t m' s).marks.length=s.marks.length+1:=by unfold Z2;simp
     have hnew:Mv2 n (Z2 k t m' s):=fun v hv=>by
      rcases List.mem_append.1 hv with hv|hv
      ·obtain ⟨a,b,c⟩:=h v hv
       exact ⟨⟨a.1,by omega⟩,⟨b.1,by omega⟩,c⟩
      ·rw[List.mem_singleton] at hv
       subst hv
       exact ⟨⟨by show (0:Int)≤(k:Int);omega,by show (k:Int)<((Z2 k t m' s).marks.length:Int);omega⟩,⟨by show (0:Int)≤(s.marks.length:Int);omega,by show (s.marks.length:Int)<((Z2 k t m' s).marks.length:Int);omega⟩,by show 0≤t;omega,by show t<(n.trans.length:Int);omega⟩
     obtain ⟨g1,g2⟩:=ZhD r (Z2 k t m' s) s' hr (by omega) hnew he2
     exact ⟨g1,by omega⟩
theorem Zl1 {n:Net}:∀(f k:Nat) (s:ESt),Mv2 n s→(Za1 n f k s).code=0→Mv2 n (Za1 n f k s).st
 |0,k,s,h,_=>h
 | f +1,k,s,h,hc=>by
  cases hk:s.marks[k]? with
  |none=>unfold Za1;rw[hk];exact h
  | some m=>
   rw[ZbZ hk] at hc⊢
   have hkl:=Zd hk
   cases hE:Zbz n m k (enL n m) s with
   |bad t s'=>rw[hE] at hc;cases hc
   |full s'=>rw[hE] at hc;cases hc
   | ok s'=>
    rw[hE] at hc
    exact Zl1 f (k+1) s' (ZhD (enL n m) s s' (fun t ht=>ht) hkl h hE).1 hc
theorem ZqT (s:STG) (h:(exP s).2=true):Zod s (exP s).1.marks.length (exP s).1.moves∧s.labels.length≤24∧ZgH s=true:=by
 unfold exP at h⊢
 split
 case isFalse c=>rw[if_neg c] at h;cases h
 rename_i c
 have h1:Mv2 s.net (ZaB s).st:=Zl1 301 0 (ZG s.start) (fun v hv=>by simp[ZG] at hv) c.2
 have h2:s.labels.length=s.net.trans.length:=by have:=c.1;unfold ZgH at this;simp only[Bool.and_eq_true,decide_eq_true_eq] at this;exact this.1.2.2
 have hg:=Zco c.1
 have hle:s.net.trans.length≤24:=by unfold Zj ZaC at hg;simp only[Bool.and_eq_true,decide_eq_true_eq] at hg;omega
 exact ⟨fun v hv=>by obtain ⟨a,b,d⟩:=h1 v hv;exact ⟨a,b,d.1,by omega⟩,by omega,c.1⟩
def clL (s:STG) (n:Nat) (mv:List Mv):Nat→List Sig→List Int
 |_,[]=>[]
 |k,_::r=>(if (l5V s n mv k).isNone=true then [(k:Int)] else [])++clL s n mv (k+1) r
def Zkq (s:STG) (n:Nat) (mv:List Mv) (acc:List Int) (k:Nat) (_:Sig):Sum (List Int) (Option PV):=.inl (acc++if (l5V s n mv k).isNone=true then [(k:Int)] else [])
theorem ZqU (s:STG) (n:Nat) (mv:List Mv) (e:List Int→Option PV):∀(l:List Sig) (k:Nat) (acc:List Int),ZO (R:=PV) (Zkq s n mv) e k acc l=e (acc++clL s n mv k l)
 |[],k,acc=>by simp[ZO,clL]
 | x::r,k,acc=>by
  unfold ZO clL Zkq
  dsimp only
  refine (ZqU s n mv e r (k+1) _).trans ?_
  rw[List.append_assoc]
theorem Zof (s:STG) (ms:List (List UInt8)) (mv:List Mv) (hn:ms.length≤1000) (hm:mv.length≤1000000) (hl:s.labels.length≤1000) (ho:Zod s ms.length mv) (hs:s.signals.length≤1000):
 Zd5 [ZV s,.agg [.lst (ms.map PV.str),.lst (mv.map eMv)]]=some (.lst ((clL s ms.length mv 0 s.signals).map pI)):=by
 show (fun x0 x1=>Zd5 [x0,x1]) _ _=_
 rw[Zne]
 simp only[ZV,List.length_map,ZbF,ZfA,EVS]
 refine (ZT (R:=PV) s.signals (fun (acc:List Int) k=>[.lst (acc.map pI),pI (Int.ofNat k)]) (fun k acc=>acc.length≤k) (Zkq s ms.length mv) (fun acc=>some (.lst (acc.map pI))) _ (by omega) (fun acc k x acc' hi hx he=> ?_) (fun again acc k x hi hx=> ?_) (fun again acc hi=> ?_) (b:=[]) (Nat.zero_le _)).trans ?_
 ·unfold Zkq at he;cases he
  split<;>simp<;>omega
 ·have hk:=Zd hx
  have hi':acc.length≤k:=hi
  have g:=ZhC s ms mv k hn hm hl ho
  simp only[ZV] at g
  have hla:acc.length+[pI (k:Int)].length≤4294967296∧[pI (k:Int)].all (Za4 1)=true:=⟨by simp;omega,rfl⟩
  have hnw:=Zq hk (show s.signals.length≤9223372036854775807 by omega)
  simp only[ZZ hk,g,EVS]
  unfold Zkq
  cases hv:l5V s ms.length mv k with
  |none=>simp only[l5R,Option.isNone_none,if_true,List.length_map,if_pos hla,hnw,List.map_append,List.map_cons,List.map_nil,EVS]
  |some u=>simp only[l5R,Option.isNone_some,Bool.false_eq_true,if_false,List.append_nil,hnw,EVS]
 ·simp only[Zae,EVS]
 ·rw[ZqU];rfl
def isC (s:STG):List Int:=clL s (exP s).1.marks.length (exP s).1.moves 0 s.signals
theorem ZmR {s:STG} (h:ZgH s=true):s.signals.length≤1000:=by
 unfold ZgH at h
 simp only[Bool.and_eq_true,decide_eq_true_eq] at h
 have:=h.1.2.1
 unfold Zgi at this
 simp only[Bool.and_eq_true,decide_eq_true_eq] at this
 have h2:=this.2
 unfold inR at h2
 rw[List.length_map] at h2
 simp only[Bool.and_eq_true,decide_eq_true_eq] at h2
 omega
theorem Zl2 {l:List VA}:∀(f g:Nat) (v:Zy),VOk v.length l→VNo l→Zex v≤f→Zex v≤g→ZcS l (f+1) v=ZcS l (g+1) v
 | f, g,v,ho,hn,hf,hg=>by
  unfold ZcS
  cases h:ZU true l v with
  |none=>rfl
  | some u=>
   obtain ⟨e3,e4⟩:=Zdl ho hn h
   show (if ZcR true l v=true then ZcS l f u else some u)=(if ZcR true l v=true then ZcS l g u else some u)
   rw[Zfx ho hn h]
   rcases e4 with rfl|e4
   ·rw[if_neg (by simp),if_neg (by simp)]
   ·rw[if_pos (by simpa using e4),if_pos (by simpa using e4)]
    cases f with
    |zero=>omega
    | succ f=>
     cases g with
     |zero=>omega
     |succ g=>exact Zl2 f g u (by rw[e3];exact ho) hn (by omega) (by omega)
def Zip (l:List VA) (v:Zy):Option Zy:=ZcS l (v.length+1) v
theorem Zs9 {l:List VA} {v u:Zy} (h:ZU true l v=some u):VNo l:=fun a ha=>by
 by_cases h1:a.e=none
 ·exact .inl h1
 ·right
  intro h2
  rw[Zil ha h1 h2] at h
  cases h
theorem Zta (v:Zy):Zex v≤v.length:=by unfold Zex;exact List.countP_le_length
theorem ZrH {l:List VA} {v:Zy} (h:ZU true l v=none):Zip l v=none:=by unfold Zip ZcS;rw[h];rfl
theorem ZrI {l:List VA} {v u:Zy} (ho:VOk v.length l) (h:ZU true l v=some u):Zip l v=if ZcR true l v=true then Zip l u else some u:=by
 have hn:=Zs9 h
 obtain ⟨e3,e4⟩:=Zdl ho hn h
 have e:Zip l v=if ZcR true l v=true then ZcS l v.length u else some u:=by
  have h0:ZcS l (v.length+1) v=(ZU true l v).bind fun u=>if ZcR true l v=true then ZcS l v.length u else some u:=rfl
  unfold Zip
  rw[h0,h]
  rfl
 rw[e]
 by_cases hm:ZcR true l v=true
 ·rw[if_pos hm,if_pos hm]
  rw[Zfx ho hn h] at hm
  have h5:=of_decide_eq_true hm
  have h6:=Zta v
  obtain ⟨f,hf⟩:∃f,v.length=f+1:=⟨v.length - 1,by omega⟩
  unfold Zip
  rw[hf,e3,hf]
  exact Zl2 f (f+1) u (by rw[e3];exact ho) hn (by omega) (by omega)
 ·rw[if_neg hm,if_neg hm]
theorem whileV {R:Type} (n:Nat) (l:List VA) (z:Option R) (E:Zy→Option R) (enc:Zy→Bool→List PV) (f:(List PV→Option R)→List PV→Option R) (ho:VOk n l) (hn:n≤1000000)
 (h1:∀again v,v.length=n→f again (enc v true)=match ZU true l v with|none=>z|some u=>again (enc u (ZcR true l v)))
 (h2:∀again v,v.length=n→f again (enc v false)=E v) {v:Zy} (hv:v.length=n):Zw f 18446744073709551616 (enc v true)=match Zip l v with|none=>z|some u=>E u:=by
 have key:=Zdo (R:=R) (fun q:{q:Zy×Bool // q.1.length=n}=>enc q.1.1 q.1.2) (fun q=>if q.1.2=true then Zex q.1.1+2 else 1) (fun q=>if q.1.2=true then (match Zip l q.1.1 with|none=>z|some u=>E u) else E q.1.1) f (fun again q ih=> ?_) 18446744073709551616 ⟨(v,true),hv⟩ (by have:=Zta v;simp only[if_true];omega)
 ·simpa using key
 ·obtain ⟨⟨v,ch⟩,hv⟩:=q
  dsimp only at ih hv⊢
  cases ch with
  |false=>simpa using h2 again v hv
  | true=>
   simp only[if_true]
   rw[h1 again v hv]
   have ho':VOk v.length l:=by rw[hv];exact ho
   cases hp:ZU true l v with
   |none=>rw[ZrH hp]
   | some u=>
    have hno:=Zs9 hp
    obtain ⟨e3,e4⟩:=Zdl ho' hno hp
    have hm:=Zfx ho' hno hp
    dsimp only
    rw[ZrI ho' hp]
    cases hb:ZcR true l v with
    | false=>
     have:=ih ⟨(u,false),e3.trans hv⟩ (by simp)
     simpa using this
    | true=>
     rw[hb] at hm
     have h5:Zex u<Zex v:=of_decide_eq_true hm.symm
     have:=ih ⟨(u,true),e3.trans hv⟩ (by simp;exact h5)
     simpa using this
theorem ZrJ {l:List VA} {v:Zy} (ho:VOk v.length l) (hn:0<v.length):Zip l v=ZbI false l (v.length+1) v:=ZtL ho hn
def Ziq {R α:Type} (g:α→VA) (z:Option R) (q:Bool×Zy) (_:Nat) (m:α):Sum (Bool×Zy) (Option R):=match ZX true q.2 (g m) with|none=>.inr z|some u=>.inl (q.1||decide (u≠q.2),u)
theorem ZcU {R α:Type} {g:α→VA} {z:Option R} {q:Bool×Zy} {k:Nat} {m:α} (h:ZX true q.2 (g m)=none):Ziq g z q k m=.inr z:=by unfold Ziq;rw[h]
theorem Zbl {R α:Type} {g:α→VA} {z:Option R} {q:Bool×Zy} {u:Zy} {k:Nat} {m:α} (h:ZX true q.2 (g m)=some u):Ziq g z q k m=.inl (q.1||decide (u≠q.2),u):=by unfold Ziq;rw[h]
theorem ZqV {R:Type} {α:Type} (g:α→VA) (z:Option R) (e:Bool×Zy→Option R):∀(l:List α) (k:Nat) (c:Bool) (v:Zy),ZO (R:=R) (Ziq g z) e k (c,v) l=(match ZU true (l.map g) v with|none=>z|some u=>e (c||ZcR true (l.map g) v,u))
 |[],k,c,v=>by simp[ZO,ZU,ZcR]
 | m::r,k,c,v=>by
  unfold ZO
  simp only[List.map_cons]
  unfold ZU ZcR
  cases h:ZX true v (g m) with
  |none=>rw[ZcU (q:=(c,v)) h];rfl
  | some u=>
   rw[Zbl (q:=(c,v)) h]
   dsimp only
   rw[ZqV g z e r (k+1)]
   show (match ZU true (r.map g) u with|none=>z|some u=>e _)=_
   simp only[Option.bind_some,Bool.or_assoc]
def eLA (s:STG) (m:Mv):PV:=.agg [pI m.from_,pI (Zfd s m.by_).sig,pB (Zfd s m.by_).up,pI m.to]
theorem Zkr {R:Type} {α:Type} (e:List α→Option R):∀(l:List α) (k:Nat) (acc:List α),ZO (R:=R) (fun (acc:List α) _ m=>.inl (acc++[m])) e k acc l=e (acc++l)
 |[],k,acc=>by simp[ZO]
 | m::r,k,acc=>by
  unfold ZO
  dsimp only
  refine (Zkr e r (k+1) _).trans ?_
  rw[List.append_assoc];rfl
theorem spl4a (a b c d x y z w:PV):splice (splice (splice (splice [a,b,c,d] 0 [x]) 1 [y]) 2 [z]) 3 [w]=[x,y,z,w]:=rfl
theorem Zir (s:STG) (ms:List (List UInt8)) (mv:List Mv) (hm:mv.length≤1000000) (ho:Zod s ms.length mv):Zbq [ZV s,.agg [.lst (ms.map PV.str),.lst (mv.map eMv)]]=some (.lst (mv.map (eLA s))):=by
 show (fun x0 x1=>Zbq [x0,x1]) _ _=_
 rw[ZhG]
 simp only[ZV,List.length_map,EVS]
 refine (ZT (R:=PV) mv (fun (acc:List Mv) k=>[.lst (acc.map (eLA s)),pI (Int.ofNat k)]) (fun k acc=>acc.length=k) (fun acc _ m=>.inl (acc++[m])) (fun acc=>some (.lst (acc.map (eLA s)))) _ (by omega) (fun acc k m acc' hi hx he=> ?_) (fun again acc k m hi hx=> ?_) (fun again acc hi=> ?_) (b:=[]) rfl).trans ?_
 ·cases he;simp;exact hi
 ·have hk:=Zd hx
  have hi':acc.length=k:=hi
  have him:Zx (.lst (mv.map eMv)) (.int .i64 (k:Int))=some (eMv m):=Zs hx
  obtain ⟨_,_,b1,b2⟩:=ho m (List.mem_of_getElem? hx)
  obtain ⟨b,hb⟩:∃b:Nat,m.by_=b:=⟨m.by_.toNat,by omega⟩
  obtain ⟨lb,hlb⟩:∃lb,s.labels[b]?=some lb:=⟨s.labels[b]'(by omega),List.getElem?_eq_getElem (by omega)⟩
  have hil:Zx (.lst (s.labels.map eLb)) (.int .i64 (b:Int))=some (eLb lb):=Zs hlb
  have hla:Zfd s m.by_=lb:=by unfold Zfd;rw[hb,Int.toNat_natCast,List.getD_eq_getElem?_getD,hlb];rfl
  have hla2:Zfd s (b:Int)=lb:=by rw[←hb];exact hla
  have hls:acc.length+[PV.agg [pI m.from_,pI lb.sig,pB lb.up,pI m.to]].length≤4294967296∧[PV.agg [pI m.from_,pI lb.sig,pB lb.up,pI m.to]].all (Za4 4)=true:=⟨by simp;omega,rfl⟩
  have hnw:=Zq hk (show mv.length≤9223372036854775807 by omega)
  simp only[ZZ hk,him,eMv,hb,hil,eLb,Zec,ZmN,ZpF,ZdX,Zgk,spl4a,List.length_map,if_pos hls,hnw,List.map_append,List.map_cons,List.map_nil,eLA,hla2,List.drop_zero,EVS]
 ·simp only[Zae,EVS]
 ·rw[Zkr];rfl
def zN :Option Bool→Int
 |none=>0
 |some false=>48
 |some true=>49
def eZ (x:Option Bool):PV:=.int .u8 (zN x)
def fZ :Option Bool→PV
 |some true=>.int .u8 49
 |_=>.int .u8 48
theorem zAt {v:Zy} {k:Nat} (h:k<v.length):(v.map eZ)[k]?=some (.int .u8 (zN (vAt v k))):=by
 rw[List.getElem?_map]
 unfold vAt
 rw[List.getD_eq_getElem?_getD,List.getElem?_eq_getElem h];rfl
theorem elZ {v:Zy} {k:Nat} (h:k<v.length):Zj3 (v.map eZ) (.int .i64 (k:Int))=some (zN (vAt v k)):=by
 show (if (0:Int)≤(k:Int) then ((v.map eZ)[((k:Int)).toNat]?).bind u8n else none)=_
 rw[if_pos (by omega),Int.toNat_natCast,zAt h];rfl
theorem ZmS (v:Zy) (k:Nat) (x:Option Bool):(v.map eZ).set k (eZ x)=(v.set k x).map eZ:=Zf2 eZ v k x
theorem Zks (n:Int):u8n (.int .u8 n)=some n:=rfl
theorem Zkt (a b:Bool) (x y:Int):as4 (.tup [.bool a,.bool b,.int .u8 x,.int .u8 y])=some (a,b,x,y):=rfl
theorem ZpH (a b:Int):Zcy [.bool true,.int .u8 a,.int .u8 b]=some (.tup [.bool (ZfT a b).1,.bool (ZfT a b).2,.int .u8 (ZfU a b).1,.int .u8 (ZfU a b).2]):=rfl
def voR :Option Zy→PV
 |none=>.tup [.lst [],pB false]
 |some u=>.tup [.lst (u.map fZ),pB true]
theorem zRep (n:Nat):List.replicate n (PV.int .u8 0)=(List.replicate n none).map eZ:=by rw[List.map_replicate];rfl
theorem pv_4_4 (a b c d:PV):Zb true 0 4 [a,b,c,d]=some (.agg [a,b,c,d]):=rfl
theorem spl44 (a b c d a' b' c' d':PV):splice [a,b,c,d] 0 [a',b',c',d']=[a',b',c',d']:=rfl
def fil (v:Zy) (k:Nat):List PV:=(v.take k).map fZ++(v.drop k).map eZ
theorem fil_0 (v:Zy):v.map eZ=fil v 0:=by simp[fil]
theorem fil_n (v:Zy):fil v v.length=v.map fZ:=by simp[fil]
theorem ZqW (v:Zy) (k:Nat):(fil v k).length=v.length:=by
 unfold fil
 rw[List.length_append,List.length_map,List.length_map,←List.length_append,List.take_append_drop]
theorem ZmT {v:Zy} {k:Nat} {x:Option Bool} (h:v[k]?=some x):fil v k=(v.take k).map fZ++eZ x::(v.drop (k+1)).map eZ∧fil v (k+1)=(v.take k).map fZ++fZ x::(v.drop (k+1)).map eZ∧((v.take k).map fZ).length=k:=by
 obtain ⟨hk,he⟩:=List.getElem?_eq_some_iff.1 h
 refine ⟨?_, ?_, ?_⟩
 ·unfold fil
  rw[List.drop_eq_getElem_cons hk,he,List.map_cons]
 ·unfold fil
  rw[List.take_add_one,h,Option.toList_some,List.map_append,List.append_assoc]
  rfl
 ·rw[List.length_map,List.length_take];omega
theorem fil_at {v:Zy} {k:Nat} {x:Option Bool} (h:v[k]?=some x):(fil v k)[k]?=some (.int .u8 (zN x)):=by
 obtain ⟨e1,_,e3⟩:=ZmT h
 rw[e1,List.getElem?_append_right (by omega),e3,Nat.sub_self];rfl
theorem ZtO {v:Zy} {k:Nat} {x:Option Bool} (h:v[k]?=some x):(fil v k).set k (fZ x)=fil v (k+1):=by
 obtain ⟨e1,e2,e3⟩:=ZmT h
 rw[e1,e2,List.set_append_right _ _ (by omega),e3,Nat.sub_self];rfl
theorem Zog {v:Zy} {k:Nat} {x:Option Bool} (h:v[k]?=some x) (hx:fZ x=eZ x):fil v (k+1)=fil v k:=by
 obtain ⟨e1,e2,_⟩:=ZmT h
 rw[e1,e2,hx]
theorem ZiW {v:Zy} {k:Nat} (h:vAt v k=none):v.set k none=v:=by
 unfold vAt at h
 by_cases hk:k<v.length
 ·rw[List.getD_eq_getElem?_getD,List.getElem?_eq_getElem hk] at h
  simp only[Option.getD_some] at h
  exact Zj1 (by rw[List.getElem?_eq_getElem hk,h])
 ·exact List.set_eq_of_length_le (by omega)
theorem ZmU {v:Zy} {k:Nat} {x:Bool} (hk:k<v.length) (h:vAt v k=none):decide (v.set k (some x)≠v)=true:=by
 simp only[decide_eq_true_eq]
 intro hc
 have:=ZbX (v:=v) (k:=k) (j:=k) (x:=some x) hk
 rw[hc,h,if_pos rfl] at this
 cases this
theorem Ztb {rk:Kd} {m:Option PV} {r:PV} (h:m=some r) (hs:rk.scv r=true):Zsc rk m=some r:=by
 subst h
 show (if rk.scv r=true then some r else none)=some r
 rw[if_pos hs]
theorem voR_sc (a:Bool) (e:Go.TypeId) (s:Nat) (x:Option Zy):(Kd.grp true [.own a e s,.val]).scv (voR x)=true:=by
 cases x with
 |none=>rfl
 | some u=>
  have h:(u.map fZ).all (fun x=>x.cells.all PV.sc1)=true:=by
   rw[List.all_map]
   exact List.all_eq_true.2 fun x _=>by rcases x with _|⟨_|_⟩<;>rfl
  show ((u.map fZ).all (fun x=>x.cells.all PV.sc1)&&(true&&true))=true
  rw[h];rfl
theorem ZmV (s:STG) (n:Nat) (mv:List Mv) (sig:Int) (hn:n≤1000) (hm:mv.length≤1000000) (hl:s.labels.length≤1000) (ho:Zod s n mv):
 Zb8 [pI n,.lst (mv.map (eLA s)),pI sig]=some (voR (Zip (mv.map (Zdz s sig)) (List.replicate n none))):=by
 have hz:Zad (TI.mk 1 1 (TD.int .u8) [ZC.int .u8] [] false)=.int .u8 0:=rfl
 show (fun x0 x1 x2=>Zb8 [x0,x1,x2]) _ _ _=_
 rw[Zlg]
 refine Ztb ?_ (voR_sc _ _ _ _)
 simp only[ZnG _ _ (show n≤4294967296 by omega),hz,zRep,List.length_map,EVS]
 refine (whileV (R:=PV) n (mv.map (Zdz s sig)) (some (voR none)) (fun u=>some (voR (some u))) (fun v c=>[.lst (v.map eZ),pB c]) _ (fun a ha=> ?_) (by omega) (fun again v hv=> ?_) (fun again v hv=> ?_) (v:=List.replicate n none) (by simp)).trans ?_
 ·obtain ⟨m,hm',rfl⟩:=List.mem_map.1 ha
  obtain ⟨a1,a2,_⟩:=ho m hm'
  unfold Zdz
  exact ⟨by show m.from_.toNat<n;omega,by show m.to.toNat<n;omega⟩
 ·simp only[EVS]
  refine (ZT (R:=PV) mv (fun (q:Bool×Zy) j=>[pB q.1,.lst (q.2.map eZ),pI (Int.ofNat j)]) (fun _ q=>q.2.length=n) (Ziq (Zdz s sig) (some (voR none))) (fun q=>again [.lst (q.2.map eZ),pB q.1]) _ (by omega) (fun q j m q' hi hx he=> ?_) (fun again2 q j m hi hx=> ?_) (fun again2 q hi=> ?_) (b:=(false,v)) hv).trans ?_
  ·cases h:ZX true q.2 (Zdz s sig m) with
   |none=>rw[ZcU h] at he;cases he
   |some u=>rw[Zbl h] at he;cases he;exact (Zin h).trans hi
  ·obtain ⟨ch,v⟩:=q
   dsimp only at hi⊢
   have hj:=Zd hx
   have him:Zx (.lst (mv.map (eLA s))) (.int .i64 (j:Int))=some (eLA s m):=Zs hx
   obtain ⟨⟨f1,f2⟩,⟨t1,t2⟩,_⟩:=ho m (List.mem_of_getElem? hx)
   obtain ⟨f,hf⟩:∃f:Nat,m.from_=f:=⟨m.from_.toNat,by omega⟩
   obtain ⟨t,ht⟩:∃t:Nat,m.to=t:=⟨m.to.toNat,by omega⟩
   obtain ⟨lb,hlb⟩:∃lb,Zfd s m.by_=lb:=⟨_,rfl⟩
   have hva:Zdz s sig m=⟨f,t,if lb.sig=sig then some lb.up else none⟩:=by
    unfold Zdz
    rw[hf,ht,hlb,Int.toNat_natCast,Int.toNat_natCast]
   have hfl:f<v.length:=by omega
   have htl:t<v.length:=by omega
   have hpf:ZR (v.map eZ) (.int .i64 (f:Int))=some (.int .i64 (f:Int)):=Zah (by rw[List.length_map];omega)
   have hpt:ZR (v.map eZ) (.int .i64 (t:Int))=some (.int .i64 (t:Int)):=Zah (by rw[List.length_map];omega)
   have haf:(v.map eZ)[f]?=some (.int .u8 (zN (vAt v f))):=zAt hfl
   have hat:(v.map eZ)[t]?=some (.int .u8 (zN (vAt v t))):=zAt htl
   have elf:Zj3 (v.map eZ) (.int .i64 (f:Int))=some (zN (vAt v f)):=elZ hfl
   have elt:Zj3 (v.map eZ) (.int .i64 (t:Int))=some (zN (vAt v t)):=elZ htl
   have hat2:∀x,((v.set f x).map eZ)[t]?=some (.int .u8 (zN (vAt (v.set f x) t))):=fun x=>zAt (by simp;omega)
   have hpt2:∀x,ZR ((v.set f x).map eZ) (.int .i64 (t:Int))=some (.int .i64 (t:Int)):=fun x=>Zah (by simp;omega)
   have el2:∀x,Zj3 ((v.set f x).map eZ) (.int .i64 (t:Int))=some (zN (vAt (v.set f x) t)):=fun x=>elZ (by simp;omega)
   have s0:(v.map eZ).set f (.int .u8 0)=(v.set f none).map eZ:=ZmS v f none
   have s1:(v.map eZ).set f (.int .u8 48)=(v.set f (some false)).map eZ:=ZmS v f (some false)
   have s2:(v.map eZ).set f (.int .u8 49)=(v.set f (some true)).map eZ:=ZmS v f (some true)
   have r0:∀x,((v.set f x).map eZ).set t (.int .u8 0)=((v.set f x).set t none).map eZ:=fun x=>ZmS _ t none
   have r1:∀x,((v.set f x).map eZ).set t (.int .u8 48)=((v.set f x).set t (some false)).map eZ:=fun x=>ZmS _ t (some false)
   have r2:∀x,((v.set f x).map eZ).set t (.int .u8 49)=((v.set f x).set t (some true)).map eZ:=fun x=>ZmS _ t (some true)
   have st0:(v.map eZ).set t (.int .u8 0)=(v.set t none).map eZ:=ZmS v t none
   have st1:(v.map eZ).set t (.int .u8 48)=(v.set t (some false)).map eZ:=ZmS v t (some false)
   have st2:(v.map eZ).set t (.int .u8 49)=(v.set t (some true)).map eZ:=ZmS v t (some true)
   have lv2:∀(a b:Int) (o:Option (PV×PV×PV)),Za [.int .i64 a,.int .i64 b] o=o:=fun _ _ _=>rfl
   have hnw:=Zq hj (show mv.length≤9223372036854775807 by omega)
   have gb0:ZeR [.bool false]=some (.int .u8 48):=ZqM false
   have gb1:ZeR [.bool true]=some (.int .u8 49):=ZqM true
   simp only[ZZ hj,him,eLA,hf,ht,hlb,pv_4_4,spl44,List.drop_zero,EVS]
   by_cases c:lb.sig=sig
   ·rw [if_pos c] at hva
    have hdc:decide (lb.sig=sig)=true:=by simp[c]
    have hsp:ZX true v (Zdz s sig m)=(if (vAt v f=none∨vAt v f=some (!lb.up))∧(vAt v t=none∨vAt v t=some lb.up)∧(true=true→f≠t) then some ((v.set f (some (!lb.up))).set t (some lb.up)) else none):=by rw[hva];rfl
    by_cases hft:f=t
    ·rw[if_neg (by rintro ⟨_,_,h3⟩;exact h3 rfl hft)] at hsp
     rw[ZcU (q:=(ch,v)) hsp]
     subst hft
     have hv2:∀x,vAt (v.set f x) f=x:=fun x=>by rw[ZbX hfl,if_pos rfl]
     cases cu:lb.up<;>rcases cf:vAt v f with _|⟨_|_⟩<;>
      (rw[cf] at haf elf hat elt;simp only[hdc,lv2,hpf,hpt,haf,hat,elf,elt,hat2,hpt2,el2,hv2,Zfz,s0,s1,s2,st0,st1,st2,r0,r1,r2,ZpH,Zkt,Zks,ZfT,ZfU,zN,hnw,Zfy,PV.parts,Int.reduceEq,decide_true,decide_false,if_true,if_false,List.getElem?_cons_zero,List.getElem?_cons_succ,gb0,gb1,EVS];try rfl)
    ·have hv2:∀x,vAt (v.set f x) t=vAt v t:=fun x=>by rw[ZbX hfl,if_neg (fun hc=>hft hc.symm)]
     have hu1:∀a b,vAt ((v.set f a).set t b) f=a:=fun a b=>by rw[ZbX (by simp;omega),if_neg hft,ZbX hfl,if_pos rfl]
     have hu2:∀a b,vAt ((v.set f a).set t b) t=b:=fun a b=>by rw[ZbX (by simp;omega),if_pos rfl]
     have fl1:vAt v f=none→∀a b:Bool,decide ((v.set f (some a)).set t (some b)≠v)=true:=fun h a b=>by
      simp only[decide_eq_true_eq]
      intro hc
      have:=hu1 (some a) (some b)
      rw[hc,h] at this
      cases this
     have fl2:vAt v t=none→∀a b:Bool,decide ((v.set f (some a)).set t (some b)≠v)=true:=fun h a b=>by
      simp only[decide_eq_true_eq]
      intro hc
      have:=hu2 (some a) (some b)
      rw[hc,h] at this
      cases this
     cases cu:lb.up<;>rw[cu] at hsp<;>rcases cf:vAt v f with _|⟨_|_⟩<;>rcases ct:vAt v t with _|⟨_|_⟩<;>
      (rw[cf,ct] at hsp
       simp[hft] at hsp
       (first|rw[Zbl (q:=(ch,v)) hsp]|rw[ZcU (q:=(ch,v)) hsp])
       (try have g1:=fl1 cf)
       (try have g2:=fl2 ct)
       (try have g3:∀b:Bool,¬v.set t (some b)=v:=fun b hc=>by have:=ZmU (x:=b) htl ct;rw[hc] at this;simp at this)
       (try have i1:=ZcY cf)
       (try have i2:=ZcY ct)
       rw[cf] at haf elf
       rw[ct] at hat elt
       simp only[hdc,lv2,hpf,hpt,haf,hat,elf,elt,hat2,hpt2,el2,hv2,Zfz,s0,s1,s2,st0,st1,st2,r0,r1,r2,ZpH,Zkt,Zks,ZfT,ZfU,zN,hnw,Zfy,PV.parts,Int.reduceEq,decide_true,decide_false,if_true,if_false,List.getElem?_cons_zero,List.getElem?_cons_succ,gb0,gb1,ct,EVS]
       first|rfl|(cases ch<;>first|rfl|(simp[*];done)|(simp[*];rfl)))
   ·rw [if_neg c] at hva
    have hdc:decide (lb.sig=sig)=false:=by simp[c]
    have hsp:ZX true v (Zdz s sig m)=(match vAt v f,vAt v t with
     |some x,some y=>if x=y then some v else none
     |some x,none=>some (v.set t (some x))
     |none,some y=>some (v.set f (some y))
     |none,none=>some v):=by rw[hva];rfl
    rcases cf:vAt v f with _|x<;>rcases ct:vAt v t with _|y<;>rw[cf,ct] at hsp
    ·rw[Zbl (q:=(ch,v)) hsp]
     have n1:=ZiW cf
     have n2:=ZiW ct
     rw[cf] at haf elf
     rw[ct] at hat elt
     simp only[hdc,lv2,hpf,hpt,haf,hat,elf,elt,hat2,hpt2,el2,Zfz,s0,s1,s2,st0,st1,st2,r0,r1,r2,ZpH,Zkt,Zks,ZfT,ZfU,zN,hnw,Zfy,PV.parts,Int.reduceEq,decide_true,decide_false,if_true,if_false,List.getElem?_cons_zero,List.getElem?_cons_succ,n1,n2,EVS]
     cases ch<;>first|(simp;done)|(simp;rfl)
    ·rw[Zbl (q:=(ch,v)) hsp]
     have hne:f≠t:=fun hc=>by rw[hc,ct] at cf;cases cf
     have hid:(v.set f (some y)).set t (some y)=v.set f (some y):=ZcY (by rw[ZbX hfl,if_neg (fun hc=>hne hc.symm)];exact ct)
     have hnew:=ZmU (x:=y) hfl cf
     rw[cf] at haf elf
     rw[ct] at hat elt
     cases y<;>simp only[hdc,lv2,hpf,hpt,haf,hat,elf,elt,hat2,hpt2,el2,Zfz,s0,s1,s2,st0,st1,st2,r0,r1,r2,ZpH,Zkt,Zks,ZfT,ZfU,zN,hnw,Zfy,PV.parts,Int.reduceEq,decide_true,decide_false,if_true,if_false,List.getElem?_cons_zero,List.getElem?_cons_succ,hid,hnew,EVS]<;>cases ch<;>first|(simp;done)|(simp;rfl)
    ·rw[Zbl (q:=(ch,v)) hsp]
     have hid:v.set f (some x)=v:=ZcY cf
     have hnew:=ZmU (x:=x) htl ct
     rw[cf] at haf elf
     rw[ct] at hat elt
     cases x<;>simp only[hdc,lv2,hpf,hpt,haf,hat,elf,elt,hat2,hpt2,el2,Zfz,s0,s1,s2,st0,st1,st2,r0,r1,r2,ZpH,Zkt,Zks,ZfT,ZfU,zN,hnw,Zfy,PV.parts,Int.reduceEq,decide_true,decide_false,if_true,if_false,List.getElem?_cons_zero,List.getElem?_cons_succ,hid,hnew,EVS]<;>cases ch<;>first|(simp;done)|(simp;rfl)
    ·have hid:v.set f (some x)=v:=ZcY cf
     have hid2:v.set t (some y)=v:=ZcY ct
     rw[cf] at haf elf
     rw[ct] at hat elt
     by_cases hxy:x=y
     ·subst hxy
      dsimp only at hsp
      rw[if_pos rfl] at hsp
      rw[Zbl (q:=(ch,v)) hsp]
      cases x<;>simp only[hdc,lv2,hpf,hpt,haf,hat,elf,elt,hat2,hpt2,el2,Zfz,s0,s1,s2,st0,st1,st2,r0,r1,r2,ZpH,Zkt,Zks,ZfT,ZfU,zN,hnw,Zfy,PV.parts,Int.reduceEq,decide_true,decide_false,if_true,if_false,List.getElem?_cons_zero,List.getElem?_cons_succ,hid,hid2,EVS]<;>cases ch<;>first|(simp;done)|(simp;rfl)
     ·dsimp only at hsp
      rw[if_neg hxy] at hsp
      rw[ZcU (q:=(ch,v)) hsp]
      cases x<;>cases y<;>first|exact absurd rfl hxy|(simp only[hdc,lv2,hpf,hpt,haf,hat,elf,elt,hat2,hpt2,el2,Zfz,s0,s1,s2,st0,st1,st2,r0,r1,r2,ZpH,Zkt,Zks,ZfT,ZfU,zN,hnw,Zfy,PV.parts,Int.reduceEq,decide_true,decide_false,if_true,if_false,List.getElem?_cons_zero,List.getElem?_cons_succ,hid,hid2,EVS];try rfl)
  ·simp only[Zae,EVS]
  ·rw[ZqV]
   cases ZU true (mv.map (Zdz s sig)) v with
   |none=>rfl
   |some u=>simp only[Bool.false_or]
 ·simp only[fil_0,ZqW,EVS]
  refine (ZT (R:=PV) v (fun (_:Unit) k=>[.lst (fil v k),pI (Int.ofNat k)]) (fun _ _=>True) (fun _ _ _=>.inl ()) (fun _=>some (voR (some v))) _ (by omega) (fun b k x b' _ _ _=>trivial) (fun again b k x _ hx=> ?_) (fun again b _=> ?_) (b:=()) trivial).trans (ZcT _ _ (fun b k x=>⟨_,rfl⟩) _ _ _)
  ·have hk:=Zd hx
   have hpl:ZR (fil v k) (.int .i64 (k:Int))=some (.int .i64 (k:Int)):=Zah (by rw[ZqW];exact hk)
   have hat:=fil_at hx
   have hnw:=Zq hk (show v.length≤9223372036854775807 by omega)
   rcases x with _|⟨_|_⟩
   ·have hset:(fil v k).set k (.int .u8 48)=fil v (k+1):=ZtO hx
    simp only[ZZ hk,hpl,hat,zN,Zfz,hset,hnw,Int.reduceEq,decide_true,EVS]
   ·have hkp:=Zog hx rfl
    simp only[ZZ hk,hpl,hat,zN,hkp,hnw,Int.reduceEq,decide_false,EVS]
   ·have hkp:=Zog hx rfl
    simp only[ZZ hk,hpl,hat,zN,hkp,hnw,Int.reduceEq,decide_false,EVS]
  ·simp only[Zae,fil_n,EVS]
   rfl
 ·cases Zip (mv.map (Zdz s sig)) (List.replicate n none)<;>rfl
theorem Zku {n:Net}:∀(f k:Nat) (s:ESt),Mv2 n s→(Za1 n f k s).code=0→s.marks.length≤(Za1 n f k s).st.marks.length
 |0,k,s,_,_=>Nat.le_refl _
 | f +1,k,s,h,hc=>by
  cases hk:s.marks[k]? with
  |none=>unfold Za1;rw[hk];exact Nat.le_refl _
  | some m=>
   rw[ZbZ hk] at hc⊢
   have hkl:=Zd hk
   cases hE:Zbz n m k (enL n m) s with
   |bad t s'=>rw[hE] at hc;cases hc
   |full s'=>rw[hE] at hc;cases hc
   | ok s'=>
    rw[hE] at hc
    obtain ⟨g1,g2⟩:=ZhD (enL n m) s s' (fun t ht=>ht) hkl h hE
    exact Nat.le_trans g2 (Zku f (k+1) s' g1 hc)
theorem ZqX (s:STG) (h:(exP s).2=true):0<(exP s).1.marks.length:=by
 unfold exP at h⊢
 split
 case isFalse c=>rw[if_neg c] at h;cases h
 rename_i c
 have:=Zku (n:=s.net) 301 0 (ZG s.start) (fun v hv=>by simp[ZG] at hv) c.2
 have e:(ZG s.start).marks.length=1:=rfl
 rw[e] at this
 exact this
def fB :Option Bool→UInt8
 |some true=>49
 |_=>48
def apB :List (List UInt8)→Zy→List (List UInt8)
 |c::cs,x::xs=>(c++[fB x])::apB cs xs
 |cs,_=>cs
theorem Zc9 :∀(cs:List (List UInt8)) (v:Zy),(apB cs v).length=cs.length
 |[],v=>by cases v<;>rfl
 |c::cs,[]=>rfl
 |c::cs,x::xs=>by simp[apB,Zc9 cs xs]
def ZmW (s:STG) (n:Nat) (mv:List Mv):Nat→List Sig→List (List UInt8)→Option (List (List UInt8))
 |_,[],cs=>some cs
 |k,_::r,cs=>(l5V s n mv k).bind fun v=>ZmW s n mv (k+1) r (apB cs v)
theorem Zl3 (s:STG) (n:Nat) (mv:List Mv):∀(l:List Sig) (k:Nat) (cs:List (List UInt8)),ZmW s n mv k l cs=none↔clL s n mv k l≠[]
 |[],k,cs=>by simp[ZmW,clL]
 | x::r,k,cs=>by
  unfold ZmW clL
  cases h:l5V s n mv k with
  |none=>simp
  | some v=>
   simp only[Option.bind_some,Option.isNone_some,Bool.false_eq_true,if_false,List.nil_append]
   exact Zl3 s n mv r (k+1) _
theorem Ztc :∀(cs:List (List UInt8)) (v:Zy) (k:Nat) (c:List UInt8) (x:Option Bool),cs[k]?=some c→v[k]?=some x→(apB cs v)[k]?=some (c++[fB x])
 |[],v,k,c,x,h,_=>by simp at h
 |a::cs,[],k,c,x,_,h=>by simp at h
 |a::cs,y::v,0,c,x,h,h2=>by simp at h h2;subst h;subst h2;rfl
 | a::cs,y::v,k+1,c,x,h,h2=>by
  simp at h h2
  simpa[apB] using Ztc cs v k c x h h2
def apK (cs:List (List UInt8)) (v:Zy) (k:Nat):List (List UInt8):=(apB cs v).take k++cs.drop k
theorem apK_n (cs:List (List UInt8)) (v:Zy):apK cs v cs.length=apB cs v:=by
 unfold apK
 rw[List.drop_length,List.append_nil,List.take_of_length_le (by rw[Zc9];exact Nat.le_refl _)]
theorem ZqY (cs:List (List UInt8)) (v:Zy) (k:Nat) (h:k≤cs.length):(apK cs v k).length=cs.length:=by
 unfold apK
 rw[List.length_append,List.length_take,List.length_drop,Zc9]
 omega
theorem Ztd {cs:List (List UInt8)} {v:Zy} {k:Nat} {c:List UInt8} (h:cs[k]?=some c):(apK cs v k)[k]?=some c:=by
 have hk:=Zd h
 unfold apK
 rw[List.getElem?_append_right (by rw[List.length_take,Zc9];omega),List.length_take,Zc9,Nat.min_eq_left (by omega),Nat.sub_self,List.getElem?_drop,Nat.add_zero,h]
theorem ZqZ {cs:List (List UInt8)} {v:Zy} {k:Nat} {c:List UInt8} {x:Option Bool} (h:cs[k]?=some c) (hx:v[k]?=some x):(apK cs v k).set k (c++[fB x])=apK cs v (k+1):=by
 have hk:=Zd h
 have hb:=Ztc cs v k c x h hx
 unfold apK
 rw[List.set_append_right _ _ (by rw[List.length_take,Zc9];omega),List.length_take,Zc9,Nat.min_eq_left (by omega),Nat.sub_self,List.drop_eq_getElem_cons hk,List.set_cons_zero,List.take_add_one,hb,Option.toList_some,List.append_assoc]
 rfl
theorem ZmX (s:STG) (n:Nat) (mv:List Mv):∀(l:List Sig) (k:Nat),clL s n mv k l=[]→∀j,j<l.length→∃v,l5V s n mv ((k+j:Nat):Int)=some v
 |[],k,_,j,h=>by simp at h
 | x::r,k,hc,j,h=>by
  unfold clL at hc
  obtain ⟨h1,h2⟩:=List.append_eq_nil_iff.1 hc
  cases j with
  | zero=>
   cases hv:l5V s n mv (k:Int) with
   |none=>rw[hv] at h1;simp at h1
   |some v=>exact ⟨v,rfl⟩
  | succ j=>
   obtain ⟨v,hv⟩:=ZmX s n mv r (k+1) h2 j (by simpa using h)
   exact ⟨v,by rw[show k+(j+1)=k+1+j by omega];exact hv⟩
def vL (s:STG) (n:Nat) (mv:List Mv) (k:Int):Zy:=(l5V s n mv k).getD []
def cdL (s:STG) (n:Nat) (mv:List Mv):Nat→List Sig→List (List UInt8)→List (List UInt8)
 |_,[],cs=>cs
 |k,_::r,cs=>cdL s n mv (k+1) r (apB cs (vL s n mv k))
theorem Zq0 {R:Type} (s:STG) (n:Nat) (mv:List Mv) (e:List (List UInt8)→Option R):∀(l:List Sig) (k:Nat) (cs:List (List UInt8)),ZO (R:=R) (fun (cs:List (List UInt8)) k _=>.inl (apB cs (vL s n mv k))) e k cs l=e (cdL s n mv k l cs)
 |[],k,cs=>rfl
 | x::r,k,cs=>by
  unfold ZO cdL
  dsimp only
  exact Zq0 s n mv e r (k+1) _
theorem Zjp {s:STG} {n:Nat} {mv:List Mv} {k:Int} {v:Zy} (h:l5V s n mv k=some v):v.length=n:=by
 unfold l5V at h
 have key:∀{m:Nat} {u v:Zy} {l:List VA},ZbI false l m u=some v→v.length=u.length:=by
  intro m
  induction m with
  |zero=>intro u v l h;unfold ZbI at h;cases h;rfl
  | succ m ih=>
   intro u v l h
   unfold ZbI at h
   obtain ⟨w,h1,h2⟩:=Option.bind_eq_some_iff.1 h
   exact (ih h2).trans (Zio h1)
 rw[key h,List.length_replicate]
theorem Zq1 :∀{cs:List (List UInt8)} {v:Zy} {k:Nat},v.length=cs.length→(∀c∈cs,c.length=k)→∀c∈apB cs v,c.length=k+1
 |[],v,k,_,_,c,hc=>by cases v<;>cases hc
 |a::cs,[],k,hl,_,c,hc=>by simp at hl
 | a::cs,x::v,k,hl,h,c,hc=>by
  rcases List.mem_cons.1 hc with rfl|hc
  ·simp[h a List.mem_cons_self]
  ·exact Zq1 (by simpa using hl) (fun c hc=>h c (List.mem_cons_of_mem _ hc)) c hc
def CdI (n k:Nat) (cs:List (List UInt8)):Prop:=cs.length=n∧∀c∈cs,c.length=k
theorem CdI.step {n k:Nat} {cs:List (List UInt8)} {v:Zy} (h:CdI n k cs) (hv:v.length=n):CdI n (k+1) (apB cs v):=
 ⟨by rw[Zc9];exact h.1,Zq1 (by rw[h.1];exact hv) h.2⟩
theorem CdI.zero (n:Nat):CdI n 0 (List.replicate n []):=⟨by simp,fun c hc=>by rw[(List.mem_replicate.1 hc).2];rfl⟩
theorem Zoh (a b c x y z:PV):Zhy [a,b,c] 0 (.agg [x,y,z])=some (.agg [x,y,z]):=rfl
theorem splA2 (a b c x y:PV):splice (splice [a,b,c] 0 [x]) 1 [y]=[x,y,c]:=rfl
theorem cut1 {l:List UInt8} {k:Nat} {b:UInt8} (h:l[k]?=some b) (hl:l.length≤9223372036854775807):cutS (.str l) (some (.int .i64 (k:Int))) (some (.int .i64 ((k+1:Nat):Int)))=some (.str [b]):=by
 have hk:=Zd h
 have h1:ZjN l.length (some (.int .i64 ((k+1:Nat):Int)))=some (k+1):=by
  show (if (0:Int)≤((k+1:Nat):Int)∧((k+1:Nat):Int)≤(l.length:Int) then some ((k+1:Nat):Int).toNat else none)=_
  rw[if_pos (by omega),Int.toNat_natCast]
 have h2:Zo6 (k+1) (some (.int .i64 (k:Int)))=some k:=by
  show (if (0:Int)≤(k:Int)∧(k:Int)≤((k+1:Nat):Int) then some ((k:Nat):Int).toNat else none)=_
  rw[if_pos (by omega),Int.toNat_natCast]
 unfold cutS
 simp only[h1,h2,Option.bind_some]
 congr 2
 rw[List.drop_take,show k+1 - k=1 by omega,List.drop_eq_getElem_cons hk]
 have:l[k]=b:=by rw[List.getElem?_eq_getElem hk] at h;simpa using h
 rw[this];rfl
def bsR (s:STG) (mv:List Mv):Option (List (List UInt8))→PV
 |none=>.tup [.agg [.lst [],.lst [],.lst []],pB false]
 |some cs=>.tup [.agg [.lst ((s.signals.map sgP).map Zam),.lst (cs.map PV.str),.lst (mv.map (eLA s))],pB true]
def bsP (s:STG):Option (List (List UInt8)):=
 if (exP s).2=true∧isC s=[]∧(exP s).1.moves.length≤4000 then some (cdL s (exP s).1.marks.length (exP s).1.moves 0 s.signals (List.replicate (exP s).1.marks.length [])) else none
theorem okS2 (l:List (List UInt8×Int)):(l.map Zam).all (Za4 2)=true:=by
 rw[List.all_map]
 exact List.all_eq_true.2 fun x _=>rfl
theorem Zte (c d:List UInt8):ZJ 0 1 [.str c] (.str c) (.str d)=some (.str d):=rfl
theorem d4863 :decide (([48]:List UInt8)=[63])=false:=by decide
theorem d4963 :decide (([49]:List UInt8)=[63])=false:=by decide
theorem ZfB (s:STG) (hs:StgFit s):ZaA [ZV s]=some (bsR s (exP s).1.moves (bsP s)):=by
 have g1:=ZmQ s hs
 simp only[ZV] at g1
 have hln:=ZqS s
 show (fun x0=>ZaA [x0]) _=_
 rw[ZfQ]
 unfold bsP
 cases c:(exP s).2
 ·rw[c] at g1
  simp only[ZV,ZbF,g1,Zgk,EVS]
  simp[bsR]
 ·obtain ⟨h1,h2,h3⟩:=ZqT s c
  have hsg:=ZmR h3
  have g2:=Zof s (exP s).1.marks (exP s).1.moves (by omega) (by omega) (by omega) h1 (ZmR h3)
  simp only[ZV] at g2
  rw[c] at g1
  have e:clL s (exP s).1.marks.length (exP s).1.moves 0 s.signals=isC s:=rfl
  rw[e] at g2
  by_cases c2:isC s=[]
  ·rw [c2] at g2
   by_cases c3:(exP s).1.moves.length≤4000
   ·have hc3:decide ((4000:Int)<((exP s).1.moves.length:Int))=false:=by simp only[decide_eq_false_iff_not];omega
    have h00:decide ((0:Int)<0)=false:=rfl
    have hrep:∀n,List.replicate n (PV.str [])=(List.replicate n ([]:List UInt8)).map PV.str:=fun n=>by rw[List.map_replicate]
    have hz:Zad (TI.mk 1 16 TD.str [ZC.str] [] false)=.str []:=rfl
    have hok:0+s.signals.length≤4294967296∧((s.signals.map sgP).map Zam).all (Za4 2)=true:=⟨by omega,okS2 _⟩
    obtain ⟨n,hne⟩:∃n,(exP s).1.marks.length=n:=⟨_,rfl⟩
    obtain ⟨ms,hms⟩:∃ms,(exP s).1.marks=ms:=⟨_,rfl⟩
    obtain ⟨mv,hmv⟩:∃mv,(exP s).1.moves=mv:=⟨_,rfl⟩
    have g3:∀k:Int,Zbu [ZV s,.agg [.lst (ms.map PV.str),.lst (mv.map eMv)],pI k]=some (l5R (l5V s n mv k)):=fun k=>by
     rw[←hms,←hmv,←hne]
     exact ZhC s (exP s).1.marks (exP s).1.moves k (by omega) (by omega) (by omega) h1
    have hv:∀k,k<s.signals.length→∃v,l5V s n mv (k:Int)=some v:=fun k hk=>by
     obtain ⟨v,hv⟩:=ZmX s n mv s.signals 0 (by rw[←hne,←hmv];exact c2) k hk
     exact ⟨v,by rw[Nat.zero_add] at hv;exact hv⟩
    simp only[ZV] at g3
    rw[hne] at hln h1
    rw[hmv] at c3 hc3 hln h1 g1
    rw[hms] at g1
    simp only[hms] at hne
    simp only[hmv,hms] at g2
    simp only[ZV,ZbF,ZfA,Zec,Zgk,ZdX,splA2,Zoh,g1,g2,c2,c3,hc3,h00,hok,hne,hmv,hms,ZnG _ _ (show n≤4294967296 by omega),hz,hrep,List.map_nil,List.length_nil,List.length_map,List.nil_append,and_self,if_true,EVS]
    refine (ZT (R:=PV) s.signals (fun (cs:List (List UInt8)) k=>[.agg [.lst ((s.signals.map sgP).map Zam),.lst (cs.map PV.str),.lst []],pI (Int.ofNat k)]) (fun k cs=>CdI n k cs) (fun cs k _=>.inl (apB cs (vL s n mv k))) (fun cs=>some (bsR s mv (some cs))) _ (by omega) (fun cs k x cs' hi hx he=> ?_) (fun again cs k x hi hx=> ?_) (fun again cs hi=> ?_) (b:=List.replicate n []) (CdI.zero n)).trans ?_
    ·cases he
     obtain ⟨v,h⟩:=hv k (Zd hx)
     have hve:vL s n mv (k:Int)=v:=by unfold vL;rw[h];rfl
     rw[hve]
     exact hi.step (Zjp h)
    ·have hk:=Zd hx
     obtain ⟨v,hvk⟩:=hv k hk
     have hvl:=Zjp hvk
     have hve:vL s n mv (k:Int)=v:=by unfold vL;rw[hvk];rfl
     have hnw:=Zq hk (show s.signals.length≤9223372036854775807 by omega)
     have g:=g3 k
     rw[hvk] at g
     have hcl:=hi.1
     simp only[ZZ hk,g,l5R,hve,List.length_map,EVS]
     refine (ZT (R:=PV) cs (fun (_:Unit) j=>[.agg [.lst ((s.signals.map sgP).map Zam),.lst ((apK cs v j).map PV.str),.lst []],pI (Int.ofNat j)]) (fun _ _=>True) (fun _ _ _=>.inl ()) (fun _=>again [.agg [.lst ((s.signals.map sgP).map Zam),.lst ((apB cs v).map PV.str),.lst []],pI (Int.ofNat (k+1))]) _ (by omega) (fun b j x b' _ _ _=>trivial) (fun again2 b j c _ hc=> ?_) (fun again2 b _=> ?_) (b:=()) trivial).trans (ZcT _ _ (fun b k x=>⟨_,rfl⟩) _ _ _)
     ·have hj:=Zd hc
      obtain ⟨x,hx2⟩:∃x,v[j]?=some x:=⟨v[j]'(by omega),List.getElem?_eq_getElem _⟩
      have hat:((apK cs v j).map PV.str)[j]?=some (.str c):=by rw[List.getElem?_map,Ztd hc];rfl
      have hpl:ZR ((apK cs v j).map PV.str) (.int .i64 (j:Int))=some (.int .i64 (j:Int)):=Zah (by rw[List.length_map,ZqY _ _ _ (by omega)];exact hj)
      have hst:((apK cs v j).map PV.str).set j (.str (c++[fB x]))=(apK cs v (j+1)).map PV.str:=by rw[Zf2 PV.str,ZqZ hc hx2]
      have hcut:cutS (.str (v.map qB)) (some (.int .i64 (j:Int))) (some (.int .i64 ((j+1:Nat):Int)))=some (.str [qB x]):=cut1 (by rw[List.getElem?_map,hx2];rfl) (by rw[List.length_map];omega)
      have hnj:=Zq hj (show cs.length≤9223372036854775807 by omega)
      have hadd:∀b:UInt8,Ze .add .str (.str c) (.str [b])=some (.str (c++[b])):=fun b=>by
       have:=hi.2 c (List.mem_of_getElem? hc)
       show (if c.length+[b].length≤9223372036854775807 then some (PV.str (c++[b])) else none)=_
       rw[if_pos (by simp;omega)]
      rcases x with _|⟨_|_⟩<;>simp only[fB,qB] at hst hcut<;>
       simp only[ZZ hj,hnj,hcut,hpl,hat,hadd,Zfy,Zte,d4863,d4963,hst,EVS]
     ·simp only[Zae,List.length_map,apK_n,hnw,EVS]
    ·simp only[Zae,List.length_map,EVS]
     refine (ZT (R:=PV) mv (fun (acc:List Mv) k=>[.agg [.lst ((s.signals.map sgP).map Zam),.lst (cs.map PV.str),.lst (acc.map (eLA s))],pI (Int.ofNat k)]) (fun k acc=>acc.length=k) (fun acc _ m=>.inl (acc++[m])) (fun acc=>some (.tup [.agg [.lst ((s.signals.map sgP).map Zam),.lst (cs.map PV.str),.lst (acc.map (eLA s))],pB true])) _ (by omega) (fun acc k m acc' hi hx he=> ?_) (fun again acc k m hi hx=> ?_) (fun again acc hi=> ?_) (b:=[]) rfl).trans ?_
     ·cases he;simp;exact hi
     ·have hk:=Zd hx
      have hi':acc.length=k:=hi
      have him:Zx (.lst (mv.map eMv)) (.int .i64 (k:Int))=some (eMv m):=Zs hx
      obtain ⟨_,_,b1,b2⟩:=h1 m (List.mem_of_getElem? hx)
      obtain ⟨b,hb⟩:∃b:Nat,m.by_=b:=⟨m.by_.toNat,by omega⟩
      obtain ⟨lb,hlb⟩:∃lb,s.labels[b]?=some lb:=⟨s.labels[b]'(by omega),List.getElem?_eq_getElem (by omega)⟩
      have hil:Zx (.lst (s.labels.map eLb)) (.int .i64 (b:Int))=some (eLb lb):=Zs hlb
      have hla:Zfd s m.by_=lb:=by unfold Zfd;rw[hb,Int.toNat_natCast,List.getD_eq_getElem?_getD,hlb];rfl
      have hla2:Zfd s (b:Int)=lb:=by rw[←hb];exact hla
      have hls:acc.length+[PV.agg [pI m.from_,pI lb.sig,pB lb.up,pI m.to]].length≤4294967296∧[PV.agg [pI m.from_,pI lb.sig,pB lb.up,pI m.to]].all (Za4 4)=true:=⟨by simp;omega,rfl⟩
      have hnw:=Zq hk (show mv.length≤9223372036854775807 by omega)
      simp only[ZZ hk,him,eMv,hb,hil,eLb,Zec,ZmN,ZpF,ZdX,Zgk,spl4a,List.length_map,if_pos hls,hnw,List.map_append,List.map_cons,List.map_nil,eLA,hla2,List.drop_zero,EVS]
     ·simp only[Zae,Zec,ZdX,EVS]
     ·rw[Zkr];rfl
    ·rw[Zq0]
   ·have hc3:decide ((4000:Int)<((exP s).1.moves.length:Int))=true:=by simp only[decide_eq_true_eq];omega
    have h00:decide ((0:Int)<0)=false:=rfl
    simp only[ZV,ZbF,ZfA,Zec,Zgk,ZdX,g1,g2,c2,c3,hc3,h00,List.map_nil,List.length_nil,List.length_map,EVS]
    simp[bsR]
  ·have hc:decide ((0:Int)<((isC s).length:Int))=true:=by
    have:=List.length_pos_iff.2 c2
    simp only[decide_eq_true_eq];omega
   simp only[ZV,ZbF,ZfA,Zec,Zgk,ZdX,g1,g2,c2,hc,List.length_map,EVS]
   simp[bsR]
theorem Ztf {s:STG} (h:ZgH s=true):1≤s.signals.length:=by
 unfold ZgH at h
 simp only[Bool.and_eq_true,decide_eq_true_eq] at h
 have:=h.1.2.1
 unfold Zgi at this
 simp only[Bool.and_eq_true,decide_eq_true_eq] at this
 have h2:=this.2
 unfold inR at h2
 rw[List.length_map] at h2
 simp only[Bool.and_eq_true,decide_eq_true_eq] at h2
 omega
theorem ZrK (l:List (List UInt8×Int)) (h1:1≤l.length) (h2:l.length≤1000):Z1 [.lst (l.map Zam)]=some (.lst (l.map Zam)):=by
 have hok:0+l.length≤4294967296∧(l.map Zam).all (Za4 2)=true:=⟨by omega,okS2 _⟩
 have hn:nilV (.lst (l.map Zam)) false=some (.bool false):=by
  cases l with
  |nil=>simp at h1
  |cons a r=>rfl
 show (fun x0=>Z1 [x0]) _=_
 rw[Zee]
 simp only[hn,List.length_map,List.length_nil,hok,and_self,if_true,List.nil_append,EVS]
theorem splA3 (a b c x y z:PV):splice (splice (splice [a,b,c] 0 [x]) 1 [y]) 2 [z]=[x,y,z]:=rfl
def Zis (s:STG) (n:Nat) (mv:List Mv) (z:Option PV) (cs:List (List UInt8)) (k:Nat) (_:Sig):Sum (List (List UInt8)) (Option PV):=match l5V s n mv k with|none=>.inr z|some v=>.inl (apB cs v)
theorem ZfC {s:STG} {n:Nat} {mv:List Mv} {z:Option PV} {cs:List (List UInt8)} {k:Nat} {x:Sig} (h:l5V s n mv k=none):Zis s n mv z cs k x=.inr z:=by unfold Zis;rw[h]
theorem ZfD {s:STG} {n:Nat} {mv:List Mv} {z:Option PV} {cs:List (List UInt8)} {k:Nat} {x:Sig} {v:Zy} (h:l5V s n mv k=some v):Zis s n mv z cs k x=.inl (apB cs v):=by unfold Zis;rw[h]
theorem Zq2 (s:STG) (n:Nat) (mv:List Mv) (z:Option PV) (e:List (List UInt8)→Option PV):∀(l:List Sig) (k:Nat) (cs:List (List UInt8)),ZO (Zis s n mv z) e k cs l=(match ZmW s n mv k l cs with|none=>z|some c=>e c)
 |[],k,cs=>rfl
 | x::r,k,cs=>by
  unfold ZO ZmW
  cases h:l5V s n mv (k:Int) with
  |none=>rw[ZfC h];rfl
  |some v=>rw[ZfD h];exact Zq2 s n mv z e r (k+1) _
theorem Ztg (s:STG) (n:Nat) (mv:List Mv):∀(l:List Sig) (k:Nat) (cs:List (List UInt8)),clL s n mv k l=[]→ZmW s n mv k l cs=some (cdL s n mv k l cs)
 |[],k,cs,_=>rfl
 | x::r,k,cs,h=>by
  obtain ⟨v,hv⟩:=ZmX s n mv (x::r) k h 0 (by simp)
  rw[Nat.add_zero] at hv
  unfold clL at h
  have h2:=(List.append_eq_nil_iff.1 h).2
  unfold ZmW cdL
  have hve:vL s n mv (k:Int)=v:=by unfold vL;rw[hv];rfl
  rw[hv,hve]
  exact Ztg s n mv r (k+1) _ h2
theorem ZfE (s:STG) (hs:StgFit s):Zaz [ZV s]=some (bsR s (exP s).1.moves (bsP s)):=by
 have g1:=ZmP s hs
 simp only[ZV] at g1
 have hln:=ZqS s
 show (fun x0=>Zaz [x0]) _=_
 rw[ZfH]
 unfold bsP
 cases c:(exP s).2
 ·rw[c] at g1
  simp only[ZV,ZbF,g1,Zgk,EVS]
  simp[bsR]
 ·obtain ⟨h1,h2,h3⟩:=ZqT s c
  have hsg:=ZmR h3
  have hpos:=ZqX s c
  rw[c] at g1
  by_cases c3:(exP s).1.moves.length≤4000
  ·have hc3:decide ((4000:Int)<((exP s).1.moves.length:Int))=false:=by simp only[decide_eq_false_iff_not];omega
   have hz:Zad (TI.mk 1 16 TD.str [ZC.str] [] false)=.str []:=rfl
   have hrep:∀n,List.replicate n (PV.str [])=(List.replicate n ([]:List UInt8)).map PV.str:=fun n=>by rw[List.map_replicate]
   have gc:=ZrK (s.signals.map sgP) (by rw[List.length_map];exact Ztf h3) (by rw[List.length_map];exact hsg)
   have g2:=Zir s (exP s).1.marks (exP s).1.moves (by omega) h1
   obtain ⟨n,hne⟩:∃n,(exP s).1.marks.length=n:=⟨_,rfl⟩
   obtain ⟨ms,hms⟩:∃ms,(exP s).1.marks=ms:=⟨_,rfl⟩
   obtain ⟨mv,hmv⟩:∃mv,(exP s).1.moves=mv:=⟨_,rfl⟩
   rw[hne] at hln h1 hpos
   rw[hmv] at c3 hc3 hln h1 g1 g2
   rw[hms] at g1 g2
   simp only[hms] at hne
   have hov:∀k:Int,Zip (mv.map (Zdz s k)) (List.replicate n none)=l5V s n mv k:=fun k=>by
    unfold l5V
    have:=ZrJ (l:=mv.map (Zdz s k)) (v:=List.replicate n none) (fun a ha=>by
     obtain ⟨m,hm',rfl⟩:=List.mem_map.1 ha
     obtain ⟨a1,a2,_⟩:=h1 m hm'
     rw[List.length_replicate]
     unfold Zdz
     exact ⟨by show m.from_.toNat<n;omega,by show m.to.toNat<n;omega⟩) (by rw[List.length_replicate];omega)
    rw[List.length_replicate] at this
    exact this
   have g3:∀k:Int,Zb8 [pI n,.lst (mv.map (eLA s)),pI k]=some (voR (l5V s n mv k)):=fun k=>by
    rw[ZmV s n mv k (by omega) (by omega) (by omega) h1,hov]
   simp only[ZV] at g2
   simp only[ZV,ZbF,ZfA,Zec,Zgk,ZdX,splA3,Zoh,g1,g2,gc,c3,hc3,hne,hmv,hms,ZnG _ _ (show n≤4294967296 by omega),hz,hrep,List.length_map,and_self,if_true,EVS]
   refine (ZT (R:=PV) s.signals (fun (cs:List (List UInt8)) k=>[.agg [.lst ((s.signals.map sgP).map Zam),.lst (cs.map PV.str),.lst (mv.map (eLA s))],pI (Int.ofNat k)]) (fun k cs=>CdI n k cs) (Zis s n mv (some (bsR s mv none))) (fun cs=>some (bsR s mv (some cs))) _ (by omega) (fun cs k x cs' hi hx he=> ?_) (fun again cs k x hi hx=> ?_) (fun again cs hi=> ?_) (b:=List.replicate n []) (CdI.zero n)).trans ?_
   ·cases h:l5V s n mv (k:Int) with
    |none=>rw[ZfC h] at he;cases he
    |some v=>rw[ZfD h] at he;cases he;exact hi.step (Zjp h)
   ·have hk:=Zd hx
    have hnw:=Zq hk (show s.signals.length≤9223372036854775807 by omega)
    have g:=g3 k
    cases hvk:l5V s n mv (k:Int) with
    | none=>
     rw[hvk] at g
     rw[ZfC hvk]
     simp only[ZZ hk,g,voR,List.length_map,ZdX,EVS]
     rfl
    | some v=>
     have hvl:=Zjp hvk
     rw[hvk] at g
     rw[ZfD hvk]
     have hcl:=hi.1
     simp only[ZZ hk,g,voR,List.length_map,EVS]
     refine (ZT (R:=PV) cs (fun (_:Unit) j=>[.agg [.lst ((s.signals.map sgP).map Zam),.lst ((apK cs v j).map PV.str),.lst (mv.map (eLA s))],pI (Int.ofNat j)]) (fun _ _=>True) (fun _ _ _=>.inl ()) (fun _=>again [.agg [.lst ((s.signals.map sgP).map Zam),.lst ((apB cs v).map PV.str),.lst (mv.map (eLA s))],pI (Int.ofNat (k+1))]) _ (by omega) (fun b j x b' _ _ _=>trivial) (fun again2 b j c _ hc=> ?_) (fun again2 b _=> ?_) (b:=()) trivial).trans (ZcT _ _ (fun b k x=>⟨_,rfl⟩) _ _ _)
     ·have hj:=Zd hc
      obtain ⟨x,hx2⟩:∃x,v[j]?=some x:=⟨v[j]'(by omega),List.getElem?_eq_getElem _⟩
      have hat:((apK cs v j).map PV.str)[j]?=some (.str c):=by rw[List.getElem?_map,Ztd hc];rfl
      have hpl:ZR ((apK cs v j).map PV.str) (.int .i64 (j:Int))=some (.int .i64 (j:Int)):=Zah (by rw[List.length_map,ZqY _ _ _ (by omega)];exact hj)
      have hpv:ZR (v.map fZ) (.int .i64 (j:Int))=some (.int .i64 (j:Int)):=Zah (by rw[List.length_map];omega)
      have hav:(v.map fZ)[j]?=some (fZ x):=by rw[List.getElem?_map,hx2];rfl
      have hst:((apK cs v j).map PV.str).set j (.str (c++[fB x]))=(apK cs v (j+1)).map PV.str:=by rw[Zf2 PV.str,ZqZ hc hx2]
      have hnj:=Zq hj (show cs.length≤9223372036854775807 by omega)
      have hadd:∀b:UInt8,Ze .add .str (.str c) (.str [b])=some (.str (c++[b])):=fun b=>by
       have:=hi.2 c (List.mem_of_getElem? hc)
       show (if c.length+[b].length≤9223372036854775807 then some (PV.str (c++[b])) else none)=_
       rw[if_pos (by simp;omega)]
      have b48:Zax [.int .u8 48]=some [48]:=rfl
      have b49:Zax [.int .u8 49]=some [49]:=rfl
      have hlt:decide ((j:Int)<(v.length:Int))=true:=by simp only[decide_eq_true_eq];omega
      rcases x with _|⟨_|_⟩<;>simp only[fB,fZ] at hst hav<;>
       simp only[ZZ hj,hlt,hnj,hpl,hpv,hav,hat,hadd,Zfy,Zte,b48,b49,hst,EVS]
     ·have hge:decide ((cs.length:Int)<(v.length:Int))=false:=by simp only[decide_eq_false_iff_not];omega
      simp only[Zae,hge,List.length_map,apK_n,hnw,EVS]
   ·simp only[Zae,List.length_map,Zec,Zoh,EVS]
    rfl
   ·rw[Zq2]
    have e:isC s=clL s n mv 0 s.signals:=by unfold isC;rw[hms,hmv,hne]
    by_cases c2:isC s=[]
    ·rw[Ztg s n mv s.signals 0 _ (by rw[←e];exact c2),if_pos ⟨trivial,c2,trivial⟩]
    ·have:ZmW s n mv 0 s.signals (List.replicate n [])=none:=(Zl3 s n mv s.signals 0 _).2 (by rw[←e];exact c2)
     rw[this,if_neg (fun hc=>c2 hc.2.1)]
  ·have hc3:decide ((4000:Int)<((exP s).1.moves.length:Int))=true:=by simp only[decide_eq_true_eq];omega
   simp only[ZV,ZbF,ZfA,Zec,Zgk,ZdX,g1,c3,hc3,List.length_map,EVS]
   simp[bsR]
def ZcV (x:Sig):PV:=.agg [.str x.name,pI x.kind]
def eAc (a:Ac):PV:=.agg [pI a.from_,pI a.sig,pB a.up,pI a.to_]
def acOf (s:STG) (m:Mv):Ac:=⟨m.from_,(Zfd s m.by_).sig,(Zfd s m.by_).up,m.to⟩
def bgP (s:STG):SGr×Bool:=match bsP s with
 |some cs=>(⟨s.signals,cs,(exP s).1.moves.map (acOf s)⟩,true)
 |none=>(⟨[],[],[]⟩,false)
theorem ZuB (s:STG):bsR s (exP s).1.moves (bsP s)=.tup [.agg [.lst ((bgP s).1.signals.map ZcV),.lst ((bgP s).1.codes.map PV.str),.lst ((bgP s).1.arcs.map eAc)],pB (bgP s).2]:=by
 unfold bgP
 cases bsP s with
 |none=>rfl
 | some cs=>
  simp only[bsR,List.map_map]
  rfl
theorem ZuC (s:STG) (hs:StgFit s):ZaA [ZV s]=some (.tup [.agg [.lst ((bgP s).1.signals.map ZcV),.lst ((bgP s).1.codes.map PV.str),.lst ((bgP s).1.arcs.map eAc)],pB (bgP s).2]):=by
 rw[ZfB s hs,ZuB]
theorem ZuD (s:STG) (hs:StgFit s):Zaz [ZV s]=some (.tup [.agg [.lst ((bgP s).1.signals.map ZcV),.lst ((bgP s).1.codes.map PV.str),.lst ((bgP s).1.arcs.map eAc)],pB (bgP s).2]):=by
 rw[ZfE s hs,ZuB]
theorem Zue (s:STG) (n:Nat) (mv:List Mv):∀(l:List Sig) (k:Nat) (cs:List (List UInt8)),(∀j,j<l.length→∃v,l5V s n mv ((k+j:Nat):Int)=some v)→CdI n k cs→CdI n (k+l.length) (cdL s n mv k l cs)
 |[],k,cs,_,h=>h
 | x::r,k,cs,hv,h=>by
  obtain ⟨v,h0⟩:=hv 0 (by simp)
  rw[Nat.add_zero] at h0
  have hve:vL s n mv (k:Int)=v:=by unfold vL;rw[h0];rfl
  unfold cdL
  rw[hve,List.length_cons,show k+(r.length+1)=k+1+r.length by omega]
  exact Zue s n mv r (k+1) _ (fun j hj=>by
   obtain ⟨w,hw⟩:=hv (j+1) (by simpa using hj)
   exact ⟨w,by rw[show k+1+j=k+(j+1) by omega];exact hw⟩) (h.step (Zjp h0))
theorem Ztt (s:STG):((bgP s).1.signals.length≤1000∧∀x∈(bgP s).1.signals,x∈s.signals∧1≤x.kind∧x.kind≤3)∧((bgP s).1.codes.length≤300∧∀x∈(bgP s).1.codes,x.length≤1000)∧(bgP s).1.arcs.length≤100000∧∀x∈(bgP s).1.arcs,(0≤x.from_∧x.from_≤300)∧(-1≤x.sig∧x.sig≤1000)∧0≤x.to_∧x.to_≤300:=by
 unfold bgP
 cases h:bsP s with
 |none=>simp
 | some cs=>
  dsimp only
  unfold bsP at h
  split at h
  case isFalse=>cases h
  rename_i hc
  cases h
  obtain ⟨h1,h2,h3⟩:=ZqT s hc.1
  have hsg:=ZmR h3
  have hln:=ZqS s
  have hcd:=Zue s (exP s).1.marks.length (exP s).1.moves s.signals 0 _ (ZmX s _ _ s.signals 0 hc.2.1) (CdI.zero _)
  refine ⟨⟨hsg,fun x hx=>⟨hx, ?_⟩⟩,⟨by rw[hcd.1];exact hln.1,fun x hx=>by rw[hcd.2 x hx];omega⟩,by rw[List.length_map];exact hln.2,fun x hx=> ?_⟩
  ·unfold ZgH at h3
   simp only[Bool.and_eq_true,decide_eq_true_eq] at h3
   have:=h3.1.2.1
   unfold Zgi at this
   simp only[Bool.and_eq_true] at this
   obtain ⟨k,hk⟩:=List.getElem?_of_mem (List.mem_map.2 ⟨x,hx,rfl⟩:sgP x∈s.signals.map sgP)
   have h4:=Zud _ _ _ this.1 k _ hk
   unfold ZlM inR at h4
   simp only[Bool.and_eq_true,decide_eq_true_eq] at h4
   exact h4.1.2
  ·obtain ⟨m,hm,rfl⟩:=List.mem_map.1 hx
   obtain ⟨a,b,d1,d2⟩:=h1 m hm
   refine ⟨⟨a.1, ?_⟩, ?_,b.1, ?_⟩
   ·show m.from_≤300;omega
   ·obtain ⟨t,ht⟩:∃t:Nat,m.by_=t:=⟨m.by_.toNat,by omega⟩
    obtain ⟨lb,hlb⟩:∃lb,s.labels[t]?=some lb:=⟨s.labels[t]'(by omega),List.getElem?_eq_getElem (by omega)⟩
    have hla:Zfd s m.by_=lb:=by unfold Zfd;rw[ht,Int.toNat_natCast,List.getD_eq_getElem?_getD,hlb];rfl
    show -1≤(Zfd s m.by_).sig∧(Zfd s m.by_).sig≤1000
    rw[hla]
    unfold ZgH at h3
    simp only[Bool.and_eq_true,decide_eq_true_eq] at h3
    have:=List.all_eq_true.1 h3.2 lb (List.mem_of_getElem? hlb)
    unfold Zii inB at this
    simp only[Bool.and_eq_true,Bool.or_eq_true,decide_eq_true_eq] at this
    omega
   ·show m.to≤300;omega
theorem ZuQ (s:STG):(bgP s).1.signals.length≤1000∧(bgP s).1.codes.length≤300∧(bgP s).1.arcs.length≤100000:=⟨(Ztt s).1.1,(Ztt s).2.1.1,(Ztt s).2.2.1⟩
end Go.Proofs.Ythobodfbjjjiiaa
