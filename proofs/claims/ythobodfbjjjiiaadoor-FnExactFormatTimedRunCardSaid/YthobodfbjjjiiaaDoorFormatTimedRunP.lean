import Derived.Test.YthobodfbjjjiiaaDoorFormatTimedRunF
import Derived.Test.YthobodfbjjjiiaaDoorData
namespace Go.Proofs.YthobodfbjjjiiaaDoor
open Go.RowKit
set_option linter.unusedVariables false
set_option linter.unusedSimpArgs false
theorem Zkq (n lo hi:Int):Zdk [pI n,pI lo,pI hi]=some (pB (decide (lo≤n)&&decide (n≤hi))):=by
 show (fun x0 x1 x2=>Zdk [x0,x1,x2]) _ _ _=_
 rw[Zjf]
 by_cases h:lo≤n<;>simp only[h,EVS]
theorem ZK {α:Type} {l:List α} {k:Nat} {x:α} (h:l[k]?=some x):k<l.length:=(List.getElem?_eq_some_iff.1 h).1
theorem ZcL {k n:Nat} (h:k<n) (hn:n≤9223372036854775807):IntKind.i64.wrap ((k:Int)+1)=((k+1:Nat):Int):=by rw[ZdY (by omega) (by omega)];omega
theorem ZeO {k n:Nat} (h:k<n):decide ((k:Int)<(n:Int))=true:=by simpa using h
theorem ge_d {n:Nat}:decide ((n:Int)<(n:Int))=false:=by simp
def inR (n lo hi:Int):Bool:=decide (lo≤n)&&decide (n≤hi)
abbrev Zg8 {α:Type} (l:List α):Prop:=l.length≤9223372036854775807
theorem ZhT (n lo hi:Int):ZbF [pI n,pI lo,pI hi]=some (pB (inR n lo hi)):=by
 show (fun x0 x1 x2=>ZbF [x0,x1,x2]) _ _ _=_
 rw[Zhe]
 unfold inR
 by_cases h:lo≤n<;>simp only[h,EVS]
theorem u8_dec :∀d:Fin 10,IntKind.u8.wrap (IntKind.i64.wrap (48+(d.1:Int)))=((UInt8.ofNat (48+d.1)).toNat:Int):=by decide
theorem dgt (d:Nat) (h:d<10):Zfp IntKind.u8 (.int .i64 (IntKind.i64.wrap (48+(d:Int))))=some (pU (UInt8.ofNat (48+d))):=congrArg (fun n=>some (PV.int .u8 n)) (u8_dec ⟨d,h⟩)
theorem quo10 (u:Nat) (h:u≤9223372036854775807):Zg .quo (TD.int .i64) (pI (u:Int)) (pI 10)=some (pI ((u / 10:Nat):Int)):=by
 show (if (10:Int)=0 then none else some (PV.int .i64 (IntKind.i64.wrap ((u:Int).tdiv 10))))=_
 have e:(u:Int).tdiv 10=((u / 10:Nat):Int):=rfl
 rw[if_neg (by omega),e,ZdY (by omega) (by omega)]
theorem rem10 (u:Nat):Zg .rem (TD.int .i64) (pI (u:Int)) (pI 10)=some (pI ((u % 10:Nat):Int)):=by
 show (if (10:Int)=0 then none else some (PV.int .i64 ((u:Int).tmod 10)))=_
 have e:(u:Int).tmod 10=((u % 10:Nat):Int):=rfl
 rw[if_neg (by omega),e]
theorem Zgb :∀(f u:Nat),u<10 ^ f→(Lib.decDigits u).length≤f+1
 | 0,u,h=>by
  have:u=0:=by simpa using h
  subst this
  rw[Lib.decDigits_one (by omega)];simp
 | f+1,u,h=>by
  by_cases c:u<10
  ·rw[Lib.decDigits_one c];simp
  ·rw[Lib.decDigits,dif_neg c,List.length_append]
   have:10 ^ (f+1)=10 * 10 ^ f:=by rw[Nat.pow_succ,Nat.mul_comm]
   have:=Zgb f (u / 10) (by omega)
   simp only[List.length_cons,List.length_nil];omega
theorem num_n (k:Nat):∀(f u:Nat),u<10 ^ (f+1)→u≤100000000→Zap (f+k+1) [pI (u:Int)]=some (.str (Lib.decDigits u)):=by
 intro f
 induction f with
 | zero=>
  intro u h _
  show (fun x0=>Zap (0+k+1) [x0]) _=_
  rw[ZeS]
  have hu:u<10:=by simpa using h
  have c:decide ((u:Int)<10)=true:=by simp;omega
  have g:=dgt u hu
  simp only[c,g,EVS]
  rw[Lib.decDigits_one hu]
 | succ f ih=>
  intro u h hu
  have hp:10 ^ (f+1+1)=10 * 10 ^ (f+1):=by rw[Nat.pow_succ,Nat.mul_comm]
  show (fun x0=>Zap (f+1+k+1) [x0]) _=_
  rw[ZeS,show f+1+k=f+k+1 by omega]
  by_cases c0:u<10
  ·have c:decide ((u:Int)<10)=true:=by simp;omega
   have g:=dgt u c0
   simp only[c,g,EVS]
   rw[Lib.decDigits_one c0]
  ·have c:decide ((u:Int)<10)=false:=by simp;omega
   have q:=quo10 u (by omega)
   have r:=rem10 u
   have g:=dgt (u % 10) (by omega)
   have i1:=ih (u / 10) (by omega) (by omega)
   have hl:=Zgb 8 (u / 10) (by omega)
   have ha:Zg .add TD.str (.str (Lib.decDigits (u / 10))) (.str [UInt8.ofNat (48+u % 10)])=some (.str (Lib.decDigits (u / 10)++[UInt8.ofNat (48+u % 10)])):=Zba (by simp;omega)
   simp only[c,q,r,g,i1,ha,EVS]
   rw[Lib.decDigits.eq_1 u,dif_neg c0]
theorem Zfy (u:Nat) (h:u≤9999999):Zcb [pI (u:Int)]=some (.str (Lib.itoa (u:Int))):=by
 rw[Lib.itoa,if_neg (by omega),Int.toNat_natCast]
 exact num_n 57 6 u (by omega) (by omega)
theorem Zg9 (u:Nat) (h:u≤9999999):ZD [pI (u:Int)]=some (.str (Lib.itoa (u:Int))):=if_pos (by omega)
theorem Zca (u:Nat) (h:u≤9999999):(Lib.itoa (u:Int)).length≤8:=by
 rw[Lib.itoa,if_neg (by omega),Int.toNat_natCast]
 exact Zgb 7 u (by omega)
def eTF (x:TF):PV:=.agg [pI x.at_,pI x.t]
theorem Zgc (a b c d:PV):splice [a,b] 0 [c,d]=[c,d]:=rfl
theorem ZiC {k:Nat} (h:0<k) (hk:k≤9223372036854775807):IntKind.i64.wrap ((k:Int) - 1)=((k - 1:Nat):Int):=by rw[ZdY (by omega) (by omega)];omega
def Zha (run:List TF) (k:Nat) (x:TF):Bool:=decide (0≤x.at_)&&(decide (k=0)||decide ((run.getD (k - 1) ⟨0,0⟩).at_≤x.at_))
def tmP (run:List TF):Bool:=ZdQ (Zha run) 0 run&&decide (run.length≤60)
theorem Zgd (run:List TF) (hl:Zg8 run):ZaN [.lst (run.map eTF)]=some (pB (tmP run)):=by
 unfold Zg8 at hl
 show (fun x0=>ZaN [x0]) _=_
 rw[Zfc]
 simp only[EVS]
 refine (congrArg (fun m:Option PV=>m.bind fun r=>if r.sc=true then some r else none) (Zek (R:=PV) run (Zha run) (some (pB false)) (some (pB (decide (run.length≤60)))) _ hl (fun again k x hx=> ?_) (fun again=> ?_))).trans ?_
 ·have hk:=ZK hx
  have hi:ZaW (.lst (run.map eTF)) (.int .i64 (k:Int))=some (eTF x):=Za3 hx
  have hnw:=ZcL hk hl
  simp only[ZeO hk,hi,eTF,Zgc,EVS]
  unfold Zha
  by_cases c1:x.at_<0
  ·have c1':decide (0≤x.at_)=false:=by simp only[decide_eq_false_iff_not];omega
   simp only[c1,c1',EVS]
  ·have c1':decide (0≤x.at_)=true:=by simp only[decide_eq_true_eq];omega
   by_cases c2:0<k
   ·obtain ⟨y,hy⟩:∃y,run[k - 1]?=some y:=⟨run[k - 1]'(by omega),List.getElem?_eq_getElem (by omega)⟩
    have hj:ZaW (.lst (run.map eTF)) (.int .i64 ((k - 1:Nat):Int))=some (eTF y):=Za3 hy
    have hd:decide ((0:Int)<(k:Int))=true:=by simpa using c2
    have hk0:decide (k=0)=false:=by simp only[decide_eq_false_iff_not];omega
    have hg:run.getD (k - 1) ⟨0,0⟩=y:=by rw[List.getD_eq_getElem?_getD,hy];rfl
    by_cases c3:x.at_<y.at_
    ·have c3':decide (y.at_≤x.at_)=false:=by simp only[decide_eq_false_iff_not];omega
     simp only[c1,c1',hd,hk0,hg,hj,eTF,ZiC c2 (by omega),c3,c3',List.drop_zero,EVS]
    ·have c3':decide (y.at_≤x.at_)=true:=by simp only[decide_eq_true_eq];omega
     simp only[c1,c1',hd,hk0,hg,hj,eTF,ZiC c2 (by omega),c3,c3',hnw,List.drop_zero,EVS]
   ·have hd:decide ((0:Int)<(k:Int))=false:=by simp only[decide_eq_false_iff_not];omega
    have hk0:decide (k=0)=true:=by simp only[decide_eq_true_eq];omega
    simp only[c1,c1',hd,hk0,hnw,EVS]
 ·have hd:decide ((run.length:Int)≤60)=decide (run.length≤60):=by rw[Bool.eq_iff_iff];simp only[decide_eq_true_eq];omega
  simp only[ge_d,hd,EVS]
 ·unfold tmP
  cases ZdQ (Zha run) 0 run<;>simp only[EVS]
theorem Zge (run:List TF) (hl:Zg8 run):ZaO [.lst (run.map eTF)]=some (pB (tmP run)):=by
 unfold Zg8 at hl
 show (fun x0=>ZaO [x0]) _=_
 rw[Zfe]
 simp only[EVS]
 refine (congrArg (fun m:Option PV=>m.bind fun r=>if r.sc=true then some r else none) (Zek (R:=PV) run (Zha run) (some (pB false)) (some (pB (decide (run.length≤60)))) _ hl (fun again k x hx=> ?_) (fun again=> ?_))).trans ?_
 ·have hk:=ZK hx
  have hi:ZaW (.lst (run.map eTF)) (.int .i64 (k:Int))=some (eTF x):=Za3 hx
  have hnw:=ZcL hk hl
  simp only[ZeO hk,hi,eTF,Zgc,EVS]
  unfold Zha
  by_cases c1:x.at_<0
  ·have c1':decide (0≤x.at_)=false:=by simp only[decide_eq_false_iff_not];omega
   simp only[c1,c1',EVS]
  ·have c1':decide (0≤x.at_)=true:=by simp only[decide_eq_true_eq];omega
   by_cases c2:0<k
   ·obtain ⟨y,hy⟩:∃y,run[k - 1]?=some y:=⟨run[k - 1]'(by omega),List.getElem?_eq_getElem (by omega)⟩
    have hj:ZaW (.lst (run.map eTF)) (.int .i64 ((k - 1:Nat):Int))=some (eTF y):=Za3 hy
    have hd:decide ((0:Int)<(k:Int))=true:=by simpa using c2
    have hk0:decide (k=0)=false:=by simp only[decide_eq_false_iff_not];omega
    have hg:run.getD (k - 1) ⟨0,0⟩=y:=by rw[List.getD_eq_getElem?_getD,hy];rfl
    by_cases c3:x.at_<y.at_
    ·have c3':decide (y.at_≤x.at_)=false:=by simp only[decide_eq_false_iff_not];omega
     simp only[c1,c1',hd,hk0,hg,hj,eTF,ZiC c2 (by omega),c3,c3',List.drop_zero,EVS]
    ·have c3':decide (y.at_≤x.at_)=true:=by simp only[decide_eq_true_eq];omega
     simp only[c1,c1',hd,hk0,hg,hj,eTF,ZiC c2 (by omega),c3,c3',hnw,List.drop_zero,EVS]
   ·have hd:decide ((0:Int)<(k:Int))=false:=by simp only[decide_eq_false_iff_not];omega
    have hk0:decide (k=0)=true:=by simp only[decide_eq_true_eq];omega
    simp only[c1,c1',hd,hk0,hnw,EVS]
 ·have hd:decide ((run.length:Int)≤60)=decide (run.length≤60):=by rw[Bool.eq_iff_iff];simp only[decide_eq_true_eq];omega
  simp only[ge_d,hd,EVS]
 ·unfold tmP
  cases ZdQ (Zha run) 0 run<;>simp only[EVS]
def Zcd (x:TF):Bool:=inR x.t 0 23&&decide (x.at_≤999999)
def wd (x:TF):List UInt8:=64::(Lib.itoa x.at_++32::Lib.itoa x.t)
def ftP (run:List TF):List UInt8×Bool:=if tmP run=true∧run.all Zcd=true then (Lib.join (run.map wd) [59,32],true) else ([],false)
theorem Zjd (sep:List UInt8) (l:List (List UInt8)) (x:List UInt8):Lib.join (l++[x]) sep=match l with|[]=>x|_=>Lib.join l sep++sep++x:=by
 cases l with
 |nil=>simp[Lib.join_one]
 | cons a r=>
  simp only[List.cons_append,Lib.join_cons,Lib.joinTail,List.map_append,List.flatten_append,List.map_cons,List.map_nil,List.flatten_cons,List.flatten_nil,List.append_nil,List.append_assoc]
theorem Zhb (l:List (List UInt8)) (h:∀x∈l,x.length≤18):(Lib.join l [59,32]).length≤20 * l.length:=by
 cases l with
 |nil=>simp[Lib.join_nil]
 | cons a r=>
  rw[Lib.join_cons]
  have h1:=h a List.mem_cons_self
  have h2:(Lib.joinTail [59,32] r).length≤20 * r.length:=by
   have hr:∀x∈r,x.length≤18:=fun x hx=>h x (List.mem_cons_of_mem _ hx)
   clear h
   induction r with
   |nil=>simp[Lib.joinTail]
   | cons b r ih=>
    have:=ih fun x hx=>hr x (List.mem_cons_of_mem _ hx)
    have hb:=hr b List.mem_cons_self
    unfold Lib.joinTail at this⊢
    simp only[List.map_cons,List.flatten_cons,List.length_append,List.length_cons,List.length_nil] at this⊢
    omega
  simp only[List.length_append,List.length_cons]
  omega
theorem Zgf {R:Type} (z:Option R) (e:List (List UInt8)→Option R):∀(l:List TF) (k:Nat) (acc:List (List UInt8)),ZcB (R:=R) (fun acc _ f=>if Zcd f=true then .inl (acc++[wd f]) else .inr z) e k acc l=if l.all Zcd=true then e (acc++l.map wd) else z
 |[],k,acc=>by simp[ZcB]
 | f::r,k,acc=>by
  unfold ZcB
  cases h:Zcd f
  ·simp[h]
  ·simp only[if_true,List.all_cons,h,Bool.true_and,List.map_cons]
   rw[Zgf z e r (k+1) (acc++[wd f]),List.append_assoc]
   rfl
theorem ZiD {run:List TF} (h:tmP run=true) {k:Nat} {x:TF} (hx:run[k]?=some x):0≤x.at_:=by
 unfold tmP at h
 rw[Bool.and_eq_true] at h
 have:∀(l:List TF) (q:Nat→TF→Bool) (j:Nat),ZdQ q j l=true→∀(i:Nat) (x:TF),l[i]?=some x→q (j+i) x=true:=by
  intro l q
  induction l with
  |nil=>intro j _ i x hx;simp at hx
  | cons y r ih=>
   intro j h i x hx
   unfold ZdQ at h
   rw[Bool.and_eq_true] at h
   cases i with
   |zero=>simp at hx;subst hx;simpa using h.1
   | succ i=>
    have:=ih (j+1) h.2 i x (by simpa using hx)
    rw[show j+(i+1)=j+1+i by omega]
    exact this
 have:=this run _ 0 h.1 k x hx
 unfold Zha at this
 rw[Bool.and_eq_true,decide_eq_true_eq] at this
 exact this.1
theorem Zkr {x:TF} (h0:0≤x.at_) (h:Zcd x=true):(wd x).length≤18:=by
 unfold Zcd inR at h
 simp only[Bool.and_eq_true,decide_eq_true_eq] at h
 obtain ⟨a,ha⟩:∃a:Nat,x.at_=a:=⟨x.at_.toNat,by omega⟩
 obtain ⟨t,ht⟩:∃a:Nat,x.t=a:=⟨x.t.toNat,by omega⟩
 have:=Zca a (by omega)
 have:=Zca t (by omega)
 unfold wd
 rw[ha,ht]
 simp only[List.length_cons,List.length_append]
 omega
theorem ZiE {x:TF} (h0:0≤x.at_) (h:Zcd x=true):∃a t:Nat,x=⟨(a:Int),(t:Int)⟩∧a≤999999∧t≤23:=by
 unfold Zcd inR at h
 simp only[Bool.and_eq_true,decide_eq_true_eq] at h
 obtain ⟨at_,t⟩:=x
 dsimp only at h h0
 exact ⟨at_.toNat,t.toNat,by rw[Int.toNat_of_nonneg h0,Int.toNat_of_nonneg h.1.1],by omega,by omega⟩
theorem wd_eq (a t:Nat):wd ⟨(a:Int),(t:Int)⟩=[(64:UInt8)]++Lib.itoa (a:Int)++[32]++Lib.itoa (t:Int):=by
 unfold wd;simp
theorem Zce (run:List TF) (hl:Zg8 run):ZM [.lst (run.map eTF)]=some (.tup [.str (ftP run).1,pB (ftP run).2]):=by
 have g1:=Zgd run hl
 unfold Zg8 at hl
 show (fun x0=>ZM [x0]) _=_
 rw[Zcl]
 unfold ftP
 simp only[g1,List.length_map,EVS]
 cases c0:tmP run
 ·simp only[Bool.false_eq_true,false_and,if_false,EVS]
  rfl
 simp only[EVS]
 have h60:run.length≤60:=by
  unfold tmP at c0
  rw[Bool.and_eq_true,decide_eq_true_eq] at c0
  exact c0.2
 refine (congrArg (fun m:Option PV=>m.bind fun r=>if r.sc=true then some r else none) ((ZgG (R:=PV) run (fun (acc:List (List UInt8)) i=>[.str (Lib.join acc [59,32]),pI (Int.ofNat i)]) (fun i acc=>acc.length=i∧∀x∈acc,x.length≤18) (fun (acc:List (List UInt8)) _ f=>if Zcd f=true then .inl (acc++[wd f]) else .inr (some (.tup [.str [],pB false]))) (fun l=>some (.tup [.str (Lib.join l [59,32]),pB true])) _ (by omega) (fun acc i x acc' hi hf he=> ?_) (fun again acc i x hi hf=> ?_) (fun again acc hi=> ?_) (b:=[]) ⟨rfl,by simp⟩).trans (Zgf _ _ _ _ _))).trans ?_
 ·split at he
  ·rename_i hw
   cases he
   refine ⟨by simp[hi.1],fun y hy=> ?_⟩
   rcases List.mem_append.1 hy with hy|hy
   ·exact hi.2 y hy
   ·rw[List.mem_singleton] at hy;subst hy;exact Zkr (ZiD c0 hf) hw
  ·cases he
 ·have hk:=ZK hf
  have hix:ZaW (.lst (run.map eTF)) (.int .i64 (i:Int))=some (eTF x):=Za3 hf
  have g:=Zkq x.t 0 23
  have gi:inR x.t 0 23=(decide ((0:Int)≤x.t)&&decide (x.t≤23)):=rfl
  rw[←gi] at g
  have hd:decide (999999<x.at_)= !decide (x.at_≤999999):=by rw[Bool.eq_iff_iff];simp
  have hwd:Zcd x=(inR x.t 0 23&&decide (x.at_≤999999)):=rfl
  cases c1:inR x.t 0 23
  ·rw[hwd,c1,Bool.false_and]
   simp only[ZeO hk,hix,eTF,Zgc,g,c1,Bool.false_eq_true,if_false,EVS]
  cases c2:decide (x.at_≤999999)
  ·rw[hwd,c1,c2]
   simp only[ZeO hk,hix,eTF,Zgc,g,c1,hd,c2,Bool.and_false,Bool.false_eq_true,if_false,EVS]
  have hok:Zcd x=true:=by rw[hwd,c1,c2];rfl
  obtain ⟨a,t,rfl,ha,ht⟩:=ZiE (ZiD c0 hf) hok
  dsimp only at g hd c1 c2
  rw[hok,if_pos rfl,wd_eq]
  have n1:=Zfy a (by omega)
  have n2:=Zfy t (by omega)
  have l1:=Zca a (by omega)
  have l2:=Zca t (by omega)
  have hjn:=Zjd [59,32] acc ([(64:UInt8)]++Lib.itoa (a:Int)++[32]++Lib.itoa (t:Int))
  have hjl:=Zhb acc hi.2
  have a1:Zg .add TD.str (.str [64]) (.str (Lib.itoa (a:Int)))=some (.str ([(64:UInt8)]++Lib.itoa (a:Int))):=Zba (by simp;omega)
  have a2:Zg .add TD.str (.str ([(64:UInt8)]++Lib.itoa (a:Int))) (.str [32])=some (.str ([(64:UInt8)]++Lib.itoa (a:Int)++[32])):=Zba (by simp;omega)
  have a3:Zg .add TD.str (.str ([(64:UInt8)]++Lib.itoa (a:Int)++[32])) (.str (Lib.itoa (t:Int)))=some (.str ([(64:UInt8)]++Lib.itoa (a:Int)++[32]++Lib.itoa (t:Int))):=Zba (by simp;omega)
  cases acc with
  | nil=>
   have hi0:i=0:=hi.1.symm
   subst hi0
   have a4:Zg .add TD.str (.str []) (.str ([(64:UInt8)]++Lib.itoa (a:Int)++[32]++Lib.itoa (t:Int)))=some (.str ([(64:UInt8)]++Lib.itoa (a:Int)++[32]++Lib.itoa (t:Int))):=Zba (by simp;omega)
   have hgt:decide ((0:Int)<(0:Int))=false:=rfl
   have hnx:=ZcL hk hl
   have hl0:=ZeO hk
   simp only[Int.natCast_zero] at hl0 hnx hix
   simp only[hl0,hnx,hix,eTF,Zgc,g,c1,hd,c2,hgt,n1,n2,Lib.join_nil,a1,a2,a3,a4,List.nil_append,Lib.join_one,EVS]
  | cons b acc=>
   have hi1:0<i:=by have:=hi.1;simp at this;omega
   have hgt:decide ((0:Int)<(i:Int))=true:=by simpa using hi1
   have hil:acc.length≤100:=by have:=hi.1;simp at this;omega
   have b1:Zg .add TD.str (.str (Lib.join (b::acc) [59,32])) (.str [59,32])=some (.str (Lib.join (b::acc) [59,32]++[59,32])):=Zba (by simp at hjl⊢;omega)
   have b2:Zg .add TD.str (.str (Lib.join (b::acc) [59,32]++[59,32])) (.str ([(64:UInt8)]++Lib.itoa (a:Int)++[32]++Lib.itoa (t:Int)))=some (.str (Lib.join (b::acc) [59,32]++[59,32]++([(64:UInt8)]++Lib.itoa (a:Int)++[32]++Lib.itoa (t:Int)))):=Zba (by simp at hjl⊢;omega)
   dsimp only at hjn
   simp only[ZeO hk,ZcL hk hl,hix,eTF,Zgc,g,c1,hd,c2,hgt,n1,n2,a1,a2,a3,b1,b2,hjn,EVS]
 ·simp only[ge_d,EVS]
 ·simp only[List.nil_append,true_and]
  cases run.all Zcd<;>simp only[Bool.false_eq_true,if_false,if_true,EVS]<;>rfl
theorem ZkN (acc:List (List UInt8)) (hn:acc.length≤60) (hi:∀x∈acc,x.length≤18):Z0 [.lst (acc.map PV.str),.str [59,32]]=some (.str (Lib.join acc [59,32])):=by
 have hj:=Zhb acc hi
 show (match ZcS (acc.map PV.str) with
  |some xs=>if xs.length≤140737488355328∧(Lib.join xs [59,32]).length≤140737488355328 then some (PV.str (Lib.join xs [59,32])) else none
  |none=>none)=_
 rw[ZeT]
 show (if _ then _ else _)=_
 rw[if_pos ⟨by omega,by omega⟩]
theorem Zcf (run:List TF) (hl:Zg8 run):ZN [.lst (run.map eTF)]=some (.tup [.str (ftP run).1,pB (ftP run).2]):=by
 have g1:=Zge run hl
 unfold Zg8 at hl
 show (fun x0=>ZN [x0]) _=_
 rw[Zcn]
 unfold ftP
 simp only[g1,List.length_map,EVS]
 cases c0:tmP run
 ·simp only[Bool.false_eq_true,false_and,if_false,EVS]
  rfl
 simp only[EVS]
 have h60:run.length≤60:=by
  unfold tmP at c0
  rw[Bool.and_eq_true,decide_eq_true_eq] at c0
  exact c0.2
 refine (congrArg (fun m:Option PV=>m.bind fun r=>if r.sc=true then some r else none) ((ZgG (R:=PV) run (fun (acc:List (List UInt8)) i=>[.lst (acc.map PV.str),pI (Int.ofNat i)]) (fun i acc=>acc.length=i∧∀x∈acc,x.length≤18) (fun (acc:List (List UInt8)) _ f=>if Zcd f=true then .inl (acc++[wd f]) else .inr (some (.tup [.str [],pB false]))) (fun l=>some (.tup [.str (Lib.join l [59,32]),pB true])) _ (by omega) (fun acc i x acc' hi hf he=> ?_) (fun again acc i x hi hf=> ?_) (fun again acc hi=> ?_) (b:=[]) ⟨rfl,by simp⟩).trans (Zgf _ _ _ _ _))).trans ?_
 ·split at he
  ·rename_i hw
   cases he
   refine ⟨by simp[hi.1],fun y hy=> ?_⟩
   rcases List.mem_append.1 hy with hy|hy
   ·exact hi.2 y hy
   ·rw[List.mem_singleton] at hy;subst hy;exact Zkr (ZiD c0 hf) hw
  ·cases he
 ·have hk:=ZK hf
  have hix:ZaW (.lst (run.map eTF)) (.int .i64 (i:Int))=some (eTF x):=Za3 hf
  have g:=ZhT x.t 0 23
  have hd:decide (999999<x.at_)= !decide (x.at_≤999999):=by rw[Bool.eq_iff_iff];simp
  have hwd:Zcd x=(inR x.t 0 23&&decide (x.at_≤999999)):=rfl
  cases c1:inR x.t 0 23
  ·rw[hwd,c1,Bool.false_and]
   simp only[ZeO hk,hix,eTF,Zgc,g,c1,Bool.false_eq_true,if_false,EVS]
  cases c2:decide (x.at_≤999999)
  ·rw[hwd,c1,c2]
   simp only[ZeO hk,hix,eTF,Zgc,g,c1,hd,c2,Bool.and_false,Bool.false_eq_true,if_false,EVS]
  have hok:Zcd x=true:=by rw[hwd,c1,c2];rfl
  obtain ⟨a,t,rfl,ha,ht⟩:=ZiE (ZiD c0 hf) hok
  dsimp only at g hd c1 c2
  rw[hok,if_pos rfl,wd_eq]
  have n1:=Zg9 a (by omega)
  have n2:=Zg9 t (by omega)
  have l1:=Zca a (by omega)
  have l2:=Zca t (by omega)
  have a1:Zg .add TD.str (.str [64]) (.str (Lib.itoa (a:Int)))=some (.str ([(64:UInt8)]++Lib.itoa (a:Int))):=Zba (by simp;omega)
  have a2:Zg .add TD.str (.str ([(64:UInt8)]++Lib.itoa (a:Int))) (.str [32])=some (.str ([(64:UInt8)]++Lib.itoa (a:Int)++[32])):=Zba (by simp;omega)
  have a3:Zg .add TD.str (.str ([(64:UInt8)]++Lib.itoa (a:Int)++[32])) (.str (Lib.itoa (t:Int)))=some (.str ([(64:UInt8)]++Lib.itoa (a:Int)++[32]++Lib.itoa (t:Int))):=Zba (by simp;omega)
  obtain ⟨W,hW⟩:∃W,[(64:UInt8)]++Lib.itoa (a:Int)++[32]++Lib.itoa (t:Int)=W:=⟨_,rfl⟩
  rw[hW] at a3⊢
  have hla:acc.length+[PV.str W].length≤4294967296∧[PV.str W].all (Zc3 1)=true:=⟨by simp;omega,rfl⟩
  have hps:acc.map PV.str++[PV.str W]=(acc++[W]).map PV.str:=by simp
  simp only[ZeO hk,ZcL hk hl,hix,eTF,Zgc,g,c1,hd,c2,n1,n2,a1,a2,a3,List.length_map,EVS]
  have hif:(if acc.length+[PV.str W].length≤4294967296∧[PV.str W].all (Zc3 1)=true then some (PV.lst (acc.map PV.str++[PV.str W])) else none)=some (PV.lst ((acc++[W]).map PV.str)):=by rw[if_pos hla,hps]
  exact congrArg (fun m:Option PV=>(m.bind fun x=>some x).bind fun x=>again [x,PV.int IntKind.i64 ((i+1:Nat):Int)]) hif
 ·have hj:=ZkN acc (by have:=hi.1;omega) hi.2
  simp only[ge_d,EVS]
  exact congrArg (Option.map fun x=>PV.tup [x,pB true]) hj
 ·simp only[List.nil_append,true_and]
  cases run.all Zcd<;>simp only[Bool.false_eq_true,if_false,if_true,EVS]<;>rfl
theorem ZeP (a:TF):ZS [eTF a]=some (eTF a):=by
 show (fun x0=>ZS [x0]) _=_
 rw[ZcO]
 simp only[eTF,EVS]
theorem ZeQ (a:TF):ZT [eTF a,eTF a]=some (pB true):=by
 show (fun x0 x1=>ZT [x0,x1]) _ _=_
 rw[ZcR]
 simp only[eTF,beq_self_eq_true,EVS]
theorem ZdT (xs:List (TF)) (l:Int) (hb:(xs).length≤9223372036854775807) (h0:0≤l) (h1:l≤1048576):ZbL (ZL [.lst (xs.map eTF),pI l]) l ((xs).length≤1048576):=by
 have hx:xs.length≤9223372036854775807:=hb
 show ZbL ((fun x0 x1=>ZL [x0,x1]) _ _) _ _
 rw[Zch]
 have w1:IntKind.i64.wrap (l - (xs.length:Int))=l - (xs.length:Int):=ZdY (by omega) (by omega)
 simp only[w1,List.length_map,EVS]
 by_cases c:l - (xs.length:Int)<0
 ·simp only[c,EVS];exact ZbL.neg h0
 ·simp only[c,EVS];exact ZbL.pos (by omega) (by omega)
theorem ZdU (xs:List (TF)) (hb:(xs).length≤1048576):Zo [.lst (xs.map eTF)]=some (.lst (xs.map eTF)):=by
 have hx:xs.length≤1048576:=hb
 show (fun x0=>Zo [x0]) _=_
 rw[Zcj]
 simp only[mk_v _ _ (show xs.length≤4294967296 by omega),List.length_map,EVS]
 refine toLoop xs eTF 2 _ _ (by omega) ?_ (fun _=> ?_) (fun _=> ?_) (fun again k x row el hk hl he hs=> ?_) (fun again row=> ?_)
 ·rfl
 ·rfl
 ·exact ⟨fun _=>⟨_,rfl⟩,fun _=>⟨_,rfl⟩⟩
 ·have hi:ZaW (.lst (xs.map eTF)) (.int .i64 (k:Int))=some ((eTF x)):=Za3 hk
  have hkr:k<row.length:=by rw[hl];exact ZK hk
  have g1:=ZeP x
  simp only[eTF] at g1 hi hs
  simp only[eTF,ZeO (ZK hk),ZcL (ZK hk) (show xs.length≤9223372036854775807 by omega),hi,g1,plc_at hkr,he,hs,EVS]
 ·simp only[ge_d,EVS]
theorem ZdV (xs:List (TF)) (hb:(xs).length≤9223372036854775807):ZO [.lst (xs.map eTF),.lst (xs.map eTF)]=some (pB true):=by
 have hx:xs.length≤9223372036854775807:=hb
 show (fun x0 x1=>ZO [x0,x1]) _ _=_
 rw[Zcp]
 simp only[List.length_map,EVS]
 refine (congrArg (fun m:Option PV=>m.bind fun r=>if r.sc=true then some r else none) (Zek (R:=PV) xs (fun _ _=>true) (some (pB false)) (some (pB true)) _ hx (fun again k x hk=> ?_) (fun again=> ?_))).trans ?_
 ·have hi:ZaW (.lst (xs.map eTF)) (.int .i64 (k:Int))=some ((eTF x)):=Za3 hk
  have g1:=ZeQ x
  simp only[eTF] at g1 hi
  simp only[ZeO (ZK hk),ZcL (ZK hk) hx,hi,g1,EVS]
 ·simp only[ge_d,EVS]
 ·rw[show ZdQ (fun (_:Nat) (_:TF)=>true) 0 xs=true from Zfl xs 0];rfl
theorem ZcM (run:List TF) (hb:run.length≤9223372036854775807):Zm [.lst (run.map eTF)]=some (pB true):=by
 have a1:=Zce run hb
 have a2:=Zcf run hb
 have a3:=ZdV run hb
 obtain ⟨r,a4,_,hz⟩:=ZdT run 1048576 hb (by omega) (by omega)
 show (fun x0=>Zm [x0]) _=_
 rw[ZaZ]
 simp only[a4,EVS]
 by_cases c2:r<0<;>simp only[c2,EVS]
 have a5:=ZdU run (hz (by omega))
 simp only[a1,a2,a3,a5,beq_self_eq_true,EVS]
end Go.Proofs.YthobodfbjjjiiaaDoor
