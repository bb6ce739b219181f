namespace Go.Proofs.YtkgnjijonikchaaGreat
set_option linter.unusedVariables false
set_option linter.unusedSimpArgs false
inductive Walk (es:List (Nat×Nat)) (s:Nat):Nat→Nat→Prop
 |zero:Walk es s 0 s
 |step {d x y:Nat} (h:Walk es s d x) (he:(x,y)∈es):Walk es s (d+1) y
structure IsDist (n:Nat) (es:List (Nat×Nat)) (s:Nat) (out:List Int):Prop where
 len:out.length=n
 ge:∀x,x<n→ -1≤out.getD x (-1)
 way:∀x,x<n→0≤out.getD x (-1)→Walk es s (out.getD x (-1)).toNat x
 least:∀d x,Walk es s d x→x<n→0≤out.getD x (-1)∧out.getD x (-1)≤d
 small:∀x,x<n→out.getD x (-1)<n
theorem ZhP {l:List Int} {y:Nat} {d:Int} (h:y<l.length):(l.set y d).getD y (-1)=d:=by simp[List.getD_eq_getElem?_getD,List.getElem?_set,h]
theorem getD_set_ne {l:List Int} {x y:Nat} {d:Int} (h:x≠y):(l.set y d).getD x (-1)=l.getD x (-1):=by simp[List.getD_eq_getElem?_getD,List.getElem?_set,Ne.symm h]
theorem Zol :∀(n:Nat) (q:List Nat),q.Nodup→(∀x∈q,x<n)→q.length≤n
 | 0,q,_,h=>by
  cases q with
  |nil=>simp
  |cons a r=>exact absurd (h a (by simp)) (by omega)
 | n+1,q,hq,h=>by
  have h1:=Zol n (q.erase n) (hq.erase n) (fun x hx=>by
   have h2:=(List.Nodup.mem_erase_iff hq).1 hx
   have:=h x h2.2
   have h3:=h2.1
   omega)
  rw[List.length_erase] at h1
  split at h1<;>omega
def Zby (es:List (Nat×Nat)) (x:Nat):List Nat:=(es.filter (fun e=>decide (e.1=x))).map (·.2)
theorem ZkE {es:List (Nat×Nat)} {x y:Nat}:y∈Zby es x↔(x,y)∈es:=by
 unfold Zby
 simp only[List.mem_map,List.mem_filter,decide_eq_true_eq]
 constructor
 ·rintro ⟨⟨a,b⟩,⟨h,rfl⟩,rfl⟩;exact h
 ·intro h;exact ⟨(x,y),⟨h,rfl⟩,rfl⟩
def relax (d:Int):List Nat→List Int→List Nat→List Int×List Nat
 |[],out,q=>(out,q)
 |y::r,out,q=>if out.getD y (-1)<0 then relax d r (out.set y d) (q++[y]) else relax d r out q
def ZnN (es:List (Nat×Nat)):Nat→Nat→List Int→List Nat→List Int
 |0,_,out,_=>out
 | f+1,at_,out,q=>match q[at_]? with
  |none=>out
  |some x=>ZnN es f (at_+1) (relax (out.getD x (-1)+1) (Zby es x) out q).1 (relax (out.getD x (-1)+1) (Zby es x) out q).2
def Zdr (n:Nat) (es:List (Nat×Nat)) (s:Nat):List Int:=ZnN es (n+1) 0 ((List.replicate n (-1)).set s 0) [s]
structure Bi (n:Nat) (es:List (Nat×Nat)) (s:Nat) (at_:Nat) (out:List Int) (q:List Nat):Prop where
 len:out.length=n
 qlt:∀x∈q,x<n
 nd:q.Nodup
 pos:∀x,x<n→(0≤out.getD x (-1)↔x∈q)
 ge:∀x,x<n→ -1≤out.getD x (-1)
 walk:∀x∈q,Walk es s (out.getD x (-1)).toNat x
 mono:∀(i j x y:Nat),i≤j→q[i]?=some x→q[j]?=some y→out.getD x (-1)≤out.getD y (-1)
 close:∀y∈q,∀x:Nat,q[at_]?=some x→out.getD y (-1)≤out.getD x (-1)+1
 edges:∀(i x:Nat),i<at_→q[i]?=some x→∀y,(x,y)∈es→y∈q∧out.getD y (-1)≤out.getD x (-1)+1
 first:s∈q∧out.getD s (-1)=0
 bnd:∀(i x:Nat),q[i]?=some x→out.getD x (-1)≤i
theorem Bi.relax {n:Nat} {es:List (Nat×Nat)} {s at_ x:Nat} (hes:∀e∈es,e.2<n):∀(r:List Nat) (out:List Int) (q:List Nat),Bi n es s at_ out q→q[at_]?=some x→(∀y∈r,(x,y)∈es)→
 (∀y,(x,y)∈es→y∉r→y∈q∧out.getD y (-1)≤out.getD x (-1)+1)→
 ∃out' q',relax (out.getD x (-1)+1) r out q=(out',q')∧Bi n es s (at_+1) out' q'∧q'[at_]?=some x
 | [],out,q,h,hx,_,hd=>by
  refine ⟨out,q,rfl,⟨h.len,h.qlt,h.nd,h.pos,h.ge,h.walk,h.mono,fun y hy x' hx'=> ?_,fun i x' hi hx' y hy=> ?_,h.first,h.bnd⟩,hx⟩
  ·have h1:=h.close y hy x hx
   have h2:=h.mono at_ (at_+1) x x' (by omega) hx hx'
   omega
  ·by_cases c:i<at_
   ·exact h.edges i x' c hx' y hy
   ·obtain rfl:i=at_:=by omega
    rw[hx] at hx';cases hx'
    exact hd y hy (by simp)
 | y ::r,out,q,h,hx,hr,hd=>by
  have hxq:x∈q:=List.mem_of_getElem? hx
  have hy:=hr y (by simp)
  have hyn:y<n:=hes _ hy
  have hxn:=h.qlt x hxq
  have hx0:=(h.pos x hxn).2 hxq
  unfold Go.Proofs.YtkgnjijonikchaaGreat.relax
  by_cases c:out.getD y (-1)<0
  ·rw [if_pos c]
   have hyq:y∉q:=fun hm=>by have:=(h.pos y hyn).2 hm;omega
   have hxy:x≠y:=fun e=>hyq (e▸hxq)
   have hyl:y<out.length:=by rw[h.len];exact hyn
   have ex:(out.set y (out.getD x (-1)+1)).getD x (-1)=out.getD x (-1):=getD_set_ne hxy
   have ey:(out.set y (out.getD x (-1)+1)).getD y (-1)=out.getD x (-1)+1:=ZhP hyl
   have en:∀z,z≠y→(out.set y (out.getD x (-1)+1)).getD z (-1)=out.getD z (-1):=fun z hz=>getD_set_ne hz
   have eq':∀z∈q,(out.set y (out.getD x (-1)+1)).getD z (-1)=out.getD z (-1):=fun z hz=>en z (fun e=>hyq (e▸hz))
   have hx':(q++[y])[at_]?=some x:=by rw[List.getElem?_append_left (List.getElem?_eq_some_iff.1 hx).1,hx]
   have hat:=(List.getElem?_eq_some_iff.1 hx).1
   have key:=Bi.relax (s:=s) hes r (out.set y (out.getD x (-1)+1)) (q++[y]) ⟨by simp[h.len],fun z hz=> ?_, ?_,fun z hz=> ?_,fun z hz=> ?_,fun z hz=> ?_,fun i j a b hij ha hb=> ?_,fun z hz x' hx2=> ?_,fun i x' hi hx2 z hz=> ?_, ?_,fun i z hz=> ?_⟩ hx' (fun z hz=>hr z (by simp[hz])) (fun z hz hzr=> ?_)
   ·rw[ex] at key;exact key
   ·rcases List.mem_append.1 hz with hz|hz
    ·exact h.qlt z hz
    ·rw[List.mem_singleton] at hz;subst hz;exact hyn
   ·rw[List.nodup_append]
    exact ⟨h.nd,by simp,fun a ha b hb e=>by rw[List.mem_singleton] at hb;subst hb;exact hyq (e▸ha)⟩
   ·by_cases e:z=y
    ·subst e;rw[ey];exact ⟨fun _=>by simp,fun _=>by omega⟩
    ·rw[en z e,h.pos z hz];simp[e]
   ·by_cases e:z=y
    ·subst e;rw[ey];omega
    ·rw[en z e];exact h.ge z hz
   ·rcases List.mem_append.1 hz with hz|hz
    ·rw[eq' z hz];exact h.walk z hz
    ·rw[List.mem_singleton] at hz;subst hz
     rw[ey,show (out.getD x (-1)+1).toNat=(out.getD x (-1)).toNat+1 by omega]
     exact Walk.step (h.walk x hxq) hy
   ·by_cases ci:i<q.length
    ·rw[List.getElem?_append_left ci] at ha
     rw[eq' a (List.mem_of_getElem? ha)]
     by_cases cj:j<q.length
     ·rw[List.getElem?_append_left cj] at hb
      rw[eq' b (List.mem_of_getElem? hb)]
      exact h.mono i j a b hij ha hb
     ·rw[List.getElem?_append_right (by omega)] at hb
      have:j - q.length=0:=by have:=(List.getElem?_eq_some_iff.1 hb).1;simp at this;omega
      rw[this] at hb;cases hb
      rw[ey]
      exact h.close a (List.mem_of_getElem? ha) x hx
    ·rw[List.getElem?_append_right (by omega)] at ha hb
     have h1:i - q.length=0:=by have:=(List.getElem?_eq_some_iff.1 ha).1;simp at this;omega
     have h2:j - q.length=0:=by have:=(List.getElem?_eq_some_iff.1 hb).1;simp at this;omega
     rw[h1] at ha;rw[h2] at hb;cases ha;cases hb;omega
   ·rw[hx'] at hx2;cases hx2
    rw[ex]
    rcases List.mem_append.1 hz with hz|hz
    ·rw[eq' z hz];exact h.close z hz x hx
    ·rw[List.mem_singleton] at hz;subst hz;rw[ey];omega
   ·rw[List.getElem?_append_left (by omega)] at hx2
    obtain ⟨k1,k2⟩:=h.edges i x' hi hx2 z hz
    rw[eq' z k1,eq' x' (List.mem_of_getElem? hx2)]
    exact ⟨by simp[k1],k2⟩
   ·refine ⟨by simp[h.first.1], ?_⟩
    rw[eq' s h.first.1];exact h.first.2
   ·by_cases ci:i<q.length
    ·rw[List.getElem?_append_left ci] at hz
     rw[eq' z (List.mem_of_getElem? hz)]
     exact h.bnd i z hz
    ·rw[List.getElem?_append_right (by omega)] at hz
     have h1:i - q.length=0:=by have:=(List.getElem?_eq_some_iff.1 hz).1;simp at this;omega
     rw[h1] at hz;cases hz
     rw[ey]
     have:=h.bnd at_ x hx
     omega
   ·rw[ex]
    by_cases e:z=y
    ·subst e;rw[ey];exact ⟨by simp,by omega⟩
    ·obtain ⟨k1,k2⟩:=hd z hz (by simp[e,hzr])
     rw[en z e];exact ⟨by simp[k1],k2⟩
  ·rw[if_neg c]
   refine Bi.relax hes r out q h hx (fun z hz=>hr z (by simp[hz])) (fun z hz hzr=> ?_)
   by_cases e:z=y
   ·subst e
    have hyq:=(h.pos z hyn).1 (by omega)
    exact ⟨hyq,h.close z hyq x hx⟩
   ·exact hd z hz (by simp[e,hzr])
theorem Bi.qlen {n:Nat} {es:List (Nat×Nat)} {s at_:Nat} {out:List Int} {q:List Nat} (h:Bi n es s at_ out q):q.length≤n:=Zol n q h.nd h.qlt
theorem Bi.step {n:Nat} {es:List (Nat×Nat)} {s at_ x:Nat} {out:List Int} {q:List Nat} (hes:∀e∈es,e.2<n) (h:Bi n es s at_ out q) (hx:q[at_]?=some x):
 Bi n es s (at_+1) (Go.Proofs.YtkgnjijonikchaaGreat.relax (out.getD x (-1)+1) (Zby es x) out q).1 (Go.Proofs.YtkgnjijonikchaaGreat.relax (out.getD x (-1)+1) (Zby es x) out q).2:=by
 obtain ⟨o,q',e,k,_⟩:=Bi.relax hes (Zby es x) out q h hx (fun y hy=>ZkE.1 hy) (fun y hy hn=>absurd (ZkE.2 hy) hn)
 rw[e];exact k
theorem Zom {n:Nat} {es:List (Nat×Nat)} {s:Nat} (hes:∀e∈es,e.1<n∧e.2<n):∀(f at_:Nat) (out:List Int) (q:List Nat),Bi n es s at_ out q→n+1≤at_+f→IsDist n es s (ZnN es f at_ out q)
 | 0,at_,out,q,h,hf=>by
  have hq:=h.qlen
  exact fin h (by omega)
 | f+1,at_,out,q,h,hf=>by
  unfold ZnN
  cases hx:q[at_]? with
  |none=>exact fin h (by rw[List.getElem?_eq_none_iff] at hx;exact hx)
  |some x=>exact Zom hes f (at_+1) _ _ (h.step (fun e he=>(hes e he).2) hx) (by omega)
where
 fin {at_:Nat} {out:List Int} {q:List Nat} (h:Bi n es s at_ out q) (hl:q.length≤at_):IsDist n es s out:=by
  have key:∀d x,Walk es s d x→x∈q∧out.getD x (-1)≤d:=by
   intro d x w
   induction w with
   |zero=>exact ⟨h.first.1,by rw[h.first.2];omega⟩
   | step w he ih=>
    obtain ⟨i,hi⟩:=List.getElem?_of_mem ih.1
    have hil:=(List.getElem?_eq_some_iff.1 hi).1
    obtain ⟨k1,k2⟩:=h.edges i _ (by omega) hi _ he
    exact ⟨k1,by have:=ih.2;omega⟩
  refine ⟨h.len,h.ge,fun x hx h0=>h.walk x ((h.pos x hx).1 h0),fun d x w hx=> ?_,fun x hx=> ?_⟩
  ·obtain ⟨k1,k2⟩:=key d x w
   exact ⟨(h.pos x hx).2 k1,k2⟩
  ·by_cases c:0≤out.getD x (-1)
   ·obtain ⟨i,hi⟩:=List.getElem?_of_mem ((h.pos x hx).1 c)
    have h1:=h.bnd i x hi
    have h2:=(List.getElem?_eq_some_iff.1 hi).1
    have:=h.qlen
    omega
   ·omega
theorem Zrq {n:Nat} {es:List (Nat×Nat)} {s:Nat} (hs:s<n):Bi n es s 0 ((List.replicate n (-1)).set s 0) [s]:=by
 have e1:((List.replicate n (-1:Int)).set s 0).getD s (-1)=0:=ZhP (by simpa using hs)
 have e2:∀x,x≠s→((List.replicate n (-1:Int)).set s 0).getD x (-1)= -1:=fun x hx=>by
  rw[getD_set_ne hx,List.getD_eq_getElem?_getD]
  by_cases c:x<n
  ·rw[List.getElem?_replicate];simp[c]
  ·rw[List.getElem?_replicate];simp[c]
 refine ⟨by simp,fun x hx=> ?_,by simp,fun x hx=> ?_,fun x hx=> ?_,fun x hx=> ?_,fun i j x y hij hx hy=> ?_,fun y hy x hx=> ?_,fun i x hi=>by omega,⟨by simp,e1⟩,fun i x hx=> ?_⟩
 ·rw[List.mem_singleton] at hx;subst hx;exact hs
 ·by_cases e:x=s
  ·subst e;rw[e1];simp
  ·rw[e2 x e];simp[e]
 ·by_cases e:x=s
  ·subst e;rw[e1];omega
  ·rw[e2 x e];omega
 ·rw[List.mem_singleton] at hx;subst hx;rw[e1];exact Walk.zero
 ·have h1:=List.mem_of_getElem? hx
  have h2:=List.mem_of_getElem? hy
  rw[List.mem_singleton] at h1 h2;subst h1;subst h2;omega
 ·have h1:=List.mem_of_getElem? hx
  rw[List.mem_singleton] at h1 hy;subst h1;subst hy;omega
 ·have h1:=List.mem_of_getElem? hx
  rw[List.mem_singleton] at h1;subst h1;rw[e1];omega
theorem Zm2 {n:Nat} {es:List (Nat×Nat)} {s:Nat} (hs:s<n) (hes:∀e∈es,e.1<n∧e.2<n):IsDist n es s (Zdr n es s):=Zom hes (n+1) 0 _ _ (Zrq hs) (by omega)
def Zlx (d:Int):List (Nat×Nat)→List Int→List Int
 |[],far=>far
 |e::r,far=>Zlx d r (if far.getD e.1 (-1)=d∧far.getD e.2 (-1)<0 then far.set e.2 (d+1) else far)
def farG (es:List (Nat×Nat)):Nat→Nat→List Int→List Int
 |0,_,far=>far
 |f+1,d,far=>farG es f (d+1) (Zlx d es far)
structure Fi (n:Nat) (es:List (Nat×Nat)) (s k top:Nat) (far:List Int):Prop where
 len:far.length=n
 ge:∀x,x<n→ -1≤far.getD x (-1)
 way:∀x,x<n→0≤far.getD x (-1)→Walk es s (far.getD x (-1)).toNat x∧far.getD x (-1)≤top
 least:∀d x,d≤k→Walk es s d x→x<n→0≤far.getD x (-1)∧far.getD x (-1)≤d
theorem Fi.pass {n:Nat} {es:List (Nat×Nat)} {s k:Nat} (hes:∀e∈es,e.1<n∧e.2<n):∀(r:List (Nat×Nat)) (far:List Int),Fi n es s k (k+1) far→(∀e∈r,e∈es)→
 (∀e∈es,e∉r→far.getD e.1 (-1)=k→0≤far.getD e.2 (-1))→Fi n es s (k+1) (k+1) (Zlx k r far)
 | [],far,h,_,hd=>by
  refine ⟨h.len,h.ge,h.way,fun d x hdk w hx=> ?_⟩
  by_cases c:d≤k
  ·exact h.least d x c w hx
  ·obtain rfl:d=k+1:=by omega
   cases w with
   | step w he=>
    rename_i a
    have ha:=(hes _ he).1
    obtain ⟨k1,k2⟩:=h.least k a (by omega) w ha
    by_cases ck:far.getD a (-1)=k
    ·have h0:0≤far.getD x (-1):=hd _ he (by simp) ck
     have h1:far.getD x (-1)≤((k+1:Nat):Int):=(h.way x hx h0).2
     exact ⟨h0,h1⟩
    ·have w2:=Walk.step (h.way a ha k1).1 he
     have h3:=h.least _ x (by omega) w2 hx
     have h4:=h3.2
     exact ⟨h3.1,show far.getD x (-1)≤((k+1:Nat):Int) by omega⟩
 | e ::r,far,h,hr,hd=>by
  unfold Zlx
  have he:=hr e (by simp)
  obtain ⟨h1,h2⟩:=hes e he
  have hl:e.2<far.length:=by rw[h.len];exact h2
  by_cases c:far.getD e.1 (-1)=k∧far.getD e.2 (-1)<0
  ·rw [if_pos c]
   have hne:e.1≠e.2:=fun e'=>by rw[e'] at c;omega
   have ey:(far.set e.2 ((k:Int)+1)).getD e.2 (-1)=k+1:=ZhP hl
   have en:∀z,z≠e.2→(far.set e.2 ((k:Int)+1)).getD z (-1)=far.getD z (-1):=fun z hz=>getD_set_ne hz
   refine Fi.pass hes r _ ⟨by simp[h.len],fun x hx=> ?_,fun x hx h0=> ?_,fun d x hdk w hx=> ?_⟩ (fun z hz=>hr z (by simp[hz])) (fun z hz hzr hk=> ?_)
   ·by_cases ex:x=e.2
    ·subst ex;rw[ey];omega
    ·rw[en x ex];exact h.ge x hx
   ·by_cases ex:x=e.2
    ·subst ex;rw[ey]
     refine ⟨?_,by omega⟩
     have w:=(h.way e.1 h1 (by omega)).1
     rw[c.1] at w
     rw[show ((k:Int)+1).toNat=k+1 by omega]
     have:Walk es s k e.1:=by simpa using w
     exact Walk.step this he
    ·rw[en x ex] at h0⊢;exact h.way x hx h0
   ·by_cases ex:x=e.2
    ·subst ex
     have:=h.least d _ hdk w hx
     omega
    ·rw[en x ex];exact h.least d x hdk w hx
   ·by_cases ez:z.2=e.2
    ·rw[ez,ey];omega
    ·rw[en _ ez]
     by_cases ez1:z.1=e.2
     ·rw[ez1,ey] at hk;omega
     ·rw[en _ ez1] at hk
      by_cases e3:z=e
      ·subst e3;exact absurd rfl ez
      ·exact hd z hz (by simp[e3,hzr]) hk
  ·rw[if_neg c]
   refine Fi.pass hes r far h (fun z hz=>hr z (by simp[hz])) (fun z hz hzr hk=> ?_)
   by_cases e3:z=e
   ·subst e3
    have:=h.ge z.2 h2
    by_cases c0:far.getD z.2 (-1)<0
    ·exact absurd ⟨hk,c0⟩ c
    ·omega
   ·exact hd z hz (by simp[e3,hzr]) hk
def Zek :List (Nat×Nat)→List Bool→List Bool
 |[],m=>m
 |e::r,m=>Zek r (if m.getD e.1 false=true then m.set e.2 true else m)
def metG (es:List (Nat×Nat)):Nat→List Bool→List Bool
 |0,m=>m
 |f+1,m=>metG es f (Zek es m)
def ZsU (n:Nat) (es:List (Nat×Nat)) (s:Nat):List Bool:=metG es n ((List.replicate n false).set s true)
structure Mi (n:Nat) (es:List (Nat×Nat)) (s k:Nat) (m:List Bool):Prop where
 len:m.length=n
 way:∀x,m.getD x false=true→∃d,Walk es s d x
 all:∀d x,d≤k→Walk es s d x→x<n→m.getD x false=true
theorem Mi.pass {n:Nat} {es:List (Nat×Nat)} {s k:Nat} (hes:∀e∈es,e.1<n∧e.2<n):∀(r:List (Nat×Nat)) (m:List Bool),Mi n es s k m→(∀e∈r,e∈es)→
 (∀e∈es,e∉r→(∃d,d≤k∧Walk es s d e.1)→m.getD e.2 false=true)→Mi n es s (k+1) (Zek r m)
 | [],m,h,_,hd=>by
  refine ⟨h.len,h.way,fun d x hdk w hx=> ?_⟩
  by_cases c:d≤k
  ·exact h.all d x c w hx
  ·obtain rfl:d=k+1:=by omega
   cases w with
   |step w he=>exact hd _ he (by simp) ⟨k,by omega,w⟩
 | e ::r,m,h,hr,hd=>by
  unfold Zek
  have he:=hr e (by simp)
  obtain ⟨h1,h2⟩:=hes e he
  have hl:e.2<m.length:=by rw[h.len];exact h2
  have ey:(m.set e.2 true).getD e.2 false=true:=by simp[List.getD_eq_getElem?_getD,List.getElem?_set,hl]
  have en:∀z,z≠e.2→(m.set e.2 true).getD z false=m.getD z false:=fun z hz=>by simp[List.getD_eq_getElem?_getD,List.getElem?_set,Ne.symm hz]
  by_cases c:m.getD e.1 false=true
  ·rw [if_pos c]
   refine Mi.pass hes r _ ⟨by simp[h.len],fun x hx=> ?_,fun d x hdk w hx=> ?_⟩ (fun z hz=>hr z (by simp[hz])) (fun z hz hzr hk=> ?_)
   ·by_cases ex:x=e.2
    ·subst ex
     obtain ⟨d,w⟩:=h.way _ c
     exact ⟨d+1,Walk.step w he⟩
    ·rw[en x ex] at hx;exact h.way x hx
   ·by_cases ex:x=e.2
    ·subst ex;exact ey
    ·rw[en x ex];exact h.all d x hdk w hx
   ·by_cases ez:z.2=e.2
    ·rw[ez];exact ey
    ·rw[en _ ez]
     by_cases e3:z=e
     ·subst e3;exact absurd rfl ez
     ·exact hd z hz (by simp[e3,hzr]) hk
  ·rw[if_neg c]
   refine Mi.pass hes r m h (fun z hz=>hr z (by simp[hz])) (fun z hz hzr hk=> ?_)
   by_cases e3:z=e
   ·subst e3
    obtain ⟨d,hd1,w⟩:=hk
    exact absurd (h.all d _ hd1 w h1) c
   ·exact hd z hz (by simp[e3,hzr]) hk
theorem Zt2 {n:Nat} {es:List (Nat×Nat)} {s:Nat} (hes:∀e∈es,e.1<n∧e.2<n):∀(f k:Nat) (m:List Bool),Mi n es s k m→Mi n es s (k+f) (metG es f m)
 |0,k,m,h=>h
 | f+1,k,m,h=>by
  have:=Zt2 hes f (k+1) _ (Mi.pass hes es m h (fun e he=>he) (fun e he hn=>absurd he hn))
  rw[show k+(f+1)=k+1+f by omega]
  exact this
theorem Zwu {n:Nat} {es:List (Nat×Nat)} {s:Nat} (hs:s<n) (hes:∀e∈es,e.1<n∧e.2<n):(ZsU n es s).all id= !decide ((-1:Int)∈Zdr n es s):=by
 have hD:=Zm2 hs hes
 have h:=Zt2 (s:=s) hes n 0 ((List.replicate n false).set s true) ⟨by simp,fun x hx=>by
  by_cases e:x=s
  ·subst e;exact ⟨0,Walk.zero⟩
  ·exfalso
   simp only[List.getD_eq_getElem?_getD,List.getElem?_set,Ne.symm e,if_false,List.getElem?_replicate] at hx
   split at hx<;>simp at hx,fun d x hd w hx=>by
  obtain rfl:d=0:=by omega
  cases w
  simp[List.getD_eq_getElem?_getD,List.getElem?_set,hs]⟩
 rw[Nat.zero_add] at h
 change Mi n es s n (ZsU n es s) at h
 rw[Bool.eq_iff_iff]
 simp only[List.all_eq_true,id,Bool.not_eq_true',decide_eq_false_iff_not]
 constructor
 ·intro hall hm
  obtain ⟨i,hi⟩:=List.getElem?_of_mem hm
  have hin:i<n:=by rw[←hD.len];exact (List.getElem?_eq_some_iff.1 hi).1
  have hil:i<(ZsU n es s).length:=by rw[h.len];exact hin
  have:(ZsU n es s).getD i false=true:=by
   rw[List.getD_eq_getElem?_getD,List.getElem?_eq_getElem hil]
   exact hall _ (List.getElem_mem hil)
  obtain ⟨d,w⟩:=h.way i this
  have k:=(hD.least d i w hin).1
  rw[List.getD_eq_getElem?_getD,hi] at k
  simp at k
 ·intro hm b hb
  obtain ⟨i,hi⟩:=List.getElem?_of_mem hb
  have hin:i<n:=by rw[←h.len];exact (List.getElem?_eq_some_iff.1 hi).1
  have hg:=hD.ge i hin
  have h0:0≤(Zdr n es s).getD i (-1):=by
   by_cases c:(Zdr n es s).getD i (-1)= -1
   ·exfalso
    have hil:i<(Zdr n es s).length:=by rw[hD.len];exact hin
    rw[List.getD_eq_getElem?_getD,List.getElem?_eq_getElem hil] at c
    exact hm (by rw[←show (Zdr n es s)[i]= -1 from c];exact List.getElem_mem hil)
   ·omega
  have k:=h.all _ i (by have:=hD.small i hin;omega) (hD.way i hin h0) hin
  rw[List.getD_eq_getElem?_getD,hi] at k
  exact k
end Go.Proofs.YtkgnjijonikchaaGreat
