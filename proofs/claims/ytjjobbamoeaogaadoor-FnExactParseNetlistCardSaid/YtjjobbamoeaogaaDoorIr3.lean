import Derived.Test.YtjjobbamoeaogaaDoorIr2
namespace Go.Proofs.YtjjobbamoeaogaaDoor
open Go.RowKit
set_option linter.unusedVariables false
set_option linter.unusedSimpArgs false
set_option maxRecDepth 10000
def Zi6 {R:Type} (T:Tab) (d:Nat) (t:TypeId) (a:SV):Option (Eff R):=
 match a.k,a.slot,T.lookup t with
 |.box _ ks,some q,some ti=>if LG.contains (t,d)=true∧q≠d∧ks.length=ti.size∧ti.agg=true then some (Zj d (.gal q ti.size) ZiL) else Zha T d t a
 |_,_,_=>Zha T d t a
def appT (n:Nat) (s x:SV):DV→DV→Option PV:=fun ds dx=>
 (Zh s ds).bind fun ls=>(Zh x dx).bind fun lx=>if ls.length+lx.length≤4294967296∧(lx.all (Zag n)=true∧ls.all (Zag n)=true)∧0<ls.length∧0<lx.length then some (.lst (ls++lx)) else none
def ZlB {R:Type} (T:Tab) (d:Nat) (t t2:TypeId) (s x:SV):Option (Eff R):=
 match s.k,T.lookup t with
 | .tt,some ti=>
  match ti.desc with
  | .slice e=>
   match T.lookup e with
   |none=>none
   |some te=>if t≠t2∨te.size=0∨32768<te.bytes∨(Z8 x).isSome=false∨Zhn (Z8 x)=false then none else some (Zj d (.ck (.own true e te.size)) (ZaV (appT te.size s x)))
  |_=>none
 |_,_=>ZgA T d t t2 s x
def ZiJ :List ZC→List PV→List PV
 |.nil::zs,.nl::xs=>.lst []::ZiJ zs xs
 |_::zs,x::xs=>x::ZiJ zs xs
 |_,xs=>xs
def ZgX :List ZC→List PV→Bool
 |.nil::zs,.nl::xs=>ZgX zs xs
 |.nil::_,_=>false
 |_::zs,_::xs=>ZgX zs xs
 |[],[]=>true
 |_,_=>false
def nlCK :ZC→CK
 |.nil=>.nil
 |_=>.val
def ZhM {R :Type} (T:Tab) (t:TypeId) (a x:SV):Option (Eff R):=
 match a.k,a.slot,x.k,T.lookup t with
 | .box TT ks,some q,.ck .val,some ti=>
  if NS.contains (t,q)=true∧ks.length=ti.size∧ti.zero.length=ti.size then
   some { gh:=[],tgt:=q,put:=false,k:=.box TT (ti.zero.map nlCK),cut:=.all,
          dyn:=ZaV fun _ dx=>(Zd ti.size dx.v).bind fun cl=>if ZgX ti.zero cl=true then some (.agg (ZiJ ti.zero cl)) else none}
  else ZeP T t a x
 |_,_,_,_=>ZeP T t a x
def ZgY :List CK→List PV→List PV
 |.nil::ks,_::xs=>.nl::ZgY ks xs
 |_::ks,x::xs=>x::ZgY ks xs
 |_,xs=>xs
def agL :PV→Option (List PV)
 |.agg l=>some l
 |_=>none
def Zdv {R:Type} (T:Tab) (d:Nat) (t:TypeId) (len:Nat) (parts:List (Nat×Operand)) (svs:List SV):Option (Eff R):=
 match svs with
 | [s]=>match s.k,T.lookup t with
  | .grp false ks,some ti=>if NB.contains (t,d)=true then
   match ti.desc with
   | .slice e=>match T.lookup e with
    | some te=>if (parts.length=len∧ZjN 0 parts=true)∧ks.all ckV=true∧ks.length=te.size∧te.size≠0∧len * te.size≤65536 then
     some (Zj d (.ck (.own true e te.size)) (Zbl fun x=>(agL x.v).map fun l=>.lst [.agg (ZgY ks l)])) else none
    |none=>none
   |_=>none
   else ZbH T d t len parts svs
  |_,_=>ZbH T d t len parts svs
 |_=>ZbH T d t len parts svs
def tabL :List Value→Option (List PV)
 |[]=>some []
 |v::r=>(pvS v).bind fun x=>(tabL r).map fun l=>x::l
def loN :PV→Option Nat
 |.int _ n=>if 0≤n then some n.toNat else none
 |_=>none
def ZhN {R:Type} (T:Tab) (d:Nat) (t:TypeId) (g:Nat) (lo:SV):Option (Eff R):=
 match GA.lookup t,GT.lookup g with
 | some (n,e),some l=>
  match T.lookup e with
  |some te=>if te.size=1∧l.length=n∧lo.isV=true∧n≤65536 then some (Zj d (.ck .val) (ZaV fun _ y=>(loN y.v).bind fun i=>if i≤n then (tabL (l.drop i)).map .lst else none)) else none
  |none=>none
 |_,_=>none
section
variable {R :Type} {P:Program} {T:Tab} {o:Oper} {κ κ1:List Kd} {E:Eff R}
variable {w0 :World} {F0:Nat→Prop} {X0:List Nat} {σ:List PV} {a:Act} {w:World} {F F1:Nat→Prop} {fp fp1:Nat→List Nat}
theorem ZmG (hT:TabOk P T) {t:TypeId} {x:Operand} {d:Nat} (hop:o.op=.load t x) (hd:o.dst=some d) (hE:Zi6 T d t (sv κ x)=some E):ZN P o κ E:=by
 have hops:o.op.operands.toList=[x]:=by rw[hop];rfl
 unfold Zi6 at hE
 split at hE
 case h_2=>exact Ziy hT hop hd hE
 rename_i _ _ _ TT ks q ti hk hsl hti
 split at hE
 case isFalse=>exact Ziy hT hop hd hE
 rename_i hc
 obtain ⟨_,hqd,hkl,hagg⟩:=hc
 cases hE
 obtain ⟨ht⟩:=hT.ty hti
 obtain rfl:=Zav hsl
 have hkq:kd κ q=.box TT ks:=hk
 refine ZJ hd rfl rfl fun w0 F0 X0 σ a w F fp kk r h htt hlv hdy=> ?_
 obtain ⟨lb,_,_,hsr⟩:=h.sr q
 rw[hkq] at hsr
 obtain ⟨b,cs,xs,fps,ev,ex,hheap,hgrp,_⟩:=hsr
 have hlen:=hgrp.lens
 have hcl:cs.toList.length=ti.size:=by omega
 have hrun:=Zex (P:=P) (w:=w) ht hagg (b:=b) (off:=0) cs.toList hcl (fun j v hj=>by
  rw[Nat.zero_add,cell_of_row w b j cs TT (0,0) hheap]
  simpa using hj)
 have hev:a.eval (.tmp q)=.pointer (some ⟨b,0,none⟩):=ev
 refine ⟨.bool true,.agg cs.toList.toArray,w,F,[],ZbW hop (by rw[hev];exact hrun),hdy,Adds.refl w h.fl,List.nodup_nil,rfl,by simp,fun _=> ?_,fun q' hq=> ?_⟩
 ·refine ⟨cs.toList.toArray,rfl,by simpa using hcl,fun j c hj=>⟨b, ?_, ?_⟩⟩
  ·rw[Za6,if_neg (fun e=>hqd e.1)];exact ev
  ·rw[cell_of_row w b j cs TT (0,0) hheap];simpa using hj
 ·simp only[Zj,Kd.bdep,Option.some.injEq] at hq
  subst hq
  exact ⟨hqd,by rw[hkq];rfl⟩
theorem Zoj (hT:TabOk P T) {t t2:TypeId} {s x:Operand} {d:Nat} (hop:o.op=.call {callee:=.builtin .append,args:= #[s,x],argTypes:= #[t,t2]}) (hd:o.dst=some d) (hE:ZlB T d t t2 (sv κ s) (sv κ x)=some E):ZN P o κ E:=by
 have hops:o.op.operands.toList=[s,x]:=by rw[hop];rfl
 unfold ZlB at hE
 split at hE
 case h_2=>exact ZkC hT hop hd hE
 rename_i _ _ ti hks hi
 obtain ⟨ht⟩:=hT.ty hi
 split at hE
 case h_2=>cases hE
 rename_i e hds
 have hus:=ZT ht hds
 split at hE
 case h_1=>cases hE
 rename_i te hte
 obtain ⟨he⟩:=hT.ty hte
 split at hE
 case isTrue=>cases hE
 rename_i hc
 cases hE
 have htt2:t=t2:=Classical.byContradiction fun e=>hc (.inl e)
 subst htt2
 have hsz:te.size≠0:=fun e=>hc (.inr (.inl e))
 have hby:te.bytes≤32768:=by rcases Nat.lt_or_ge 32768 te.bytes with h|h;exact absurd (.inr (.inr (.inl h))) hc;exact h
 have hxK:(Z8 (sv κ x)).isSome=true:=by cases hh:(Z8 (sv κ x)).isSome;exact absurd (.inr (.inr (.inr (.inl hh)))) hc;rfl
 have hxF:Zhn (Z8 (sv κ x))=true:=by cases hh:Zhn (Z8 (sv κ x));exact absurd (.inr (.inr (.inr (.inr hh)))) hc;rfl
 have hsv:(sv κ s).isV=true:=by unfold SV.isV;rw[hks]
 have hsK:Z8 (sv κ s)=some none:=by unfold Z8;rw[if_pos hsv]
 refine ZJ hd rfl rfl fun w0 F0 X0 σ a w F fp kk r h htt hlv hdy=> ?_
 have hdy':((appT te.size (sv κ s) (sv κ x) (dv κ σ s) (dv κ σ x)).bind kk)=some r:=by rw[hops] at hdy;exact hdy
 obtain ⟨z,hz,hkk⟩:=Option.bind_eq_some_iff.1 hdy'
 obtain ⟨ls,hls,hz⟩:=Option.bind_eq_some_iff.1 hz
 obtain ⟨lx,hlx,hz⟩:=Option.bind_eq_some_iff.1 hz
 split at hz
 case isFalse=>cases hz
 rename_i hlen
 obtain ⟨hlen,⟨hokx,hoks⟩,hs0,hx0⟩:=hlen
 cases hz
 obtain ⟨A,c,hs,hsrc⟩:=ZeA h (x:=s) (Zc hlv (by rw[hops];exact .head _)) hls hoks hsz (by rw[hsK];rfl) (by rw[hsK];rfl)
 obtain ⟨ads,olds,rfl,o1,o2,o3,o4⟩:=hsrc (List.length_pos_iff.1 hs0)
 obtain ⟨B,c2,hxx,hsrx⟩:=ZeA h (x:=x) (Zc hlv (by rw[hops];exact .tail _ (.head _))) hlx hokx hsz hxK hxF
 obtain ⟨adx,news,rfl,n1,n2,n3,n4⟩:=hsrx (List.length_pos_iff.1 hx0)
 have hfull:c=ls.length:=by
  obtain ⟨l,_,hsr⟩:=h.at' s (by rw[hks];simp)
  rw[hks] at hsr
  obtain ⟨⟨_,A',n,e1⟩,_⟩:=hsr
  rw[hs] at e1
  simp only[Value.slice.injEq] at e1
  omega
 subst hfull
 have hbyt:=ZfA hlen hby
 have hrb:(ls.length+lx.length) * he.row.bytes≤140737488355328:=by rw[he.hbytes];exact hbyt
 have hmx:ls.length+lx.length≤maxLen:=by unfold maxLen;omega
 have n1':news.length=lx.length * he.row.size:=by rw[he.hsize];exact n1
 have o1':olds.length=ls.length * he.row.size:=by rw[he.hsize];exact o1
 have hr:=run_append_grow (P:=P) w t o.type e he.row he.zv hus he.hrow he.hz ads ls.length ls.length olds o1' o2 adx lx.length c2 news n1' n2 (by omega) (by omega) (growslice_fits (by omega) hrb)
 obtain ⟨g1,g2,g3,g4,g5,g6,g7,g8⟩:=Zle he h.fl hmx n1 n4 [] (ls:=ls) ls.length olds (by omega) o1 o4 _ rfl
 have key:∀v' w',(Builtin.append_ #[t,t] o.type #[.slice (some ads) ls.length ls.length,.slice (some adx) lx.length c2]).run P w=.ok v' w'→(execOp a.eval o).run P w=.ok (.value v') w':=fun v' w' h'=>by
  obtain ⟨cs,hcs⟩:=Zai (P:=P) hop a.eval w
  rw[hcs]
  simp[builtin,hs,hxx,h']
 refine ⟨_,_,_,F,[w.heap.size],key _ _ hr,hkk,⟨g1,g2,g3,g4,fun b hb=>g5 b hb (by simp),fun _ h=>h,fun _ h=>.inl h,fun b hb=>Nat.lt_of_lt_of_le (h.fl b hb) g4⟩,g7,⟨_,rfl,(Zr (Zaa he.hsm)).2 (by simpa using g6)⟩,fun b hb=> ?_,fun _=>trivial,fun q hq=>by simp[Zj,Kd.bdep] at hq⟩
 obtain ⟨t1,t2⟩:=g8 b hb
 rw[List.mem_singleton] at hb
 subst hb
 exact ⟨Nat.le_refl _,t2,fun hc=>absurd (h.fl _ hc) (Nat.lt_irrefl _)⟩
theorem Zrg :∀(zs:List ZC) (xs:List PV) (vs:List Value),ZgX zs xs=true→xs.length=vs.length→(∀(i:Nat) (y:PV),xs[i]?=some y→y.one=true∧VR w F y (vs.getD i Go.undef))→GrpR w F true (zs.map nlCK) (ZiJ zs xs) vs (List.replicate xs.length [])
 |[],[],[],_,_,_=>.nil
 |[],_::_,_,h,_,_=>by simp[ZgX] at h
 |[],[],_::_,_,h,_=>by simp at h
 |z::zs,[],_,h,_,_=>by cases z<;>simp[ZgX] at h
 |z::zs,x::xs,[],_,h,_=>by simp at h
 | z ::zs,x::xs,v::vs,h,hl,hv=>by
  have h0:=hv 0 x rfl
  have ht:∀(h':ZgX zs xs=true),GrpR w F true (zs.map nlCK) (ZiJ zs xs) vs (List.replicate xs.length []):=fun h'=>Zrg zs xs vs h' (by simpa using hl) fun i y hy=>by simpa using hv (i+1) y (by simpa using hy)
  simp only[List.length_cons,List.replicate_succ,List.map_cons]
  by_cases hz:z=.nil
  ·subst hz
   cases x with
   | nl=>
    have hn:v=.slice none 0 0:=by have:=h0.2;simp at this;cases this;rfl
    exact .cons (k:=.nil) ⟨rfl,hn,rfl⟩ (fun _=>rfl) (ht (by simpa[ZgX] using h))
   |_=>simp[ZgX] at h
  ·have e1:ZiJ (z::zs) (x::xs)=x::ZiJ zs xs:=by cases z<;>first|exact absurd rfl hz|rfl
   have e2:nlCK z=.val:=by cases z<;>first|exact absurd rfl hz|rfl
   have e3:ZgX zs xs=true:=by cases z<;>first|exact absurd rfl hz|simpa[ZgX] using h
   rw[e1,e2]
   exact .cons ⟨by simpa using h0.2,rfl⟩ (fun _=>h0.1) (ht e3)
theorem Zio {α:Type} {l s:List α} (h:l.length=s.length):splice l 0 s=s:=by
 unfold splice
 rw[List.drop_eq_nil_of_le (by omega)]
 simp
theorem ZlC (hT:TabOk P T) {t:TypeId} {x y:Operand} (hop:o.op=.store t x y) (hd:o.dst=none) (hE:ZhM T t (sv κ x) (sv κ y)=some E):ZN P o κ E:=by
 have hops:o.op.operands.toList=[x,y]:=by rw[hop];rfl
 unfold ZhM at hE
 split at hE
 case h_2=>exact Zgj hT hop hd hE
 rename_i _ _ _ _ TT ks q ti hk hsl hky hti
 split at hE
 case isFalse=>exact Zgj hT hop hd hE
 rename_i hc
 obtain ⟨_,hkl,hzl⟩:=hc
 cases hE
 obtain ⟨ht⟩:=hT.ty hti
 obtain rfl:=Zav hsl
 have hkq:kd κ q=.box TT ks:=hk
 refine ZdC hd rfl fun w0 F0 X0 κ1 σ a w F F1 fp fp1 kk r h h1 htt hg hF hfp hall hlv hdy=> ?_
 cases hg
 have hdy':(((Zd ti.size (dv κ σ y).v).bind fun cl=>if ZgX ti.zero cl=true then some (PV.agg (ZiJ ti.zero cl)) else none).bind kk)=some r:=by rw[hops] at hdy;exact hdy
 obtain ⟨z,hz,hkk⟩:=Option.bind_eq_some_iff.1 hdy'
 obtain ⟨cl,hcl,hz⟩:=Option.bind_eq_some_iff.1 hz
 split at hz
 case isFalse=>cases hz
 rename_i hnl
 cases hz
 obtain ⟨rfl,c1,c2,c3⟩:=Za8 hcl
 have hv:=rdS h1 (x:=y) (by unfold SV.isV;rw[hky])
 obtain ⟨v1,v2⟩:=hv.cells c3
 have hgrp:=Zrg (w:=w) (F:=F1) ti.zero (dv κ σ y).v.cells (a.eval y).cells.toList hnl (by rw[PV.length_cells];simpa using v1) (fun i z hz=>by
  obtain ⟨e1,e2⟩:=v2 i z hz
  refine ⟨e1, ?_⟩
  have:(a.eval y).cells.toList.getD i Go.undef=(a.eval y).cells.getD i Go.undef:=by simp[List.getD,Array.getD_eq_getD_getElem?]
  rw[this];exact e2)
 have hb:(sv κ (.tmp q)).boxAt=some (q,ks,0):=by unfold SV.boxAt;rw[hk,hsl];rfl
 obtain ⟨w',l,r1,r2,r3,r4,r5,r6,r7,r8,r9,r10⟩:=ZfZ (n:=ti.size) ht hop h1 h1 (fun _ h=>h) (fun _ h=>h) (Zc hlv (by rw[hop];exact .head _)) hb (by omega) rfl (by omega) hgrp (hv.store c3) (by rw[Zao];simp) (by rw[Zao];simp) (by rw[Zao];exact List.nodup_nil) (Zi1 hb)
 obtain ⟨b,cs,TT',xs,fps,_,e1,e2,e3,e4,e5,e6,e7,e8,e9⟩:=Zda h1 (Zc hlv (by rw[hop];exact .head _)) hb
 have hl1:=e7.lens
 have hl2:=hgrp.lens
 have s1:splice ks 0 (ti.zero.map nlCK)=ti.zero.map nlCK:=Zio (by simp;omega)
 have s2:splice (ZcQ (sv κ (.tmp q)) (dv κ σ (.tmp q))) 0 (ZiJ ti.zero (dv κ σ y).v.cells)=ZiJ ti.zero (dv κ σ y).v.cells:=by
  rw[e3]
  exact Zio (by have:=hl2.1;simp at this;omega)
 have s3:(sv κ (.tmp q)).boxT=TT:=by unfold SV.boxT;rw[hk]
 rw[s1,s2,s3] at r8
 exact ⟨_,w',l,r1,hkk,r2,r3,r4,r5,r6,r7,r8,r9,rfl,fun _=>⟨rfl,fun k y u hk' hc _=>by
  have:=Zab hk'
  simp[Cut.fn,this] at hc⟩⟩
theorem Zs2 {ks:List CK} {xs:List PV} {vs:List Value} {fps:List (List Nat)} (h:GrpR w F true ks xs vs fps) (hv:ks.all ckV=true):(ZgY ks xs).length=vs.length∧∀(i:Nat) (y:PV),(ZgY ks xs)[i]?=some y→y.one=true∧VR w F y (vs.getD i Go.undef):=by
 induction h with
 |nil=>exact ⟨rfl,fun i y hy=>by simp[ZgY] at hy⟩
 | @cons k x v fp ks xs vs fps hc ho ht ih=>
  simp only[List.all_cons,Bool.and_eq_true] at hv
  obtain ⟨i1,i2⟩:=ih hv.2
  have key:∀z:PV,z.one=true→VR w F z v→(z::ZgY ks xs).length=(v::vs).length∧∀(i:Nat) (y:PV),(z::ZgY ks xs)[i]?=some y→y.one=true∧VR w F y ((v::vs).getD i Go.undef):=fun z h1 h2=>by
   refine ⟨by simp[i1],fun i y hy=> ?_⟩
   cases i with
   |zero=>simp at hy;subst hy;exact ⟨h1,by simpa using h2⟩
   |succ i=>simpa using i2 i y (by simpa using hy)
  cases k with
  |val=>exact key x (ho rfl) hc.1
  | nil=>
   obtain ⟨_,h2,_⟩:=hc
   subst h2
   exact key .nl rfl .nl
  |none=>simp[ckV] at hv
  |own app e sz=>simp[ckV] at hv
theorem ZgZ (hT:TabOk P T) {t:TypeId} {len:Nat} {parts:Array (Nat×Operand)} {d:Nat} (hop:o.op=.buildSlice t len parts) (hd:o.dst=some d) (hE:Zdv T d t len parts.toList (o.op.operands.toList.map (sv κ))=some E):ZN P o κ E:=by
 unfold Zdv at hE
 split at hE
 case h_2=>exact Zcv hT hop hd hE
 rename_i s hs
 split at hE
 case h_2=>exact Zcv hT hop hd hE
 rename_i ks ti hk hti
 split at hE
 case isFalse=>exact Zcv hT hop hd hE
 obtain ⟨ht⟩:=hT.ty hti
 split at hE
 case h_2=>cases hE
 rename_i e hds
 have hus:=ZT ht hds
 split at hE
 case h_2=>cases hE
 rename_i te hte
 obtain ⟨he⟩:=hT.ty hte
 split at hE
 case isFalse=>cases hE
 rename_i hc
 obtain ⟨⟨c1,c2⟩,c3,c4,c5,c6⟩:=hc
 cases hE
 have hops:o.op.operands.toList=parts.toList.map (·.2):=by rw[hop];simp[Op.operands]
 rw[hops] at hs
 obtain ⟨p,hp⟩:∃p,parts.toList=[p]:=by
  match hpl:parts.toList,hs with
  |[p],_=>exact ⟨p,rfl⟩
  |[],h=>simp at h
  |_::_::_,h=>simp at h
 rw[hp] at hs hops
 simp only[List.map_cons,List.map_nil,List.cons.injEq,and_true] at hs hops
 refine ZJ hd rfl rfl fun w0 F0 X0 σ a w F fp kk r h htt hlv hdy=> ?_
 rw[hops] at hdy
 have hdy':(((agL (dv κ σ p.2).v).map fun l=>PV.lst [.agg (ZgY ks l)]).bind kk)=some r:=hdy
 obtain ⟨z,hz,hkk⟩:=Option.bind_eq_some_iff.1 hdy'
 obtain ⟨l,hl,rfl⟩:=Option.map_eq_some_iff.1 hz
 have hkp:(sv κ p.2).k=.grp false ks:=by rw[hs];exact hk
 obtain ⟨lb,_,hsr⟩:=h.at' p.2 (by rw[hkp];simp)
 rw[hkp] at hsr
 obtain ⟨cs,xs,fps,e1,e2,e3,_⟩:=hsr
 simp only[Bool.false_eq_true,if_false] at e1 e2
 rw[e2] at hl
 obtain rfl:xs=l:=by simpa[agL] using hl
 obtain ⟨m1,m2⟩:=Zs2 e3 c3
 have hlen:=e3.lens
 have hvr:VR w F (.agg (ZgY ks xs)) (.agg cs):=.of_cells (by simpa using m1) fun i y hy=>by
  have:=m2 i y hy
  refine ⟨this.1, ?_⟩
  have e:cs.toList.getD i Go.undef=cs.getD i Go.undef:=by simp[List.getD,Array.getD_eq_getD_getElem?]
  rw[←e];exact this.2
 have hlen1:len=1:=by rw[hp] at c1;simpa using c1.symm
 subst hlen1
 obtain ⟨w',r1,r2,r3,r4⟩:=ZjO (ys:=[.agg (ZgY ks xs)]) hop hus he c1 c2 c5 c6 h.fl rfl (fun i q y hq hy=>by
  rw[hp] at hq
  cases i with
  | zero=>
   simp at hq hy
   subst hq hy
   rw[e1]
   refine ⟨hvr, ?_,by simp⟩
   show (ZgY ks xs).length=_
   have:=hlen.1
   have:=hlen.2.1
   omega
  |succ i=>simp at hq)
 exact ⟨_,_,w',F,[w.heap.size],r1,hkk,r2,by simp,⟨_,rfl,r3⟩,fun b hb=>by rw[List.mem_singleton] at hb;subst hb;exact ⟨Nat.le_refl _,r4,fun hc=>absurd (h.fl _ hc) (Nat.lt_irrefl _)⟩,fun _=>trivial,fun q hq=>by simp[Zj,Kd.bdep] at hq⟩
theorem Zpo {w:World} {F:Nat→Prop}:∀(vs:List Value) (xs:List PV),tabL vs=some xs→xs.length=vs.length∧∀(i:Nat) (x:PV),xs[i]?=some x→x.one=true∧VR w F x (vs.getD i Go.undef)
 | [],xs,h=>by
  unfold tabL at h
  cases h
  exact ⟨rfl,fun i x hx=>by simp at hx⟩
 | v::r,xs,h=>by
  unfold tabL at h
  obtain ⟨x,hx,h⟩:=Option.bind_eq_some_iff.1 h
  obtain ⟨l,hl,rfl⟩:=Option.map_eq_some_iff.1 h
  obtain ⟨i1,i2⟩:=Zpo (w:=w) (F:=F) r l hl
  refine ⟨by simp[i1],fun i y hy=> ?_⟩
  cases i with
  |zero=>simp at hy;subst hy;have:=Zr8 (w:=w) (F:=F) hx;exact ⟨this.2,by simpa using this.1⟩
  |succ i=>simpa using i2 i y (by simpa using hy)
theorem ZlD (hT:TabOk P T) {t:TypeId} {g:Nat} {lo:Operand} {d:Nat} (hop:o.op=.slice t (.global g) (some lo) none none) (hd:o.dst=some d) (hE:ZhN T d t g (sv κ lo)=some E):ZN P o κ E:=by
 have hops:o.op.operands.toList=[.global g,lo]:=by rw[hop];rfl
 unfold ZhN at hE
 split at hE
 case h_2=>cases hE
 rename_i n e l hga hgt
 split at hE
 case h_2=>cases hE
 rename_i te hte
 obtain ⟨he⟩:=hT.ty hte
 split at hE
 case isFalse=>cases hE
 rename_i hc
 obtain ⟨hsz,hlen,hiv,hn⟩:=hc
 have hu:=hT.arr t n e (Zdz hga)
 cases hE
 refine ZaC hd rfl rfl rfl fun w0 F0 X0 σ a w F fp kk r h htt hlv hdy=> ?_
 rw[hops] at hdy
 have hdy':(((loN (dv κ σ lo).v).bind fun i=>if i≤n then (tabL (l.drop i)).map PV.lst else none).bind kk)=some r:=hdy
 obtain ⟨z,hz,hkk⟩:=Option.bind_eq_some_iff.1 hdy'
 obtain ⟨i,hi,hz⟩:=Option.bind_eq_some_iff.1 hz
 split at hz
 case isFalse=>cases hz
 rename_i hin
 obtain ⟨xs,hxs,rfl⟩:=Option.map_eq_some_iff.1 hz
 have hii:=rdS h hiv
 unfold loN at hi
 split at hi
 case h_2=>cases hi
 rename_i k m em
 split at hi
 case isFalse=>cases hi
 rename_i hm
 cases hi
 rw[em] at hii
 have hii:=hii.int_eq
 obtain ⟨hFg,TT,fr,cs,hw,hcs⟩:=h.gk g l (Zdz hgt)
 obtain ⟨x1,x2⟩:=Zpo (w:=w) (F:=F) _ _ hxs
 rw[List.length_drop,hlen] at x1
 have h1:=he.run_sizeOf w
 have hrun:(Instr.sliceAt t (.pointer (some ⟨g,0,none⟩)) (some (.int k m)) none none).run P w=.ok (.slice (some ⟨g,if n=m.toNat then 0 else m.toNat,none⟩) xs.length xs.length) w:=by
  have hb:=run_sliceBound (w:=w) (P:=P) k m n .sliceB hm (by omega)
  rw[x1]
  by_cases e:n=m.toNat
  ·rw[e] at hb
   simp[Instr.sliceAt,underlying,hu,Instr.sureAddr,Instr.sliceBounds,hb,h1,e]
  ·simp[Instr.sliceAt,underlying,hu,Instr.sureAddr,Instr.sliceBounds,hb,h1,e,Addr.add_lit,hsz]
 have hev:a.eval (.global g)=.pointer (some ⟨g,0,none⟩):=rfl
 refine ⟨_,_,by simp[execOp,hop,hev,hii,hrun];rfl,hkk, ?_⟩
 refine .lst xs _ xs.length 1 (fun j=>(l.drop m.toNat).getD j Go.undef) (Nat.le_refl _) (by unfold maxLen;omega) (fun hne=>⟨g,_,rfl,hFg,fun j hj q u hu=> ?_⟩) (fun j x hx=> ?_) fun j x hx=>(x2 j x hx).2
 ·have hjl:m.toNat+j<l.length:=by omega
  have hne':¬n=m.toNat:=by omega
  obtain ⟨x,hx⟩:∃x,xs[j]?=some x:=⟨_,List.getElem?_eq_getElem hj⟩
  have hc:=(x2 j x hx).2.oneCell (x2 j x hx).1
  rw[hc] at hu
  cases q with
  |succ q=>simp at hu
  | zero=>
   simp at hu
   subst hu
   rw[if_neg hne',cell_of_row w g _ cs TT fr hw,←hcs] at *
   simp[List.getElem?_eq_getElem hjl]
 ·have hc:=(x2 j x hx).2.oneCell (x2 j x hx).1
  exact ⟨(Zh3 (x2 j x hx).1).1,by rw[hc];rfl⟩
end
def Zak {R:Type} (T:Tab) (G:List Ent) (o:Oper) (κ:List Kd):Option (Eff R):=
 match o.op,o.dst with
 |.move x,some d=>Zan false d (sv κ x)
 |.assign x,some d=>Zan true d (sv κ x)
 |.pick c x y,some d=>Zma d (sv κ c) (sv κ x) (sv κ y)
 |.binOp op t x y _,some d=>Zoy T d op t (sv κ x) (sv κ y)
 |.unOp op _ x,some d=>Zsk d op (sv κ x)
 |.index t x i,some d=>ZjG T d t (sv κ x) (sv κ i)
 |.box t x,some d=>ZlO T d t (sv κ x)
 |.alloc t,some d=>ZjJ T d t
 |.load t x,some d=>Zi6 T d t (sv κ x)
 |.store t x y,none=>ZhM T t (sv κ x) (sv κ y)
 |.fieldAddr t x f,some d=>Zcw T d t f (sv κ x)
 |.nilCheck x,some d=>ZdE d (sv κ x)
 |.indexAddr t x i,some d=>ZlX T d t x (sv κ x) (sv κ i)
 |.buildSlice t len parts,some d=>Zdv T d t len parts.toList (o.op.operands.toList.map (sv κ))
 |.extract x i,some d=>Zas d i (sv κ x)
 | .call ⟨.builtin b,args,ts⟩,some d=>
  match b,args.toList,ts.toList with
  |.len,[x],[t]=>Zmd T d t (sv κ x)
  |.append,[s,x],[t,t2]=>ZlB T d t t2 (sv κ s) (sv κ x)
  |.cap,[x],[t]=>ZoG T d t (sv κ x)
  |.max,[x,y],_=>ZpX d true (sv κ x) (sv κ y)
  |.min,[x,y],_=>ZpX d false (sv κ x) (sv κ y)
  |_,_,_=>none
 |.call ⟨.value (.func f),args,_⟩,some d=>ZlT G d f (args.toList.map (sv κ))
 |.call ⟨.value c,args,_⟩,some d=>ZoC G d (sv κ c) (args.toList.map (sv κ))
 |.makeFunc fn first captured,some d=>ZfD d fn first.toList (captured.toList.map (sv κ))
 |.makeSlice t x y,some d=>ZeU T d t (Zox x y) (sv κ x)
 |.slice t (.global g) (some lo) none none,some d=>ZhN T d t g (sv κ lo)
 |.slice t x lo hi none,some d=>Zh2 T d t (sv κ x) (lo.map (sv κ)) (hi.map (sv κ))
 |.convert s t x,some d=>ZgD T d s t (sv κ x)
 |.build t parts,some d=>Zjo T o.guard.isSome d t (parts.toList.map (·.1)) (o.op.operands.toList.map (sv κ))
 |.makeMap t r,some d=>Zgt T d t r
 |.lookup t m k ok,some d=>Zgw T d t ok (sv κ m) (sv κ k)
 |.mapUpdate t m k x,none=>ZfU T t (sv κ m) (sv κ k) (sv κ x)
 |.insert t m k x,none=>ZfU T t (sv κ m) (sv κ k) (sv κ x)
 |.makeInterface _ _,some d=>some (ZiY d)
 |.panic x,none=>some (ZiY (match x with|.tmp t=>t|_=>0))
 |.panic _,some d=>some (ZiY d)
 | .call ⟨.builtin .clear,args,ts⟩,none=>match args.toList,ts.toList with
  |[x],[t]=>ZjB T t (sv κ x)
  |_,_=>none
 |_,_=>none
theorem Zg0 {R:Type} {P:Program} {T:Tab} {G:List Ent} {o:Oper} {κ:List Kd} {E:Eff R} (hT:TabOk P T) (hG:∀e∈G,FnOk P e) (hE:Zak T G o κ=some E):ZN P o κ E:=by
 unfold Zak at hE
 split at hE
 ·exact ZjH (asg:=false) ‹_› ‹_› hE
 ·exact ZjH (asg:=true) ‹_› ‹_› hE
 ·exact ZoU ‹_› ‹_› hE
 ·exact ZqB hT ‹_› ‹_› hE
 ·exact Zsm ‹_› ‹_› hE
 ·exact Znu hT ‹_› ‹_› hE
 ·exact Zow hT ‹_› ‹_› hE
 ·exact Znx hT ‹_› ‹_› hE
 ·exact ZmG hT ‹_› ‹_› hE
 ·exact ZlC hT ‹_› ‹_› hE
 ·exact Zny hT ‹_› ‹_› hE
 ·exact ZqP ‹_› ‹_› hE
 ·exact ZoK hT ‹_› ‹_› hE
 ·exact ZgZ hT ‹_› ‹_› hE
 ·exact ZkH ‹_› ‹_› hE
 ·rename_i b args ts d hop hd
  obtain ⟨args⟩:=args
  obtain ⟨ts⟩:=ts
  split at hE
  ·rename_i x t h1 h2
   simp only at h1 h2
   subst h1 h2
   exact ZqM hT (f:=x) hop hd hE
  ·rename_i s x t t2 h1 h2
   simp only at h1 h2
   subst h1 h2
   exact Zoj hT hop hd hE
  ·rename_i x t h1 h2
   simp only at h1 h2
   subst h1 h2
   exact ZqI hT hop hd hE
  ·rename_i x y h1
   simp only at h1
   subst h1
   exact Znl (mx:=true) hop hd hE
  ·rename_i x y h1
   simp only at h1
   subst h1
   exact Znl (mx:=false) hop hd hE
  ·cases hE
 ·exact ZoE hG ‹_› ‹_› hE
 ·exact ZqG hG ‹_› ‹_› hE
 ·exact ZjS ‹_› ‹_› hE
 ·exact ZiN hT ‹_› Zqz ‹_› hE
 ·exact ZlD hT ‹_› ‹_› hE
 ·exact Zl5 hT ‹_› ‹_› hE
 ·exact ZkI hT ‹_› ‹_› hE
 ·exact Zm5 hT ‹_› ‹_› hE
 ·exact Zky hT ‹_› ‹_› hE
 ·exact ZkA hT ‹_› ‹_› hE
 ·exact Zg9 hT (.inl ‹_›) ‹_› hE
 ·exact Zg9 hT (.inr ‹_›) ‹_› hE
 ·cases hE;exact Zgu
 ·cases hE;exact Zgu
 ·cases hE;exact Zgu
 ·rename_i args ts hop hd
  obtain ⟨args⟩:=args
  obtain ⟨ts⟩:=ts
  split at hE
  ·rename_i x t h1 h2
   simp only at h1 h2
   subst h1 h2
   exact Znq hT hop hd hE
  ·cases hE
 ·cases hE
def gdK :Kd→Bool
 |.ck .val|.ali _|.elm _ _ _|.bxf _ _|.ipt|.cln _=>true
 |_=>false
def Zi7 (κ:List Kd) (k:Kd) (d:Nat):Bool:=match k.bdep with|some q=>q≠d&&(kd κ q).isBox|none=>true
def gdV (b:PV) (want:Bool) (m:Option PV):Option PV:=
 match b with
 |.bool b=>if b=want then m else some .undef
 |.undef=>some .undef
 |_=>none
def gdV2 (b:PV) (want:Bool) (old:PV) (m:Option (PV×PV)):Option (PV×PV):=
 match b with
 |.bool b=>if b=want then m else some (.undef,old)
 |.undef=>some (.undef,old)
 |_=>none
def ZmH {R:Type} (T:Tab) (G:List Ent) (ops:Array Oper) (o:Oper) (κ:List Kd) (σ:List PV) (k:List Kd→List Nat→List PV→Option R):Option R:=
 match o.guard with
 | none=>
  match ipOf G o κ with
  |some (e,_,q)=>if Z7 κ σ o.op.operands.toList then (Zhd (vl σ q)).bind fun l=>(e.spec [.lst l]).bind fun r=>(Zhd r).bind fun r=>k (noCln true κ) [q] (σ.set q (.lst r)) else none
  |none=>
  match Zfg G o κ with
  |some (e,q,d,rest)=>(if Z7 κ σ o.op.operands.toList then (ZaB (rest.map (sv κ)) (rest.map (dv κ σ))).bind fun xs=>(e.spec (vl σ q::xs)).bind Zfe else none).bind fun p=>k (ZcJ (bxK κ q e.k0) d e.rk) [d,q] ((σ.set q p.2).set d p.1)
  |none=>
  match ptOf T G o κ with
  |some (e,t1,t2,d,E1,E2,κ1,κ2)=>(Znk e t1 t2 E1 E2 κ κ1 σ).bind fun p=>k (ZcJ κ2 d ptRk) [d,E2.tgt,E1.tgt] (((σ.set E1.tgt p.2.1).set E2.tgt p.2.2).set d p.1)
  |none=>
  match Zak (R:=R) T G o κ with
  |none=>none
  | some E=>
   match E.κ κ with
   |none=>none
   |some κ'=>if Z7 κ σ o.op.operands.toList then E.dyn (o.op.operands.toList.map (dv κ σ)) fun x=>k κ' [E.tgt] (σ.set E.tgt x) else none
 | some (j,want)=>
  match Zfg G o κ,(ops[j]?).bind (·.dst) with
  | some (e,q,d,rest),some t=>
   if e.rk=.ck .val&&kd κ t=.ck .val then
    (gdV2 (vl σ t) want (vl σ q) (if Z7 κ σ o.op.operands.toList then (ZaB (rest.map (sv κ)) (rest.map (dv κ σ))).bind fun xs=>(e.spec (vl σ q::xs)).bind Zfe else none)).bind fun p=>k (ZcJ (bxK κ q e.k0) d e.rk) [d,q] ((σ.set q p.2).set d p.1)
   else none
  |_,_=>
  match Zak (R:=PV) T G o κ,(ops[j]?).bind (·.dst) with
  | some E,some t=>
   if E.gh.isEmpty&&E.put&&gdK E.k&&o.dst=some E.tgt&&kd κ t=.ck .val&&Zi7 κ E.k E.tgt then
    match E.κ κ with
    |none=>none
    |some κ'=>(gdV (vl σ t) want (if Z7 κ σ o.op.operands.toList then E.dyn (o.op.operands.toList.map (dv κ σ)) some else none)).bind fun x=>k κ' [E.tgt] (σ.set E.tgt x)
   else none
  |_,_=>none
def ZlE {R:Type} (T:Tab) (G:List Ent) (ops:Array Oper):List Oper→List Kd→List Nat→List PV→(List Kd→List Nat→List PV→Option R)→Option R
 |[],κ,W,σ,k=>k κ W σ
 |o::r,κ,W,σ,k=>ZmH T G ops o κ σ fun κ' ts σ'=>ZlE T G ops r κ' (ts++W) σ' k
def fcB {α:Type} (b:Bool) (c:Bool→α):α:=match b with|true=>c true|false=>c false
def fcC {α:Type} (k:CK) (c:CK→α):α:=match k with|.none=>c .none|.val=>c .val|.nil=>c .nil|.own a e sz=>fcB a fun a=>c (.own a e sz)
def fcCs {α:Type}:List CK→(List CK→α)→α
 |[],c=>c []
 |k::r,c=>fcC k fun k=>fcCs r fun r=>c (k::r)
def fcP {α:Type} (p:Place) (c:Place→α):α:=match p with|.slot q=>c (.slot q)|.cell q o=>c (.cell q o)
def fcSh {α:Type}:List (Option Nat)→(List (Option Nat)→α)→α
 |[],c=>c []
 |none::r,c=>fcSh r fun r=>c (none::r)
 |some n::r,c=>fcSh r fun r=>c (some n::r)
def fcK {α:Type} (k:Kd) (c:Kd→α):α:=
 match k with
 |.ck k=>fcC k fun k=>c (.ck k)
 |.box T ks=>fcCs ks fun ks=>c (.box T ks)
 |.grp t ks=>fcB t fun t=>fcCs ks fun ks=>c (.grp t ks)
 |.ali p=>fcP p fun p=>c (.ali p)
 |.elm p sz off=>fcP p fun p=>c (.elm p sz off)
 |.bxf q off=>c (.bxf q off)
 |.ipt=>c .ipt
 |.clo f=>c (.clo f)
 |.cln f=>c (.cln f)
 |.mp k e=>c (.mp k e)
 |.tgr sh ks=>fcSh sh fun sh=>fcCs ks fun ks=>c (.tgr sh ks)
 |.tip=>c .tip
 |.mbx s=>c (.mbx s)
 |.tl q=>c (.tl q)
 |.tt=>c .tt
 |.gal q n=>c (.gal q n)
def fcL {α:Type}:List Kd→(List Kd→α)→α
 |[],c=>c []
 |k::r,c=>fcK k fun k=>fcL r fun r=>c (k::r)
def fcS {α:Type}:List PV→(List PV→α)→α
 |[],c=>c []
 |x::r,c=>fcS r fun r=>c (x::r)
def fcN {α:Type}:List Nat→(List Nat→α)→α
 |[],c=>c []
 |x::r,c=>fcN r fun r=>c (x::r)
theorem Zrh {α:Type} (b:Bool) (c:Bool→α):fcB b c=c b:=by cases b<;>rfl
theorem Zri {α:Type} (k:CK) (c:CK→α):fcC k c=c k:=by cases k<;>simp[fcC,Zrh]
theorem Zpp {α:Type}:∀(k:List CK) (c:List CK→α),fcCs k c=c k
 |[],c=>rfl
 |k::r,c=>by simp[fcCs,Zri,Zpp r]
theorem fcP_eq {α:Type} (p:Place) (c:Place→α):fcP p c=c p:=by cases p<;>rfl
theorem ZlF {α:Type}:∀(k:List (Option Nat)) (c:List (Option Nat)→α),fcSh k c=c k
 |[],c=>rfl
 |none::r,c=>by simp[fcSh,ZlF r]
 |some n::r,c=>by simp[fcSh,ZlF r]
theorem fcK_eq {α:Type} (k:Kd) (c:Kd→α):fcK k c=c k:=by cases k<;>simp[fcK,Zri,Zpp,fcP_eq,Zrh,ZlF]
theorem Zci {α:Type}:∀(k:List Kd) (c:List Kd→α),fcL k c=c k
 |[],c=>rfl
 |k::r,c=>by simp[fcL,fcK_eq,Zci r]
theorem Zcj {α:Type}:∀(k:List PV) (c:List PV→α),fcS k c=c k
 |[],c=>rfl
 |k::r,c=>by simp[fcS,Zcj r]
theorem Zi8 {α:Type}:∀(k:List Nat) (c:List Nat→α),fcN k c=c k
 |[],c=>rfl
 |k::r,c=>by simp[fcN,Zi8 r]
def ZlG (gh:List Gh) (tgt:Nat) (put:Bool) (k:Kd) (cut:Cut) (κ:List Kd):Option (List Kd):=
 if tgt<κ.length then match Zac tgt gh κ with|none=>none|some κ1=>match put with|true=>some (ZcJ (noCln (mdB put gh) κ1) tgt k)|false=>some (Zga (noCln (mdB put gh) κ1) tgt cut k) else none
theorem ZlH {R:Type} (E:Eff R) (κ:List Kd):E.κ κ=ZlG E.gh E.tgt E.put E.k E.cut κ:=by
 unfold Eff.κ ZlG
 split
 ·cases Zac E.tgt E.gh κ with
  |none=>rfl
  |some κ1=>cases hp:E.put<;>simp[Eff.md,hp]
 ·rfl
def hangs (κ:List Kd) (σ:List PV):List Operand→List PV
 |[]=>[]
 |x::r=>match (kOp κ x).hangs with|true=>vOp σ x::hangs κ σ r|false=>hangs κ σ r
def Za {R:Type} (l:List PV) (x:Option R):Option R:=if (l.all fun x=> !x.isU)=true then x else none
def ZdS {R:Type} (l:List PV) (x:Option R):Option R:=match l with|[]=>x|y::r=>Za (y::r) x
def Zrj (s:SV) (d:DV):Option Int:=
 match s.boxAt with
 | some (_,ks,off)=>match ks[off]? with
  |some .val=>((ZcQ s d)[off]?).bind u8n
  |_=>none
 | none=>match s.k with
  | .elm p sz off=>match Zfj s with
   |some (app,e,sz')=>if sz=1∧off=0∧sz'=1 then (Zbw s d).bind fun l=>elU8 l d.v else none
   |none=>none
  |_=>none
def Zok (e:Ent) (t1 t2:Nat) (E1 E2:Eff PV) (κ κ1:List Kd) (σ:List PV):Option (PV×PV×PV):=
 ZdS (hangs κ σ [.tmp t1,.tmp t2]) ((Zrj (sv κ (.tmp t1)) (dv κ σ (.tmp t1))).bind fun n1=>(Zrj (sv κ (.tmp t2)) (dv κ σ (.tmp t2))).bind fun n2=>((e.spec [.bool true,.int .u8 n1,.int .u8 n2]).bind as4).bind fun q=>
  (E1.dyn [dv κ σ (.tmp t1),cDV q.2.2.1] some).bind fun x1=>ZdS (hangs κ1 (σ.set E1.tgt x1) [.tmp t2]) ((E2.dyn [dv κ1 (σ.set E1.tgt x1) (.tmp t2),cDV q.2.2.2] some).bind fun x2=>some (.tup [.bool q.1,.bool q.2.1],x1,x2)))
theorem Zb7 {R:Type} (κ:List Kd) (σ:List PV) (l:List Operand) (x:Option R):ZdS (hangs κ σ l) x=if Z7 κ σ l then x else none:=by
 have h:((hangs κ σ l).all fun x=> !x.isU)=Z7 κ σ l:=by
  unfold Z7
  induction l with
  |nil=>rfl
  | cons y r ih=>
   unfold hangs
   rw[List.all_cons]
   cases e:(kOp κ y).hangs
   ·simp[ih]
   ·simp[ih]
 rw[←h]
 unfold ZdS
 split
 ·rename_i e;simp[e]
 ·rename_i e;rw[e];rfl
theorem Zqq (e:Ent) (t1 t2:Nat) (E1 E2:Eff PV) (κ κ1:List Kd) (σ:List PV):Zok e t1 t2 E1 E2 κ κ1 σ=Znk e t1 t2 E1 E2 κ κ1 σ:=by
 unfold Zok Znk
 simp only[Zb7]
 rfl
def Zol {R:Type} (T:Tab) (G:List Ent) (ops:Array Oper) (o:Oper) (κ:List Kd) (σ:List PV) (k:List Kd→List Nat→List PV→Option R):Option R:=
 match o.guard with
 | none=>
  match ipOf G o κ with
  |some (e,_,q)=>fcL (noCln true κ) fun κ'=>ZdS (hangs κ σ o.op.operands.toList) ((Zhd (vl σ q)).bind fun l=>(e.spec [.lst l]).bind fun r=>(Zhd r).bind fun r=>fcS (σ.set q (.lst r)) fun σ'=>k κ' [q] σ')
  |none=>
  match Zfg G o κ with
  |some (e,q,d,rest)=>fcL (ZcJ (bxK κ q e.k0) d e.rk) fun κ'=>(ZdS (hangs κ σ o.op.operands.toList) ((ZaB (rest.map (sv κ)) (rest.map (dv κ σ))).bind fun xs=>(e.spec (vl σ q::xs)).bind Zfe)).bind fun p=>fcS ((σ.set q p.2).set d p.1) fun σ'=>k κ' [d,q] σ'
  |none=>
  match ptOf T G o κ with
  |some (e,t1,t2,d,E1,E2,κ1,κ2)=>fcL κ1 fun κ1=>fcL (ZcJ κ2 d ptRk) fun κ'=>(Zok e t1 t2 E1 E2 κ κ1 σ).bind fun p=>fcS (((σ.set E1.tgt p.2.1).set E2.tgt p.2.2).set d p.1) fun σ'=>k κ' [d,E2.tgt,E1.tgt] σ'
  |none=>
  match Zak (R:=R) T G o κ with
  |none=>none
  | some ⟨gh,tgt,put,ek,cut,dyn⟩=>
   match ZlG gh tgt put ek cut κ with
   |none=>none
   |some κ'=>fcL κ' fun κ'=>ZdS (hangs κ σ o.op.operands.toList) (dyn (o.op.operands.toList.map (dv κ σ)) fun x=>fcS (σ.set tgt x) fun σ'=>k κ' [tgt] σ')
 | some (j,want)=>
  match Zfg G o κ,(ops[j]?).bind (·.dst) with
  | some (e,q,d,rest),some t=>
   if e.rk=.ck .val&&kd κ t=.ck .val then
    fcL (ZcJ (bxK κ q e.k0) d e.rk) fun κ'=>(gdV2 (vl σ t) want (vl σ q) (ZdS (hangs κ σ o.op.operands.toList) ((ZaB (rest.map (sv κ)) (rest.map (dv κ σ))).bind fun xs=>(e.spec (vl σ q::xs)).bind Zfe))).bind fun p=>fcS ((σ.set q p.2).set d p.1) fun σ'=>k κ' [d,q] σ'
   else none
  |_,_=>
  match Zak (R:=PV) T G o κ,(ops[j]?).bind (·.dst) with
  | some ⟨gh,tgt,put,ek,cut,dyn⟩,some t=>
   if gh.isEmpty&&put&&gdK ek&&o.dst=some tgt&&kd κ t=.ck .val&&Zi7 κ ek tgt then
    match ZlG gh tgt put ek cut κ with
    |none=>none
    |some κ'=>fcL κ' fun κ'=>(gdV (vl σ t) want (ZdS (hangs κ σ o.op.operands.toList) (dyn (o.op.operands.toList.map (dv κ σ)) some))).bind fun x=>fcS (σ.set tgt x) fun σ'=>k κ' [tgt] σ'
   else none
  |_,_=>none
theorem Zqr {R:Type} (T:Tab) (G:List Ent) (ops:Array Oper) (o:Oper) (κ:List Kd) (σ:List PV) (k:List Kd→List Nat→List PV→Option R):Zol T G ops o κ σ k=ZmH T G ops o κ σ k:=by
 unfold Zol ZmH
 cases o.guard with
 | none=>
  dsimp only
  cases ipOf G o κ with
  | some x=>
   obtain ⟨e,t,q⟩:=x
   simp only[Zci,Zcj,Zb7]
  |none=>
  dsimp only
  cases Zfg G o κ with
  | some x=>
   obtain ⟨e,q,d,rest⟩:=x
   simp only[Zci,Zcj,Zb7]
  |none=>
  dsimp only
  cases ptOf T G o κ with
  | some x=>
   obtain ⟨e,t1,t2,d,E1,E2,κ1,κ2⟩:=x
   simp only[Zci,Zcj,Zqq]
  |none=>
  dsimp only
  cases Zak (R:=R) T G o κ with
  |none=>rfl
  | some E=>
   obtain ⟨gh,tgt,put,ek,cut,dyn⟩:=E
   dsimp only
   rw[ZlH]
   dsimp only
   cases ZlG gh tgt put ek cut κ with
   |none=>rfl
   |some κ'=>simp only[Zci,Zcj,Zb7]
 | some g=>
  obtain ⟨j,want⟩:=g
  dsimp only
  have old:@Eq (Option R) (match Zak (R:=PV) T G o κ,(ops[j]?).bind (·.dst) with
   | some ⟨gh,tgt,put,ek,cut,dyn⟩,some t=>
    if gh.isEmpty&&put&&gdK ek&&o.dst=some tgt&&kd κ t=.ck .val&&Zi7 κ ek tgt then
     match ZlG gh tgt put ek cut κ with
     |none=>none
     |some κ'=>fcL κ' fun κ'=>(gdV (vl σ t) want (ZdS (hangs κ σ o.op.operands.toList) (dyn (o.op.operands.toList.map (dv κ σ)) some))).bind fun x=>fcS (σ.set tgt x) fun σ'=>k κ' [tgt] σ'
    else none
   |_,_=>none) (match Zak (R:=PV) T G o κ,(ops[j]?).bind (·.dst) with
   | some E,some t=>
    if E.gh.isEmpty&&E.put&&gdK E.k&&o.dst=some E.tgt&&kd κ t=.ck .val&&Zi7 κ E.k E.tgt then
     match E.κ κ with
     |none=>none
     |some κ'=>(gdV (vl σ t) want (if Z7 κ σ o.op.operands.toList then E.dyn (o.op.operands.toList.map (dv κ σ)) some else none)).bind fun x=>k κ' [E.tgt] (σ.set E.tgt x)
    else none
   |_,_=>none):=by
   cases Zak (R:=PV) T G o κ with
   |none=>rfl
   | some E=>
    obtain ⟨gh,tgt,put,ek,cut,dyn⟩:=E
    cases (ops[j]?).bind (·.dst) with
    |none=>rfl
    | some t=>
     dsimp only
     rw[ZlH]
     dsimp only
     cases ZlG gh tgt put ek cut κ with
     |none=>rfl
     |some κ'=>simp only[Zci,Zcj,Zb7]
  cases Zfg G o κ with
  |none=>exact old
  | some x=>
   obtain ⟨e,q,d,rest⟩:=x
   cases hd:(ops[j]?).bind (·.dst) with
   |none=>rw[hd] at old;exact old
   |some t=>simp only[Zci,Zcj,Zb7]
def ZiT {R:Type} (T:Tab) (G:List Ent) (ops:Array Oper):List Oper→List Kd→List Nat→List PV→(List Kd→List Nat→List PV→Option R)→Option R
 |[],κ,W,σ,k=>k κ W σ
 |o::r,κ,W,σ,k=>Zol T G ops o κ σ fun κ' ts σ'=>ZiT T G ops r κ' (ts++W) σ' k
theorem Zi9 {R:Type} (T:Tab) (G:List Ent) (ops:Array Oper):∀(l:List Oper) (κ:List Kd) (W:List Nat) (σ:List PV) (k:List Kd→List Nat→List PV→Option R),ZiT T G ops l κ W σ k=ZlE T G ops l κ W σ k
 |[],κ,W,σ,k=>rfl
 | o::r,κ,W,σ,k=>by
  unfold ZiT ZlE
  rw[Zqr]
  congr 1
  funext κ' t σ'
  exact Zi9 T G ops r κ' (t++W) σ' k
def Zrk (κ:List Kd):Bool:=κ.all fun k=>match k.bdep with|some q=>(kd κ q).isBox|none=>true
def Zeq (κ κ':List Kd):Bool:=
 κ.length=κ'.length&&(List.zipWith Zew κ κ').all id&&Zrk κ'
def ZcM (gh:List Gh) (k:Kd):Bool:=gh.any fun g=>g.cut.fn g.s k
def Eff.wr {R:Type} (E:Eff R):List Nat:=E.tgt::E.gh.map (·.s)
def Eff.kill {R:Type} (E:Eff R) (k:Kd):Bool:=ZcM E.gh k||(E.md&&k.isCln)||(if E.put then k.dep=some E.tgt else E.cut.fn E.tgt k)
def Zcd (o:Oper):List Nat:=o.op.operands.toList.filterMap fun|.tmp t=>some t|_=>none
def ZiU (ops:Array Oper) (o:Oper):List Nat:=match o.guard with|some (j,_)=>((ops[j]?).bind (·.dst)).toList|none=>[]
def Zja (κ:List Kd) (l:List Nat):List Nat:=l.filterMap fun s=>(kd κ s).dep
structure Stp where
 tgt:Nat
 two:Option Nat
 wr:List Nat
 kill:Kd→Bool
 dep:List Nat
def Eff.stp (E:Eff PV):Stp:=⟨E.tgt,none,E.wr,E.kill,E.k.dep.toList⟩
def Zg1 (q d:Nat):Stp:=⟨d,some q,[d,q],fun k=>k.isCln||(Zcs q k||decide (k.dep=some d)),[]⟩
def fstV :PV→PV
 |.tup (a::_)=>a
 |_=>.undef
def sndV :PV→PV
 |.tup (_::b::_)=>b
 |_=>.undef
def Stp.app (S:Stp) (σ:List PV) (x:PV):List PV:=match S.two with|none=>σ.set S.tgt x|some q=>(σ.set q (sndV x)).set S.tgt (fstV x)
def ZbD (ops:Array Oper) (o:Oper) (S:Stp) (κ:List Kd):List Nat:=
 S.dep++(ZiU ops o++(Zcd o++Zja κ (Zcd o)))
def apart (w1 v1 w2 v2:List Nat):Bool:=w1.all (fun s=> !w2.contains s&& !v2.contains s)&&w2.all (fun s=> !v1.contains s)
def Zom (T:Tab) (G:List Ent) (ops:Array Oper) (o:Oper) (κ:List Kd) {R:Type} (k:Stp→List Kd→(List PV→Option PV)→Option R):Option R:=
 match Zfg G o κ with
 | some (e,q,d,rest)=>
  (match o.guard with
  |none=>fcL (ZcJ (bxK κ q e.k0) d e.rk) fun κ'=>k (Zg1 q d) κ' (fun σ=>(ZdS (hangs κ σ o.op.operands.toList) ((ZaB (rest.map (sv κ)) (rest.map (dv κ σ))).bind fun xs=>(e.spec (vl σ q::xs)).bind Zfe)).bind fun p=>some (.tup [p.1,p.2]))
  | some (j,want)=>
   match (ops[j]?).bind (·.dst) with
   |none=>none
   | some t=>
    if e.rk=.ck .val&&kd κ t=.ck .val then
     fcL (ZcJ (bxK κ q e.k0) d e.rk) fun κ'=>k (Zg1 q d) κ' (fun σ=>(gdV2 (vl σ t) want (vl σ q) (ZdS (hangs κ σ o.op.operands.toList) ((ZaB (rest.map (sv κ)) (rest.map (dv κ σ))).bind fun xs=>(e.spec (vl σ q::xs)).bind Zfe))).bind fun p=>some (.tup [p.1,p.2]))
    else none)
 |none=>
 match Zak (R:=PV) T G o κ with
 |none=>none
 | some ⟨gh,tgt,put,ek,cut,dyn⟩=>
  match ZlG gh tgt put ek cut κ with
  |none=>none
  | some κ'=>
   fcL κ' fun κ'=>
   match o.guard with
   |none=>k (Eff.stp ⟨gh,tgt,put,ek,cut,dyn⟩) κ' (fun σ=>ZdS (hangs κ σ o.op.operands.toList) (dyn (o.op.operands.toList.map (dv κ σ)) some))
   | some (j,want)=>
    match (ops[j]?).bind (·.dst) with
    |none=>none
    | some t=>
     if gh.isEmpty&&put&&gdK ek&&o.dst=some tgt&&kd κ t=.ck .val&&Zi7 κ ek tgt then
      k (Eff.stp ⟨gh,tgt,put,ek,cut,dyn⟩) κ' (fun σ=>gdV (vl σ t) want (ZdS (hangs κ σ o.op.operands.toList) (dyn (o.op.operands.toList.map (dv κ σ)) some)))
     else none
def Zrl (E:Stp) (wr:List Nat) (κ:List Kd):Bool:=(List.range κ.length).all fun s=> !E.kill (kd κ s)||wr.contains s
def killS (E:Stp) (κ:List Kd):List Nat:=(List.range κ.length).filter fun s=>E.kill (kd κ s)&& !E.wr.contains s
structure StepD where
 i:Nat
 o:Oper
 E:Stp
 wr:List Nat
 v:List Nat
 old:List Kd
 nk:List Kd
 calm:Bool
 f:List PV→Option PV
def Zjb {R:Type} (T:Tab) (G:List Ent) (ops:Array Oper):List Oper→Nat→List Kd→(List StepD→List Kd→Option R)→Option R
 |[],_,κ,k=>k [] κ
 |o::r,i,κ,k=>Zom T G ops o κ fun E κ' f=>fcN (E.wr++killS E κ) fun wr=>fcN (ZbD ops o E κ) fun v=>Zjb T G ops r (i+1) κ' fun l κe=>k (⟨i,o,E,wr,v,wr.map (kd κ),wr.map (kd κ'),Zrl E wr κ,f⟩::l) κe
def StepD.ts (d:StepD):List Nat:=d.E.tgt::d.E.two.toList
def Zkr {R:Type}:List StepD→List PV→(List PV→Option R)→Option R
 |[],σ,k=>k σ
 |⟨_,_,⟨tgt,none,_,_,_⟩,_,_,_,_,_,f⟩::r,σ,k=>(f σ).bind fun x=>fcS (σ.set tgt x) fun σ'=>Zkr r σ' k
 |⟨_,_,⟨tgt,some q,_,_,_⟩,_,_,_,_,_,f⟩::r,σ,k=>(f σ).bind fun x=>(Zfe x).bind fun p=>fcS ((σ.set q p.2).set tgt p.1) fun σ'=>Zkr r σ' k
theorem Zqs {R:Type} {s:StepD} {r:List StepD} {σ:List PV} {k:List PV→Option R} {z:R} (h:Zkr (s::r) σ k=some z):∃x,s.f σ=some x∧Zkr r (s.E.app σ x) k=some z:=by
 obtain ⟨_,_,⟨tgt,two,_,_,_⟩,_,_,_,_,_,f⟩:=s
 cases two with
 | none=>
  obtain ⟨x,h1,h2⟩:=Option.bind_eq_some_iff.1 (show ((f σ).bind fun x=>fcS (σ.set tgt x) fun σ'=>Zkr r σ' k)=some z from h)
  rw[Zcj] at h2
  exact ⟨x,h1,h2⟩
 | some q=>
  obtain ⟨x,h1,h2⟩:=Option.bind_eq_some_iff.1 (show ((f σ).bind fun x=>(Zfe x).bind fun p=>fcS ((σ.set q p.2).set tgt p.1) fun σ'=>Zkr r σ' k)=some z from h)
  obtain ⟨p,h3,h4⟩:=Option.bind_eq_some_iff.1 h2
  rw[Zcj] at h4
  have:=Zfs h3
  subst this
  exact ⟨_,h1,h4⟩
def killed (κ:List Kd) (l:List StepD):List Nat:=(List.range κ.length).filter fun s=>l.any fun d=> !d.E.wr.contains s&&d.E.kill (kd κ s)
def Zrm (κ:List Kd) (Z:List Nat):List Kd:=Z.foldl (fun κ s=>κ.set s (.ck .none)) κ
def exOf (o:Oper):Option (Nat×Nat):=
 match o.guard with
 |some _=>none
 | none=>match o.op with
  |.extract (.tmp t) ix=>some (t,ix)
  |_=>none
def Zce (ix:Nat):Kd→Bool
 |.grp true ks=>(match ks[ix]? with|some .val=>true|_=>false)
 |_=>false
def apX (aE:Stp) (awr av:List Nat) (aold ank:List Kd) (bE:Stp) (bo:Oper) (bwr bv:List Nat) (bnk:List Kd):Bool:=
 match exOf bo with
 |none=>false
 | some (t,ix)=>match bv with
  | [t',q]=>(decide (t'=t)&&(decide (t≠q)&&(awr.contains q&&(decide (aE.tgt≠q)&&(decide (aE.two≠some q)&&
   (apart awr av bwr [t]&&(((awr.zip aold).all fun p=>p.1 !=q||Zce ix p.2)&&(((awr.zip ank).all fun p=>p.1 !=q||Zce ix p.2)&&
   ((aold.all fun k=> !bE.kill k)&&(bnk.all fun k=> !aE.kill k))))))))))
  |_=>false
def ZkY (o:Oper):Option Nat:=
 match o.guard with
 |some _=>none
 | none=>match o.op with
  |.move (.tmp t)=>some t
  |.nilCheck (.tmp t)=>some t
  |.fieldAddr _ (.tmp t) _=>some t
  |_=>none
def apP (aE:Stp) (ao:Oper) (awr av:List Nat) (aold:List Kd) (bE:Stp) (bwr bv:List Nat) (bold bnk:List Kd):Bool:=
 match ZkY ao with
 |none=>false
 | some t=>match av.getLast? with
  |none=>false
  | some q=>(bwr.contains q&&((awr.all fun s=> !bwr.contains s&& !bv.contains s)&&((decide (t=q)|| !bwr.contains t)&&
   (((bwr.zip bold).all fun p=>p.1 !=q||p.2.isBox)&&(((bwr.zip bnk).all fun p=>p.1 !=q||p.2.isBox)&&((aold.all fun k=> !bE.kill k)&&(bnk.all fun k=> !aE.kill k)))))))
def freeB (a b:StepD):Bool:=(apart a.wr a.v b.wr b.v&&(a.old.all fun k=> !b.E.kill k)&&(b.nk.all fun k=> !a.E.kill k))||(apX a.E a.wr a.v a.old a.nk b.E b.o b.wr b.v b.nk||apP a.E a.o a.wr a.v a.old b.E b.wr b.v b.old b.nk)
def addN (l:List Nat) (n:Nat):List Nat:=if l.contains n then l else n::l
def uniq (l:List Nat):List Nat:=l.foldl addN []
def ancOf (A:List (List Nat)) (o:Oper):List Nat:=(o.after.toList.filter fun e=>Region.binds .any e).flatMap fun e=>e.on::A.getD e.on []
def fcNN {α:Type}:List (List Nat)→(List (List Nat)→α)→α
 |[],c=>c []
 |x::r,c=>fcN x fun x=>fcNN r fun r=>c (x::r)
def ancT :List Oper→List (List Nat)→List (List Nat)
 |[],A=>A
 |o::r,A=>ancT r (A++[uniq (ancOf A o)])
def ZlI (A:List (List Nat)):List StepD→Bool
 |[]=>true
 |a::r=>(r.all fun b=>freeB a b||(A.getD b.i []).contains a.i)&&ZlI A r
def edgesB (l:List StepD):Bool:=l.all fun b=>b.o.after.all fun e=> !Region.binds .any e||e.on<b.i
def Zg2 (s:Nat):Nat→List CK→List CK→List CK→List Gh
 |i,.own app e sz::a,.val::b,.own app' e' sz'::c=>if app=app'∧e=e'∧sz=sz' then ⟨s,some i,true,app,e,sz⟩::Zg2 s (i+1) a b c else Zg2 s (i+1) a b c
 |i,_::a,_::b,_::c=>Zg2 s (i+1) a b c
 |_,_,_,_=>[]
def frzL (κ:List Kd) (l:List StepD):List Gh:=
 ((l.flatMap fun d=>((d.wr.zip d.old).zip d.nk).flatMap fun p=>match p.1.2,p.2,kd κ p.1.1 with
   |.box _ a,.box _ b,.box _ c=>Zg2 p.1.1 0 a b c
   |_,_,_=>[]).foldl (fun a g=>if a.any (fun h=>h.s==g.s&&h.i==g.i) then a else a++[g]) [])
def ZlJ {R:Type} (T:Tab) (G:List Ent) (ops:Array Oper) (κ:List Kd) (k:List StepD→List Kd→Option R) (els:List StepD→Option R):Option R:=
 Zjb T G ops ops.toList 0 κ fun l0 _=>fcN (killed κ l0) fun Z=>fcL (Zrm κ Z) fun κ0=>
  Zjb T G ops ops.toList 0 κ0 fun l κe=>if Zeq κ κ0&&ZlI (fcNN (ancT ops.toList []) fun A=>A) l&&edgesB l&&l.all (·.calm) then k l κe else els l0
def Zon {R:Type} (T:Tab) (G:List Ent) (ops:Array Oper) (κ:List Kd) (k:List StepD→List Kd→Option R):Option R:=
 ZlJ T G ops κ k fun l0=>match Zac κ.length (frzL κ l0) κ with|none=>none|some κg=>fcL κg fun κg=>ZlJ T G ops κg k fun _=>none
def frzC (s:Nat):Nat→List CK→List CK→List Gh
 |i,.own app e sz::a,.val::b=>⟨s,some i,true,app,e,sz⟩::frzC s (i+1) a b
 |i,_::a,_::b=>frzC s (i+1) a b
 |_,_,_=>[]
def frzK (s:Nat):Kd→Kd→List Gh
 |.ck (.own app e sz),.ck .val=>[⟨s,none,true,app,e,sz⟩]
 |.box _ a,.box _ b=>frzC s 0 a b
 |_,_=>[]
def frzJ :Nat→List Kd→List Kd→List Gh
 |s,k::κ,k'::κ'=>frzK s k k'++frzJ (s+1) κ κ'
 |_,_,_=>[]
def jnK (κ κ':List Kd):Option (List Kd):=match frzJ 0 κ κ' with|[]=>some κ|g::gs=>Zac κ.length (g::gs) κ
inductive Ctl where
 |normal
 |exit (id:Nat)
 |ret
def nth (J:List PV) (i:Nat):PV:=J.getD i .undef
def Zap (J:List PV):List PV→Nat→List Nat→List PV
 |σ,_,[]=>σ
 |σ,i,s::r=>Zap J (σ.set s (nth J i)) (i+1) r
def ZmI (σ:List PV) (js:List Nat):List PV:=js.map (vl σ)
def ZaL (κ:List Kd) (W:List Nat):List Nat:=W.filter fun s=>kd κ s≠.ck .none
def joinK0 {R:Type} (body:(List PV→Option R)→Option R) (k:List PV→Option R):Option R:=body k
theorem ZmJ {R:Type}:∃g:((List PV→Option R)→Option R)→(List PV→Option R)→Option R,g=joinK0:=⟨_,rfl⟩
noncomputable def Zbz {R:Type} (body:(List PV→Option R)→Option R) (k:List PV→Option R):Option R:=ZmJ.choose body k
theorem Zer {R:Type} (body:(List PV→Option R)→Option R) (k:List PV→Option R):Zbz body k=body k:=by
 unfold Zbz
 rw[ZmJ.choose_spec]
 rfl
def ZhO {R:Type} (f:(List PV→Option R)→List PV→Option R):Nat→List PV→Option R
 |0,_=>none
 |n+1,J=>f (ZhO f n) J
theorem ZmK {R:Type}:∃g:((List PV→Option R)→List PV→Option R)→Nat→List PV→Option R,g=ZhO:=⟨_,rfl⟩
noncomputable def Z0 {R:Type} (f:(List PV→Option R)→List PV→Option R) (n:Nat) (J:List PV):Option R:=ZmK.choose f n J
theorem Zjc {R:Type} (f:(List PV→Option R)→List PV→Option R) (n:Nat) (J:List PV):Z0 f n J=ZhO f n J:=by
 unfold Z0
 rw[ZmK.choose_spec]
def fuel :Nat:=18446744073709551616
def subW (W W':List Nat):Bool:=W.all fun s=>W'.contains s
def Zeg {R:Type} (κj:List Kd) (Wj:List Nat) (k:List PV→Option R) (κ':List Kd) (W':List Nat) (σ':List PV):Option R:=
 match jnK κ' κj with
 |none=>none
 |some κ1=>if Zeq κ1 κj&&subW W' Wj then k (ZmI σ' (ZaL κj Wj)) else none
abbrev Knt (R:Type):=Ctl→List Kd→List Nat→List PV→Option R
def ZeG {R:Type} (W:List Nat) (K:Knt R) (f:List Kd→List Nat→List PV→Option R):Knt R
 |.normal,κ,W',σ=>f κ W' σ
 |.exit i,κ,W',σ=>K (.exit i) κ (W++W') σ
 |.ret,κ,W',σ=>K .ret κ (W++W') σ
theorem Zgi {R:Type} (W:List Nat) (K:Knt R) (f:List Kd→List Nat→List PV→Option R) (κ:List Kd) (W':List Nat) (σ:List PV):ZeG W K f .normal κ W' σ=f κ W' σ:=rfl
def toEnd {R:Type} (id:Nat) (K:Knt R):Knt R
 |.normal,κ,W,σ=>K .normal κ W σ
 |.exit i,κ,W,σ=>if i=id then K .normal κ W σ else K (.exit i) κ W σ
 |.ret,κ,W,σ=>K .ret κ W σ
def toEndJ {R:Type} (id:Nat) (W:List Nat) (K:Knt R) (f:List Kd→List Nat→List PV→Option R):Knt R
 |.normal,κ,W',σ=>f κ W' σ
 |.exit i,κ,W',σ=>if i=id then f κ W' σ else K (.exit i) κ (W++W') σ
 |.ret,κ,W',σ=>K .ret κ (W++W') σ
abbrev Zip :=List (Nat×List Kd×List Nat)
structure KR where
 normal:Option (List Kd×List Nat)
 exits:List (Nat×List Kd×List Nat)
 hints:Zip
def ways :Nat→KR→List (List Kd×List Nat)
 |id,r=>(match r.normal with|none=>[]|some x=>[x])++(r.exits.filter fun e=>e.1=id).map (·.2)
noncomputable def ZeH {R:Type} (T:Tab) (G:List Ent) (H:Zip):Nat→Code→List Kd→List Nat→List PV→Knt R→Option R
 |p,.skip,κ,W,σ,K=>K .normal κ W σ
 |p,.region _ ops false,κ,W,σ,K=>ZiT T G ops ops.toList κ W σ (K .normal)
 |p,.region _ ops true,κ,W,σ,K=>Zon T G ops κ fun l κe=>fcN (l.flatMap StepD.ts++W) fun W'=>Zkr l σ (K .normal κe W')
 |p,.seq a b,κ,W,σ,K=>ZeH T G H (2 * p) a κ W σ (ZeG [] K fun κ' W' σ'=>ZeH T G H (2 * p+1) b κ' W' σ' K)
 | p, .cond c a b,κ,W,σ,K=>
  if isV κ c then
   (asB (vOp σ c)).bind fun t=>
    match H.lookup p with
    | some j=>
     Zbz (fun k=>if t then ZeH T G H (2 * p) a κ [] σ (ZeG W K (Zeg j.1 j.2 k)) else ZeH T G H (2 * p+1) b κ [] σ (ZeG W K (Zeg j.1 j.2 k)))
      (fun J=>fcS (Zap J σ 0 (ZaL j.1 j.2)) fun σ'=>K .normal j.1 (W++j.2) σ')
    |none=>if t then ZeH T G H (2 * p) a κ W σ K else ZeH T G H (2 * p+1) b κ W σ K
  else none
 | p,.block id c,κ,W,σ,K=>
  match H.lookup p with
  |none=>ZeH T G H (2 * p) c κ W σ (toEnd id K)
  | some j=>
   Zbz (fun k=>ZeH T G H (2 * p) c κ [] σ (toEndJ id W K (Zeg j.1 j.2 k))) (fun J=>fcS (Zap J σ 0 (ZaL j.1 j.2)) fun σ'=>K .normal j.1 (W++j.2) σ')
 | p,.loop c,κ,W,σ,K=>
  match H.lookup p with
  |none=>none
  | some L=>
   match jnK κ L.1 with
   |none=>none
   |some κ1=>
   if Zeq κ1 L.1 then
    Z0 (fun again J=>fcS (Zap J σ 0 (ZaL L.1 L.2)) fun σ'=>ZeH T G H (2 * p) c L.1 [] σ' (ZeG (W++L.2) K (Zeg L.1 L.2 again))) fuel (ZmI σ (ZaL L.1 L.2))
   else none
 |p,.exit id,κ,W,σ,K=>K (.exit id) κ W σ
 |p,.ret,κ,W,σ,K=>K .ret κ W σ
 |_,_,_,_,_,_=>none
section
variable {R :Type} {P:Program} {T:Tab} {G:List Ent}
variable {w0 :World} {F0:Nat→Prop} {X0:List Nat} {κ κ':List Kd} {σ σ':List PV} {τ:Array Value} {w:World} {F:Nat→Prop} {fp:Nat→List Nat}
theorem Zqu {a b:Kd} (h:Zew a b=true) (hb:b≠.ck .none) (hd:b.dep≠none):a=b:=by
 unfold Zew at h
 split at h
 ·exact absurd rfl hd
 ·exact absurd rfl hd
 ·simpa using h
theorem ZmL {κ κ':List Kd} (h:Zeq κ κ'=true) (s:Nat):Zew (kd κ s) (kd κ' s)=true:=by
 unfold Zeq at h
 simp only[Bool.and_eq_true,decide_eq_true_eq] at h
 obtain ⟨⟨hl,h⟩,_⟩:=h
 unfold kd
 rw[List.getD_eq_getElem?_getD,List.getD_eq_getElem?_getD]
 by_cases hs:s<κ.length
 ·have hs':s<κ'.length:=by omega
  rw[List.getElem?_eq_getElem hs,List.getElem?_eq_getElem hs']
  have:=List.all_eq_true.1 h (Zew κ[s] κ'[s]) (List.mem_of_getElem? (i:=s) (by rw[List.getElem?_zipWith,List.getElem?_eq_getElem hs,List.getElem?_eq_getElem hs']))
  simpa using this
 ·have hs':¬s<κ'.length:=by omega
  rw[List.getElem?_eq_none (by omega),List.getElem?_eq_none (by omega)]
  rfl
theorem St.weak (h:St w0 F0 X0 κ σ τ w F fp) (hw:Zeq κ κ'=true) (hl:σ'.length=σ.length) (hv:∀s,kd κ' s≠.ck .none→vl σ' s=vl σ s):St w0 F0 X0 κ' σ' τ w F fp:=by
 have hlen:κ'.length=κ.length:=by
  unfold Zeq at hw
  simp only[Bool.and_eq_true,decide_eq_true_eq] at hw
  exact hw.1.1.symm
 refine {h with lk:=hlen.trans h.lk,ls:=hl.trans h.ls,sr:=fun s=> ?_,al:=fun s hu=> ?_,bx:=fun s q hq=> ?_}
 ·by_cases e:kd κ' s=.ck .none
  ·rw[e];exact ⟨[],List.nodup_nil,by simp,rfl⟩
  ·rw[hv s e]
   obtain ⟨l,h1,h2,h3⟩:=h.sr s
   obtain ⟨l',g1,g2,g3⟩:=Zfq (ZmL hw s) h1 h3
   exact ⟨l',g1,fun b hb=>h2 b (g2 b hb),g3⟩
 ·by_cases e:kd κ' s=.ck .none
  ·rw[e];trivial
  ·by_cases hd:(kd κ' s).dep=none
   ·exact ZbV hd _ _
   ·have e1:=Zqu (ZmL hw s) e hd
    rw[←e1,hv s e]
    rw[hv s e] at hu
    exact h.al s hu
 ·unfold Zeq at hw
  simp only[Bool.and_eq_true,decide_eq_true_eq] at hw
  have h3:=hw.2
  unfold kd at hq
  rw[List.getD_eq_getElem?_getD] at hq
  cases hs:κ'[s]? with
  |none=>rw[hs] at hq;simp[Kd.bdep] at hq
  | some k=>
   rw[hs] at hq
   unfold Zrk at h3
   have:=List.all_eq_true.1 h3 k (List.mem_of_getElem? hs)
   simp only[Option.getD_some] at hq
   rw[hq] at this
   exact this
def Off (σ0 σ:List PV) (W:List Nat):Prop:=σ.length=σ0.length∧∀s,s∉W→vl σ s=vl σ0 s
theorem Off.one (σ:List PV) (t:Nat) (x:PV):Off σ (σ.set t x) [t]:=⟨by simp,fun s hs=>by rw[Zbk,if_neg (by intro hc;exact hs (by simp[hc.1]))]⟩
theorem Off.two (σ:List PV) (q d:Nat) (x y:PV):Off σ ((σ.set q x).set d y) [d,q]:=⟨by simp,fun s hs=>by
 simp only[List.mem_cons,List.not_mem_nil,or_false,not_or] at hs
 rw[Zbk,if_neg (by intro hc;exact hs.1 hc.1),Zbk,if_neg (by intro hc;exact hs.2 hc.1)]⟩
theorem Off.three (σ:List PV) (q s d:Nat) (x y z:PV):Off σ (((σ.set q x).set s y).set d z) [d,s,q]:=⟨by simp,fun t hs=>by
 simp only[List.mem_cons,List.not_mem_nil,or_false,not_or] at hs
 rw[Zbk,if_neg (by intro hc;exact hs.1 hc.1),Zbk,if_neg (by intro hc;exact hs.2.1 hc.1),Zbk,if_neg (by intro hc;exact hs.2.2 hc.1)]⟩
theorem Off.refl (σ:List PV) (W:List Nat):Off σ σ W:=⟨rfl,fun _ _=>rfl⟩
theorem Z2 (J:List PV):∀(js:List Nat) (σ:List PV) (i:Nat),(Zap J σ i js).length=σ.length
 |[],_,_=>rfl
 |s::r,σ,i=>by rw[Zap,Z2 J r];simp
theorem ZeI (J:List PV) (src:List PV):∀(js:List Nat) (σ:List PV) (i:Nat),(∀k,k<js.length→nth J (i+k)=vl src (js.getD k 0))→∀s,s<σ.length→vl (Zap J σ i js) s=if s∈js then vl src s else vl σ s
 |[],σ,i,_,s,_=>by simp[Zap]
 | t::r,σ,i,h,s,hs=>by
  rw[Zap,ZeI J src r (σ.set t (nth J i)) (i+1) (fun k hk=>by have:=h (k+1) (by simpa using hk);rw[show i+1+k=i+(k+1) from by omega,this];simp) s (by simpa using hs)]
  have h0:=h 0 (by simp)
  simp at h0
  rw[Zbk,h0]
  by_cases e:s∈r
  ·simp[e]
  ·by_cases e2:s=t
   ·subst e2;simp[e,hs]
   ·simp[e,e2]
theorem Zjd (σ:List PV) (js:List Nat) (k:Nat) (hk:k<js.length):nth (ZmI σ js) k=vl σ (js.getD k 0):=by
 simp[nth,ZmI,List.getD_eq_getElem?_getD,hk]
theorem Zrn {W W':List Nat} (h:subW W W'=true) {s:Nat} (hs:s∈W):s∈W':=by
 have:=List.all_eq_true.1 h s hs
 simpa using this
theorem St.join (h:St w0 F0 X0 κ σ' τ w F fp) {σ:List PV} {κj:List Kd} {W Wj:List Nat} (hw:Zeq κ κj=true) (hs:subW W Wj=true) (ho:Off σ σ' W):St w0 F0 X0 κj (Zap (ZmI σ' (ZaL κj Wj)) σ 0 (ZaL κj Wj)) τ w F fp:=by
 refine h.weak hw (by rw[Z2];exact ho.1.symm) fun s he=> ?_
 by_cases hsl:s<σ.length
 ·rw[ZeI _ σ' _ σ 0 (fun k hk=>by rw[Nat.zero_add];exact Zjd σ' _ k hk) s hsl]
  split
  ·rfl
  ·rename_i hn
   refine (ho.2 s fun hc=>hn ?_).symm
   exact List.mem_filter.2 ⟨Zrn hs hc,by simpa using he⟩
 ·have e1:vl σ' s=.undef:=by unfold vl;rw[List.getD_eq_getElem?_getD,List.getElem?_eq_none (by rw[ho.1];omega)];rfl
  have e2:vl (Zap (ZmI σ' (ZaL κj Wj)) σ 0 (ZaL κj Wj)) s=.undef:=by unfold vl;rw[List.getD_eq_getElem?_getD,List.getElem?_eq_none (by rw[Z2];omega)];rfl
  rw[e1,e2]
theorem ZeJ {σ0 σ:List PV} {W:List Nat} (h:Off σ0 σ W) (J:List PV):∀(js:List Nat) (i:Nat) (W':List Nat),(∀s∈W,s∈W')→(∀s∈js,s∈W')→Off σ0 (Zap J σ i js) W':=by
 intro js
 induction js generalizing σ W with
 |nil=>intro i W' h1 _;exact ⟨h.1,fun s hs=>h.2 s fun hc=>hs (h1 s hc)⟩
 | cons t r ih=>
  intro i W' h1 h2
  rw[Zap]
  refine ih (σ:=σ.set t (nth J i)) (W:=t::W) ⟨by simpa using h.1,fun s hs=> ?_⟩ (i+1) W' (fun s hs=> ?_) (fun s hs=>h2 s (List.mem_cons_of_mem _ hs))
  ·simp only[List.mem_cons,not_or] at hs
   rw[Zbk,if_neg (by simp[hs.1])]
   exact h.2 s hs.2
  ·rcases List.mem_cons.1 hs with rfl|hs
   ·exact h2 s List.mem_cons_self
   ·exact h1 s hs
theorem Zgp (κ:List Kd) (W:List Nat):∀s∈ZaL κ W,s∈W:=fun s hs=>(List.mem_filter.1 hs).1
end
section
variable {R :Type} {P:Program} {T:Tab} {G:List Ent}
variable {w0 :World} {F0:Nat→Prop} {X0:List Nat}
theorem ZbE {ops:Array Oper} {j:Nat} {t:Nat} {tmps:Array Value} (h:(ops[j]?).bind (·.dst)=some t):yielded ops tmps j=match tv tmps t with|.bool b=>some b|_=>none:=by
 unfold yielded
 rw[h]
 simp only[Option.bind_some]
 unfold tv
 rw[Array.getD_eq_getD_getElem?]
 cases tmps[t]? with
 |none=>rfl
 |some v=>cases v<;>rfl
theorem ZmM (hT:TabOk P T) (hG:∀e∈G,FnOk P e) {ops:Array Oper} {o:Oper} {κ:List Kd} {σ:List PV} {k:List Kd→List Nat→List PV→Option R} {r:R} (hr:ZmH T G ops o κ σ k=some r) {a:Act} {w:World} {F:Nat→Prop} {fp:Nat→List Nat} (h:St w0 F0 X0 κ σ a.tmps w F fp)
 {K:Act→World→Prop} {Q:Exit→Act→World→Prop} (hK:∀κ' ts σ' (v:Value) w' F' fp',St w0 F0 X0 κ' σ' (a.put o.dst v).tmps w' F' fp'→Off σ σ' ts→k κ' ts σ'=some r→K (a.put o.dst v) w'):
 if Region.wanted o (yielded ops a.tmps) then o.wp P a w K Q∨(o.asks P a w∧LetsOut Q) else K (a.put o.dst undef) w:=by
 unfold ZmH at hr
 split at hr
 ·rename_i hg
  rw[if_pos (by simp[Region.wanted,hg])]
  split at hr
  ·
   rename_i e t q hi
   split at hr
   case isFalse=>cases hr
   rename_i hlv
   obtain ⟨l,hl,hr⟩:=Option.bind_eq_some_iff.1 hr
   obtain ⟨r0,hs,hr⟩:=Option.bind_eq_some_iff.1 hr
   obtain ⟨r1,hr1,hr⟩:=Option.bind_eq_some_iff.1 hr
   exact .inl (Zr3 hG hi hlv (Zni hl) (by rw[hs,Zni hr1]) h fun v w' hst=>hK _ _ _ v w' F fp hst (Off.one _ _ _) hr)
  split at hr
  ·
   rename_i e q d rest hi
   obtain ⟨p,hp,hr⟩:=Option.bind_eq_some_iff.1 hr
   split at hp
   case isFalse=>cases hp
   rename_i hlv
   obtain ⟨xs,hx,hp⟩:=Option.bind_eq_some_iff.1 hp
   obtain ⟨z,hz,hp⟩:=Option.bind_eq_some_iff.1 hp
   rw[Zfs hp] at hz
   exact .inl (Zhe hG hi hlv hx hz h fun v w' F' fp' hst=>hK _ _ _ v w' F' fp' hst (Off.two _ _ _ _ _) hr)
  split at hr
  ·
   rename_i e t1 t2 d E1 E2 κ1 κ2 hi
   obtain ⟨p,hp,hr⟩:=Option.bind_eq_some_iff.1 hr
   obtain ⟨x0,x1,x2⟩:=p
   exact .inl (Zr6 hT hG hi hp h fun v w' F' fp' hst=>hK _ _ _ v w' F' fp' hst (Off.three _ _ _ _ _ _ _) hr)
  split at hr
  ·cases hr
  rename_i E hE
  split at hr
  ·cases hr
  rename_i κ' hκ
  split at hr
  case isFalse=>cases hr
  rename_i hlv
  exact .inl (Zg0 hT hG hE w0 F0 X0 κ' σ a w F fp _ r K Q h hκ hlv hr fun x v w' F' fp' hst hk=>hK _ _ _ v w' F' fp' hst (Off.one _ _ _) hk)
 ·rename_i j want hg
  split at hr
  ·
   rename_i e q d rest t hi ht
   split at hr
   case isFalse=>cases hr
   rename_i hc
   simp only[Bool.and_eq_true,decide_eq_true_eq] at hc
   obtain ⟨hc1,hc5⟩:=hc
   obtain ⟨p,hp,hr⟩:=Option.bind_eq_some_iff.1 hr
   obtain ⟨l,_,_,hsr⟩:=h.sr t
   rw[hc5] at hsr
   have hvt:=hsr.1
   have skip:p=(.undef,vl σ q)→K (a.put o.dst undef) w:=by
    rintro rfl
    obtain ⟨fp',hst⟩:=ZpV hG hi hc1 h
    exact hK _ _ _ undef w F fp' hst (Off.two _ _ _ _ _) hr
   unfold gdV2 at hp
   split at hp
   ·rename_i b hb
    rw[hb] at hvt
    have hvt:=hvt.bool_eq
    have hy:yielded ops a.tmps j=some b:=by rw[ZbE ht,hvt]
    by_cases hbw:b=want
    ·rw[if_pos hbw] at hp
     rw[if_pos (by simp[Region.wanted,hg,hy,hbw])]
     split at hp
     case isFalse=>cases hp
     rename_i hlv
     obtain ⟨xs,hx,hp⟩:=Option.bind_eq_some_iff.1 hp
     obtain ⟨z,hz,hp⟩:=Option.bind_eq_some_iff.1 hp
     rw[Zfs hp] at hz
     exact .inl (Zhe hG hi hlv hx hz h fun v w' F' fp' hst=>hK _ _ _ v w' F' fp' hst (Off.two _ _ _ _ _) hr)
    ·rw[if_neg hbw] at hp
     rw[if_neg (by simp[Region.wanted,hg,hy,hbw])]
     exact skip (by cases hp;rfl)
   ·rename_i hb
    rw[hb] at hvt
    have hy:yielded ops a.tmps j=none:=by
     rw[ZbE ht]
     generalize tv a.tmps t=v at hvt
     cases hvt
     rfl
    rw[if_neg (by simp[Region.wanted,hg,hy])]
    exact skip (by cases hp;rfl)
   ·cases hp
  split at hr
  case h_2=>cases hr
  rename_i E t hE ht
  split at hr
  case isFalse=>cases hr
  rename_i hc
  simp only[Bool.and_eq_true,decide_eq_true_eq] at hc
  obtain ⟨⟨⟨⟨⟨hc1,hc2⟩,hc3⟩,hc4⟩,hc5⟩,hc6⟩:=hc
  split at hr
  ·cases hr
  rename_i κ' hκ
  obtain ⟨x,hx,hkx⟩:=Option.bind_eq_some_iff.1 hr
  obtain ⟨l,_,_,hsr⟩:=h.sr t
  rw[hc5] at hsr
  have hvt:=hsr.1
  have hgh:E.gh=[]:=by simpa using hc1
  have skip:x=.undef→K (a.put o.dst undef) w:=by
   rintro rfl
   have hmd:E.md=false:=by unfold Eff.md;rw[hgh,hc2];rfl
   unfold Eff.κ at hκ
   rw[hmd,hgh,hc2] at hκ
   split at hκ
   case isFalse=>cases hκ
   rename_i htgt
   simp only[Zac,Option.map_some,if_true,Option.some.injEq] at hκ
   subst hκ
   have hdd:∀q,E.k.bdep=some q→q≠E.tgt∧(kd κ q).isBox=true:=fun q hq=>by
    unfold Zi7 at hc6
    rw[hq] at hc6
    simpa using hc6
   refine hK _ _ _ undef w F (fun s=>if s=E.tgt then [] else fp s) ?_ (Off.one _ _ _) hkx
   rw[hc4]
   refine h.putA htgt (Adds.refl w h.fl) List.nodup_nil ?_ (by simp) (fun hu=>absurd rfl hu) hdd
   revert hc3
   cases E.k with
   |ck c=>cases c<;>simp[gdK];exact ⟨.undef,rfl⟩
   |ali p=>intro _;rfl
   |elm p sz off=>intro _;rfl
   |bxf q off=>intro _;rfl
   |cln f=>intro _;exact ⟨⟨#[],[],.inr rfl⟩,rfl⟩
   |ipt=>intro _;exact ⟨fun hu=>absurd rfl hu,rfl⟩
   |_=>simp[gdK]
  unfold gdV at hx
  split at hx
  ·rename_i b hb
   rw[hb] at hvt
   have hvt:=hvt.bool_eq
   have hy:yielded ops a.tmps j=some b:=by rw[ZbE ht,hvt]
   by_cases hbw:b=want
   ·rw[if_pos hbw] at hx
    rw[if_pos (by simp[Region.wanted,hg,hy,hbw])]
    split at hx
    case isFalse=>cases hx
    rename_i hlv
    exact .inl (Zg0 hT hG hE w0 F0 X0 κ' σ a w F fp _ x K Q h hκ hlv hx fun x' v w' F' fp' hst hk=>by
     cases hk
     exact hK _ _ _ v w' F' fp' hst (Off.one _ _ _) hkx)
   ·rw[if_neg hbw] at hx
    rw[if_neg (by simp[Region.wanted,hg,hy,hbw])]
    exact skip (by cases hx;rfl)
  ·rename_i hb
   rw[hb] at hvt
   have hy:yielded ops a.tmps j=none:=by
    rw[ZbE ht]
    generalize tv a.tmps t=v at hvt
    cases hvt
    rfl
   rw[if_neg (by simp[Region.wanted,hg,hy])]
   exact skip (by cases hx;rfl)
  ·cases hx
theorem ZmN {ops:Array Oper} {Q:Exit→Act→World→Prop} {o:Oper} {rest:List Oper} {a:Act} {w:World} (h:if Region.wanted o (yielded ops a.tmps) then o.wp P a w (wpList P ops Q rest) Q∨(o.asks P a w∧LetsOut Q) else wpList P ops Q rest (a.put o.dst undef) w):wpList P ops Q (o::rest) a w:=h
def Iv (V:Option (Nat×Value)) (a:Act):Prop:=a.defers=[]∧∀s v,V=some (s,v)→tv a.tmps s=v
def nd (V:Option (Nat×Value)) (o:Oper):Prop:=∀s v,V=some (s,v)→o.dst≠some s
theorem Iv.put {V:Option (Nat×Value)} {a:Act} (h:Iv V a) {o:Oper} (ho:nd V o) (v:Value):Iv V (a.put o.dst v):=by
 cases hd:o.dst with
 |none=>exact h
 | some d=>
  refine ⟨h.1,fun s u hs=> ?_⟩
  have:=ho s u hs
  show tv (a.tmps.setIfInBounds d v) s=u
  rw[Za6,if_neg (by rintro ⟨rfl,_⟩;exact this hd)]
  exact h.2 s u hs
theorem Zg3 (hT:TabOk P T) (hG:∀e∈G,FnOk P e) {ops:Array Oper} {Q:Exit→Act→World→Prop} {k:List Kd→List Nat→List PV→Option R} {r:R} {σ0:List PV} {V:Option (Nat×Value)}:∀(l:List Oper) (κ:List Kd) (W:List Nat) (σ:List PV) (a:Act) (w:World) (F:Nat→Prop) (fp:Nat→List Nat),ZlE T G ops l κ W σ k=some r→St w0 F0 X0 κ σ a.tmps w F fp→Off σ0 σ W→Iv V a→(∀o∈l,nd V o)→
 (∀κ' W' σ' (a':Act) w' F' fp',St w0 F0 X0 κ' σ' a'.tmps w' F' fp'→Off σ0 σ' W'→Iv V a'→k κ' W' σ'=some r→Q .normal a' w')→wpList P ops Q l a w
 |[],κ,W,σ,a,w,F,fp,hr,h,ho,hd,_,hk=>wpList_nil (hk κ W σ a w F fp h ho hd hr)
 | o::l,κ,W,σ,a,w,F,fp,hr,h,ho,hd,hn,hk=>by
  refine ZmN (ZmM hT hG hr h fun κ' t σ' v w' F' fp' hst hx hk'=> ?_)
  refine Zg3 hT hG l κ' (t++W) _ _ w' F' fp' hk' hst ⟨hx.1.trans ho.1,fun s hs=> ?_⟩ (hd.put (hn o List.mem_cons_self) v) (fun o' ho'=>hn o' (List.mem_cons_of_mem _ ho')) hk
  simp only[List.mem_append,not_or] at hs
  exact (hx.2 s hs.1).trans (ho.2 s hs.2)
end
def ZdT (T:Tab) (G:List Ent) (ops:Array Oper) (o:Oper) (κ:List Kd):Option (List Kd×Nat×(List PV→Option PV)):=
 match Zak (R:=PV) T G o κ with
 |none=>none
 | some E=>
  match E.κ κ with
  |none=>none
  | some κ'=>
   match o.guard with
   |none=>some (κ',E.tgt,fun σ=>if Z7 κ σ o.op.operands.toList then E.dyn (o.op.operands.toList.map (dv κ σ)) some else none)
   | some (j,want)=>
    match (ops[j]?).bind (·.dst) with
    |none=>none
    | some t=>
     if E.gh.isEmpty&&E.put&&gdK E.k&&o.dst=some E.tgt&&kd κ t=.ck .val&&Zi7 κ E.k E.tgt then
      some (κ',E.tgt,fun σ=>gdV (vl σ t) want (if Z7 κ σ o.op.operands.toList then E.dyn (o.op.operands.toList.map (dv κ σ)) some else none))
     else none
section
variable {P :Program} {T:Tab} {G:List Ent}
variable {w0 :World} {F0:Nat→Prop} {X0:List Nat}
theorem ZmO (hT:TabOk P T) (hG:∀e∈G,FnOk P e) {ops:Array Oper} {o:Oper} {κ κ':List Kd} {σ:List PV} {tgt:Nat} {f:List PV→Option PV} {x:PV} (hs:ZdT T G ops o κ=some (κ',tgt,f)) (hx:f σ=some x) {a:Act} {w:World} {F:Nat→Prop} {fp:Nat→List Nat} (h:St w0 F0 X0 κ σ a.tmps w F fp)
 {K:Act→World→Prop} {Q:Exit→Act→World→Prop} (hK:∀(v:Value) w' F' fp',St w0 F0 X0 κ' (σ.set tgt x) (a.put o.dst v).tmps w' F' fp'→K (a.put o.dst v) w'):
 if Region.wanted o (yielded ops a.tmps) then o.wp P a w K Q∨(o.asks P a w∧LetsOut Q) else K (a.put o.dst undef) w:=by
 unfold ZdT at hs
 split at hs
 ·cases hs
 rename_i E hE
 split at hs
 ·cases hs
 rename_i κ1 hκ
 split at hs
 ·rename_i hg
  cases hs
  rw[if_pos (by simp[Region.wanted,hg])]
  dsimp only at hx
  split at hx
  case isFalse=>cases hx
  rename_i hlv
  exact .inl (Zg0 hT hG hE w0 F0 X0 κ' σ a w F fp _ x K Q h hκ hlv hx fun x' v w' F' fp' hst hk=>by
   cases hk
   exact hK v w' F' fp' hst)
 ·rename_i j want hg
  split at hs
  ·cases hs
  rename_i t ht
  split at hs
  case isFalse=>cases hs
  rename_i hc
  cases hs
  dsimp only at hx
  simp only[Bool.and_eq_true,decide_eq_true_eq] at hc
  obtain ⟨⟨⟨⟨⟨hc1,hc2⟩,hc3⟩,hc4⟩,hc5⟩,hc6⟩:=hc
  obtain ⟨l,_,_,hsr⟩:=h.sr t
  rw[hc5] at hsr
  have hvt:=hsr.1
  have hgh:E.gh=[]:=by simpa using hc1
  have skip:x=.undef→K (a.put o.dst undef) w:=by
   rintro rfl
   have hmd:E.md=false:=by unfold Eff.md;rw[hgh,hc2];rfl
   unfold Eff.κ at hκ
   rw[hmd,hgh,hc2] at hκ
   split at hκ
   case isFalse=>cases hκ
   rename_i htgt
   simp only[Zac,Option.map_some,if_true,Option.some.injEq] at hκ
   subst hκ
   have hdd:∀q,E.k.bdep=some q→q≠E.tgt∧(kd κ q).isBox=true:=fun q hq=>by
    unfold Zi7 at hc6
    rw[hq] at hc6
    simpa using hc6
   refine hK undef w F (fun s=>if s=E.tgt then [] else fp s) ?_
   rw[hc4]
   refine h.putA htgt (Adds.refl w h.fl) List.nodup_nil ?_ (by simp) (fun hu=>absurd rfl hu) hdd
   revert hc3
   cases E.k with
   |ck c=>cases c<;>simp[gdK];exact ⟨.undef,rfl⟩
   |ali p=>intro _;rfl
   |elm p sz off=>intro _;rfl
   |bxf q off=>intro _;rfl
   |cln f=>intro _;exact ⟨⟨#[],[],.inr rfl⟩,rfl⟩
   |ipt=>intro _;exact ⟨fun hu=>absurd rfl hu,rfl⟩
   |_=>simp[gdK]
  unfold gdV at hx
  split at hx
  ·rename_i b hb
   rw[hb] at hvt
   have hvt:=hvt.bool_eq
   have hy:yielded ops a.tmps j=some b:=by rw[ZbE ht,hvt]
   by_cases hbw:b=want
   ·rw[if_pos hbw] at hx
    rw[if_pos (by simp[Region.wanted,hg,hy,hbw])]
    split at hx
    case isFalse=>cases hx
    rename_i hlv
    exact .inl (Zg0 hT hG hE w0 F0 X0 κ' σ a w F fp _ x K Q h hκ hlv hx fun x' v w' F' fp' hst hk=>by
     cases hk
     exact hK v w' F' fp' hst)
   ·rw[if_neg hbw] at hx
    rw[if_neg (by simp[Region.wanted,hg,hy,hbw])]
    exact skip (by cases hx;rfl)
  ·rename_i hb
   rw[hb] at hvt
   have hy:yielded ops a.tmps j=none:=by
    rw[ZbE ht]
    generalize tv a.tmps t=v at hvt
    cases hvt
    rfl
   rw[if_neg (by simp[Region.wanted,hg,hy])]
   exact skip (by cases hx;rfl)
  ·cases hx
def Zfc (G:List Ent) (ops:Array Oper) (o:Oper) (κ:List Kd):Option (Stp×List Kd×(List PV→Option PV)):=
 match Zfg G o κ with
 |none=>none
 | some (e,q,d,rest)=>
  match o.guard with
  |none=>some (Zg1 q d,ZcJ (bxK κ q e.k0) d e.rk,fun σ=>(if Z7 κ σ o.op.operands.toList then (ZaB (rest.map (sv κ)) (rest.map (dv κ σ))).bind fun xs=>(e.spec (vl σ q::xs)).bind Zfe else none).bind fun p=>some (.tup [p.1,p.2]))
  | some (j,want)=>
   match (ops[j]?).bind (·.dst) with
   |none=>none
   | some t=>
    if e.rk=.ck .val&&kd κ t=.ck .val then
     some (Zg1 q d,ZcJ (bxK κ q e.k0) d e.rk,fun σ=>(gdV2 (vl σ t) want (vl σ q) (if Z7 κ σ o.op.operands.toList then (ZaB (rest.map (sv κ)) (rest.map (dv κ σ))).bind fun xs=>(e.spec (vl σ q::xs)).bind Zfe else none)).bind fun p=>some (.tup [p.1,p.2]))
    else none
theorem ZmP (hG:∀e∈G,FnOk P e) {ops:Array Oper} {o:Oper} {κ κ':List Kd} {σ:List PV} {S:Stp} {f:List PV→Option PV} {x:PV} (hs:Zfc G ops o κ=some (S,κ',f)) (hx:f σ=some x) {a:Act} {w:World} {F:Nat→Prop} {fp:Nat→List Nat} (h:St w0 F0 X0 κ σ a.tmps w F fp)
 {K:Act→World→Prop} {Q:Exit→Act→World→Prop} (hK:∀(v:Value) w' F' fp',St w0 F0 X0 κ' (S.app σ x) (a.put o.dst v).tmps w' F' fp'→K (a.put o.dst v) w'):
 if Region.wanted o (yielded ops a.tmps) then o.wp P a w K Q∨(o.asks P a w∧LetsOut Q) else K (a.put o.dst undef) w:=by
 unfold Zfc at hs
 split at hs
 ·cases hs
 rename_i e q d rest hi
 split at hs
 ·rename_i hg
  cases hs
  rw[if_pos (by simp[Region.wanted,hg])]
  obtain ⟨p,hp,hx⟩:=Option.bind_eq_some_iff.1 hx
  cases hx
  split at hp
  case isFalse=>cases hp
  rename_i hlv
  obtain ⟨xs,hx,hp⟩:=Option.bind_eq_some_iff.1 hp
  obtain ⟨z,hz,hp⟩:=Option.bind_eq_some_iff.1 hp
  rw[Zfs hp] at hz
  exact .inl (Zhe hG hi hlv hx hz h fun v w' F' fp' hst=>hK v w' F' fp' hst)
 ·rename_i j want hg
  split at hs
  ·cases hs
  rename_i t ht
  split at hs
  case isFalse=>cases hs
  rename_i hc
  simp only[Bool.and_eq_true,decide_eq_true_eq] at hc
  obtain ⟨hc1,hc5⟩:=hc
  cases hs
  obtain ⟨p,hp,hx⟩:=Option.bind_eq_some_iff.1 hx
  cases hx
  obtain ⟨l,_,_,hsr⟩:=h.sr t
  rw[hc5] at hsr
  have hvt:=hsr.1
  have skip:p=(.undef,vl σ q)→K (a.put o.dst undef) w:=by
   rintro rfl
   obtain ⟨fp',hst⟩:=ZpV hG hi hc1 h
   exact hK undef w F fp' hst
  unfold gdV2 at hp
  split at hp
  ·rename_i b hb
   rw[hb] at hvt
   have hvt:=hvt.bool_eq
   have hy:yielded ops a.tmps j=some b:=by rw[ZbE ht,hvt]
   by_cases hbw:b=want
   ·rw[if_pos hbw] at hp
    rw[if_pos (by simp[Region.wanted,hg,hy,hbw])]
    split at hp
    case isFalse=>cases hp
    rename_i hlv
    obtain ⟨xs,hx,hp⟩:=Option.bind_eq_some_iff.1 hp
    obtain ⟨z,hz,hp⟩:=Option.bind_eq_some_iff.1 hp
    rw[Zfs hp] at hz
    exact .inl (Zhe hG hi hlv hx hz h fun v w' F' fp' hst=>hK v w' F' fp' hst)
   ·rw[if_neg hbw] at hp
    rw[if_neg (by simp[Region.wanted,hg,hy,hbw])]
    exact skip (by cases hp;rfl)
  ·rename_i hb
   rw[hb] at hvt
   have hy:yielded ops a.tmps j=none:=by
    rw[ZbE ht]
    generalize tv a.tmps t=v at hvt
    cases hvt
    rfl
   rw[if_neg (by simp[Region.wanted,hg,hy])]
   exact skip (by cases hp;rfl)
  ·cases hp
end
theorem ZmQ (gh:List Gh):ZcM gh (.ck .none)=false:=by
 unfold ZcM
 rw[List.any_eq_false]
 intro g _
 simp[Cut.fn_none]
theorem Zoo {gh:List Gh} {k:Kd} (h:ZcM gh k=true):∃g∈gh,k.dep=some g.s:=by
 unfold ZcM at h
 obtain ⟨g,hg,hk⟩:=List.any_eq_true.1 h
 exact ⟨g,hg,Cut.fn_dep hk⟩
theorem ZcN {tgt:Nat}:∀(gh:List Gh) (κ κ':List Kd),Zac tgt gh κ=some κ'→κ'.length=κ.length∧(∀g∈gh,g.s≠tgt∧g.s<κ.length)∧∀s,s∉gh.map (·.s)→kd κ' s=if ZcM gh (kd κ s) then .ck .none else kd κ s
 |[],κ,κ',h=>by cases h;exact ⟨rfl,by simp,fun s _=>by simp[ZcM]⟩
 | g ::r,κ,κ',h=>by
  unfold Zac at h
  obtain ⟨κ1,h1,h2⟩:=Option.bind_eq_some_iff.1 h
  unfold Gh.act at h1
  split at h1
  ·cases h1
  rename_i hgt
  split at h1
  case isFalse=>cases h1
  rename_i hlt
  obtain ⟨k,hk,rfl⟩:=Option.map_eq_some_iff.1 h1
  obtain ⟨e1,e2,e3⟩:=ZcN r _ κ' h2
  rw[Zd0] at e1 e2
  refine ⟨e1,fun g' hg'=> ?_,fun s hs=> ?_⟩
  ·rcases List.mem_cons.1 hg' with rfl|hg'
   ·exact ⟨hgt,hlt⟩
   ·exact e2 g' hg'
  ·simp only[List.map_cons,List.mem_cons,not_or] at hs
   rw[e3 s hs.2,ZbI κ g.s s g.cut k hlt,if_neg hs.1]
   unfold ZcM
   rw[List.any_cons]
   by_cases hc:g.cut.fn g.s (kd κ s)=true
   ·rw[if_pos hc,hc]
    have:=ZmQ r
    unfold ZcM at this
    simp[this]
   ·simp only[Bool.not_eq_true] at hc
    simp[hc]
theorem Eff.kill_dep {R:Type} {E:Eff R} {k:Kd} (h:E.kill k=true):∃q,k.dep=some q:=by
 unfold Eff.kill at h
 rcases Bool.or_eq_true_iff.1 h with h|h
 ·rcases Bool.or_eq_true_iff.1 h with h|h
  ·obtain ⟨g,hg,hk⟩:=Zoo h
   exact ⟨g.s,hk⟩
  ·simp only[Bool.and_eq_true] at h
   cases k<;>simp[Kd.isCln] at h
   exact ⟨_,rfl⟩
 ·refine ⟨E.tgt, ?_⟩
  split at h
  ·simpa using h
  ·exact Cut.fn_dep h
theorem Eff.κ_acts {R:Type} {E:Eff R} {κ κ':List Kd} (h:E.κ κ=some κ'):κ'.length=κ.length∧(∀q∈E.wr,q<κ.length)∧kd κ' E.tgt=E.k∧∀s,s∉E.wr→kd κ' s=if E.kill (kd κ s) then .ck .none else kd κ s:=by
 unfold Eff.κ at h
 split at h
 case isFalse=>cases h
 rename_i ht
 obtain ⟨κ1,h1,rfl⟩:=Option.map_eq_some_iff.1 h
 obtain ⟨e1,e2,e3⟩:=ZcN E.gh κ κ1 h1
 have ht1:E.tgt<(noCln E.md κ1).length:=by rw[Zn];omega
 refine ⟨?_,fun q hq=> ?_, ?_,fun s hs=> ?_⟩
 ·split
  ·simp[ZcJ,ZjC,Zn,e1]
  ·rw[Zd0,Zn,e1]
 ·rcases List.mem_cons.1 hq with rfl|hq
  ·exact ht
  ·obtain ⟨g,hg,rfl⟩:=List.mem_map.1 hq
   exact (e2 g hg).2
 ·split
  ·rw[ZdZ _ _ _ _ ht1,if_pos rfl]
  ·rw[ZbI _ _ _ _ _ ht1,if_pos rfl]
 ·simp only[Eff.wr,List.mem_cons,not_or] at hs
  have e4:=e3 s hs.2
  have e5:kd (noCln E.md κ1) s=if (ZcM E.gh (kd κ s)||(E.md&&(kd κ s).isCln))=true then .ck .none else kd κ s:=by
   rw[Za7,e4]
   by_cases hc:ZcM E.gh (kd κ s)=true
   ·simp[hc,Kd.isCln]
   ·simp only[Bool.not_eq_true] at hc
    simp[hc]
  unfold Eff.kill
  split
  ·rename_i hp
   rw[ZdZ _ _ _ _ ht1,if_neg hs.1,e5]
   by_cases hc:(ZcM E.gh (kd κ s)||(E.md&&(kd κ s).isCln))=true
   ·simp[hc,Kd.dep]
   ·simp only[Bool.not_eq_true] at hc
    simp[hc]
  ·rename_i hp
   rw[ZbI _ _ _ _ _ ht1,if_neg hs.1,e5]
   by_cases hc:(ZcM E.gh (kd κ s)||(E.md&&(kd κ s).isCln))=true
   ·simp[hc,Cut.fn_none]
   ·simp only[Bool.not_eq_true] at hc
    simp[hc]
theorem Ziq {tgt:Nat}:∀(gh:List Gh) (κ κ' κ2:List Kd),Zac tgt gh κ=some κ'→κ2.length=κ.length→(∀s∈gh.map (·.s),kd κ2 s=kd κ s)→∃κ2',Zac tgt gh κ2=some κ2'∧∀s∈gh.map (·.s),kd κ2' s=kd κ' s
 |[],κ,κ',κ2,h,_,_=>⟨κ2,rfl,by simp⟩
 | g ::r,κ,κ',κ2,h,hl,ha=>by
  unfold Zac at h
  obtain ⟨κ1,h1,h2⟩:=Option.bind_eq_some_iff.1 h
  have h0:=h1
  unfold Gh.act at h1
  split at h1
  ·cases h1
  rename_i hgt
  split at h1
  case isFalse=>cases h1
  rename_i hlt
  obtain ⟨k,hk,rfl⟩:=Option.map_eq_some_iff.1 h1
  have hg:=ha g.s (by simp)
  have hact:g.act tgt κ2=some (Zga κ2 g.s g.cut k):=by
   unfold Gh.act
   rw[if_neg hgt,if_pos (by omega),hg,hk]
   rfl
  have hag:∀s,kd κ2 s=kd κ s→kd (Zga κ2 g.s g.cut k) s=kd (Zga κ g.s g.cut k) s:=fun s hs=>by
   rw[ZbI _ _ _ _ _ (by omega),ZbI _ _ _ _ _ hlt,hs]
  obtain ⟨κ2',e1,e2⟩:=Ziq r _ κ' (Zga κ2 g.s g.cut k) h2 (by rw[Zd0,Zd0,hl]) fun s hs=>hag s (ha s (by simp only[List.map_cons,List.mem_cons];exact .inr hs))
  refine ⟨κ2',by unfold Zac;rw[hact];exact e1,fun s hs=> ?_⟩
  by_cases hr:s∈r.map (·.s)
  ·exact e2 s hr
  ·have hs':s=g.s:=by
    simp only[List.map_cons,List.mem_cons] at hs
    rcases hs with hs|hs
    ·exact hs
    ·exact absurd hs hr
   have e3:=(ZcN r _ _ h2).2.2 s hr
   have e4:=(ZcN r _ _ e1).2.2 s hr
   rw[e3,e4,hag s (ha s hs)]
theorem Eff.κ_local {R:Type} {E:Eff R} {κ κ' κ2:List Kd} (h:E.κ κ=some κ') (hl:κ2.length=κ.length) (ha:∀s∈E.wr,kd κ2 s=kd κ s):∃κ2',E.κ κ2=some κ2'∧∀s∈E.wr,kd κ2' s=kd κ' s:=by
 have h0:=Eff.κ_acts h
 have h':=h
 unfold Eff.κ at h'
 split at h'
 case isFalse=>cases h'
 rename_i ht
 obtain ⟨κ1,h1,e0⟩:=Option.map_eq_some_iff.1 h'
 obtain ⟨κ21,g1,g2⟩:=Ziq E.gh κ κ1 κ2 h1 hl fun s hs=>ha s (List.mem_cons_of_mem _ hs)
 have hk:E.κ κ2=some (if E.put then ZcJ (noCln E.md κ21) E.tgt E.k else Zga (noCln E.md κ21) E.tgt E.cut E.k):=by
  unfold Eff.κ
  rw[if_pos (by omega),g1]
  rfl
 refine ⟨_,hk,fun s hs=> ?_⟩
 have q0:=Eff.κ_acts hk
 by_cases e:s=E.tgt
 ·subst e;rw[q0.2.2.1,h0.2.2.1]
 ·have hs':s∈E.gh.map (·.s):=by
   rcases List.mem_cons.1 hs with hs|hs
   ·exact absurd hs e
   ·exact hs
  have l1:=(ZcN E.gh κ κ1 h1).1
  have l2:=(ZcN E.gh κ2 κ21 g1).1
  have hh:kd (noCln E.md κ21) s=kd (noCln E.md κ1) s:=by rw[Za7,Za7,g2 s hs']
  have l1':=Zn E.md κ1
  have l2':=Zn E.md κ21
  rw[←e0]
  split
  ·rw[ZdZ _ _ _ _ (by omega),ZdZ _ _ _ _ (by omega),if_neg e,if_neg e,hh]
  ·rw[ZbI _ _ _ _ _ (by omega),ZbI _ _ _ _ _ (by omega),if_neg e,if_neg e,hh]
theorem Zir {R:Type} {T:Tab} {G:List Ent} {o:Oper} {κ κ2:List Kd} (h:∀x∈o.op.operands.toList,sv κ2 x=sv κ x):Zak (R:=R) T G o κ2=Zak T G o κ:=by
 have hm:o.op.operands.toList.map (sv κ2)=o.op.operands.toList.map (sv κ):=List.map_congr_left h
 unfold Zak
 split
 case h_14=>rw[hm]
 case h_16=>
  rename_i b args ts d hop hd
  rw[hop] at h
  obtain ⟨args⟩:=args
  simp only[Op.operands,Call.operands] at h
  dsimp only
  split
  ·rename_i x t _;rw[h x (by simp)]
  ·rename_i s x t t2 _;rw[h s (by simp),h x (by simp)]
  ·rename_i x t _;rw[h x (by simp)]
  ·rename_i x y;rw[h x (by simp),h y (by simp)]
  ·rename_i x y;rw[h x (by simp),h y (by simp)]
  ·rfl
 case h_17=>
  rename_i f args ts d hop hd
  rw[hop] at h
  simp only[Op.operands,Call.operands] at h
  rw[List.map_congr_left (f:=sv κ2) (g:=sv κ) fun x hx=>h x (by simp at hx⊢;exact .inr hx)]
 case h_18=>
  rename_i c args ts d hf hop hd
  rw[hop] at h
  simp only[Op.operands,Call.operands] at h
  rw[List.map_congr_left (f:=sv κ2) (g:=sv κ) fun x hx=>h x (by simp at hx⊢;exact .inr hx),h c (by simp)]
 case h_19=>
  rename_i fn first captured d hop hd
  rw[hop] at h
  simp only[Op.operands] at h
  rw[List.map_congr_left (f:=sv κ2) (g:=sv κ) fun x hx=>h x (by simp at hx⊢;exact .inr hx)]
 case h_22=>
  rename_i t x lo hi d _ hop hd
  rw[hop] at h
  cases lo<;>cases hi<;>simp[Op.operands] at h<;>simp[h]
 case h_24=>rw[hm]
 case h_32=>
  rename_i args ts hop hd
  rw[hop] at h
  obtain ⟨args⟩:=args
  simp only[Op.operands,Call.operands] at h
  dsimp only
  split
  ·rename_i x t _;rw[h x (by simp)]
  ·rfl
 all_goals try rename_i hop hd
 all_goals try rw[hop] at h hm
 all_goals try simp only[Op.operands,Call.operands] at h hm
 all_goals (simp_all;done)
theorem ZiV {κ κ2:List Kd} {x:Operand} (h1:kOp κ2 x=kOp κ x) (h2:∀q,(kOp κ x).dep=some q→kd κ2 q=kd κ q):sv κ2 x=sv κ x:=by
 unfold sv
 rw[h1]
 cases h:(kOp κ x).dep with
 |none=>rfl
 |some q=>simp only[h2 q h]
theorem Zpq {κ κ2:List Kd} {σ σ2:List PV} {x:Operand} (h1:kOp κ2 x=kOp κ x) (h2:vOp σ2 x=vOp σ x) (h3:∀q,(kOp κ x).dep=some q→vl σ2 q=vl σ q):dv κ2 σ2 x=dv κ σ x:=by
 unfold dv
 rw[h1,h2]
 cases h:(kOp κ x).dep with
 |none=>rfl
 |some q=>simp only[h3 q h]
theorem Zgq {κ κ2:List Kd} {σ σ2:List PV}:∀(l:List Operand),(∀x∈l,kOp κ2 x=kOp κ x∧vOp σ2 x=vOp σ x)→Z7 κ2 σ2 l=Z7 κ σ l
 |[],_=>rfl
 | x::r,h=>by
  have ih:=Zgq r fun y hy=>h y (List.mem_cons_of_mem _ hy)
  unfold Z7 at ih⊢
  rw[List.all_cons,List.all_cons,ih,(h x List.mem_cons_self).1,(h x List.mem_cons_self).2]
section
variable {T :Tab} {G:List Ent} {ops:Array Oper} {o:Oper}
theorem Zg4 {κ κ' κ2:List Kd} {t:Nat} {f:List PV→Option PV} (hs:ZdT T G ops o κ=some (κ',t,f)) (hl:κ2.length=κ.length)
 (hviews:Zak (R:=PV) T G o κ2=Zak T G o κ) (hv:∀x∈o.op.operands.toList,kOp κ2 x=kOp κ x)
 (hw:∀E,Zak (R:=PV) T G o κ=some E→(∀s∈E.wr,kd κ2 s=kd κ s)∧∀q,E.k.bdep=some q→kd κ2 q=kd κ q)
 (hg:∀j want g,o.guard=some (j,want)→(ops[j]?).bind (·.dst)=some g→kd κ2 g=kd κ g):
 ∃ (E:Eff PV) (κ2':List Kd) (f2:List PV→Option PV),Zak (R:=PV) T G o κ=some E∧E.κ κ=some κ'∧t=E.tgt∧ZdT T G ops o κ2=some (κ2',t,f2)∧E.κ κ2=some κ2'∧
  ∀σ σ2,(∀x∈o.op.operands.toList,vOp σ2 x=vOp σ x∧∀q,(kOp κ x).dep=some q→vl σ2 q=vl σ q)→(∀j want g,o.guard=some (j,want)→(ops[j]?).bind (·.dst)=some g→vl σ2 g=vl σ g)→f2 σ2=f σ:=by
 have hds:∀σ σ2,(∀x∈o.op.operands.toList,vOp σ2 x=vOp σ x∧∀q,(kOp κ x).dep=some q→vl σ2 q=vl σ q)→o.op.operands.toList.map (dv κ2 σ2)=o.op.operands.toList.map (dv κ σ)∧Z7 κ2 σ2 o.op.operands.toList=Z7 κ σ o.op.operands.toList:=fun σ σ2 h=>
  ⟨List.map_congr_left fun x hx=>Zpq (hv x hx) (h x hx).1 (h x hx).2,Zgq _ fun x hx=>⟨hv x hx,(h x hx).1⟩⟩
 unfold ZdT at hs
 split at hs
 ·cases hs
 rename_i E hE
 split at hs
 ·cases hs
 rename_i κ1 hκ
 obtain ⟨hw1,hw2⟩:=hw E hE
 obtain ⟨κ2',hκ2,_⟩:=Eff.κ_local hκ hl hw1
 split at hs
 ·rename_i hgd
  cases hs
  refine ⟨E,κ2',_,hE,hκ,rfl,by unfold ZdT;rw[hviews,hE];dsimp only;rw[hκ2];dsimp only;rw[hgd],hκ2,fun σ σ2 h1 h2=> ?_⟩
  obtain ⟨e1,e2⟩:=hds σ σ2 h1
  dsimp only
  rw[e1,e2]
 ·rename_i j want hgd
  split at hs
  ·cases hs
  rename_i g hgs
  split at hs
  case isFalse=>cases hs
  rename_i hc
  cases hs
  have hkg:=hg j want g hgd hgs
  have hbd:Zi7 κ2 E.k E.tgt=Zi7 κ E.k E.tgt:=by
   unfold Zi7
   cases hb:E.k.bdep with
   |none=>rfl
   |some q=>simp only[hw2 q hb]
  refine ⟨E,κ2',_,hE,hκ,rfl,by unfold ZdT;rw[hviews,hE];dsimp only;rw[hκ2];dsimp only;rw[hgd];dsimp only;rw[hgs];dsimp only;rw[hkg,hbd,if_pos hc],hκ2,fun σ σ2 h1 h2=> ?_⟩
  obtain ⟨e1,e2⟩:=hds σ σ2 h1
  dsimp only
  rw[e1,e2,h2 j want g hgd hgs]
theorem ZmR {κ κ' κ2:List Kd} {t:Nat} {f:List PV→Option PV} (hs:ZdT T G ops o κ=some (κ',t,f)) (hl:κ2.length=κ.length)
 (hv:∀x∈o.op.operands.toList,kOp κ2 x=kOp κ x∧∀q,(kOp κ x).dep=some q→kd κ2 q=kd κ q)
 (hw:∀E,Zak (R:=PV) T G o κ=some E→(∀s∈E.wr,kd κ2 s=kd κ s)∧∀q,E.k.bdep=some q→kd κ2 q=kd κ q)
 (hg:∀j want g,o.guard=some (j,want)→(ops[j]?).bind (·.dst)=some g→kd κ2 g=kd κ g):
 ∃ (E:Eff PV) (κ2':List Kd) (f2:List PV→Option PV),Zak (R:=PV) T G o κ=some E∧E.κ κ=some κ'∧t=E.tgt∧ZdT T G ops o κ2=some (κ2',t,f2)∧E.κ κ2=some κ2'∧
  ∀σ σ2,(∀x∈o.op.operands.toList,vOp σ2 x=vOp σ x∧∀q,(kOp κ x).dep=some q→vl σ2 q=vl σ q)→(∀j want g,o.guard=some (j,want)→(ops[j]?).bind (·.dst)=some g→vl σ2 g=vl σ g)→f2 σ2=f σ:=
 Zg4 hs hl (Zir fun x hx=>ZiV (hv x hx).1 (hv x hx).2) (fun x hx=>(hv x hx).1) hw hg
theorem ZmS {κ κ2:List Kd} {σ σ2:List PV} (l:List Operand) (h1:∀x∈l,sv κ2 x=sv κ x) (h2:∀x∈l,dv κ2 σ2 x=dv κ σ x):ZaB (l.map (sv κ2)) (l.map (dv κ2 σ2))=ZaB (l.map (sv κ)) (l.map (dv κ σ)):=by
 rw[List.map_congr_left h1,List.map_congr_left h2]
theorem Zop (κ:List Kd) (q s:Nat) (K:Kd) (hq:q<κ.length):kd (bxK κ q K) s=if s=q then K else if ((kd κ s).isCln||Zcs q (kd κ s))=true then .ck .none else kd κ s:=by
 unfold bxK
 rw[ZjD]
 simp only[List.length_map,Zn]
 by_cases h:s=q
 ·simp[h,hq]
 ·rw[if_neg (by intro hc;exact h hc.1),if_neg h]
  have:kd ((noCln true κ).map fun k=>if Zcs q k=true then .ck .none else k) s=if Zcs q (kd (noCln true κ) s)=true then .ck .none else kd (noCln true κ) s:=by
   unfold kd
   rw[List.getD_eq_getElem?_getD,List.getD_eq_getElem?_getD,List.getElem?_map]
   cases (noCln true κ)[s]? with
   |none=>simp[Zcs]
   |some k=>simp
  rw[this,Za7]
  by_cases c1:(kd κ s).isCln=true
  ·simp[c1,Zcs]
  ·simp only[Bool.not_eq_true] at c1
   simp[c1]
theorem ZeK (κ:List Kd) (q:Nat) (K:Kd):(bxK κ q K).length=κ.length:=by unfold bxK;simp[Zn]
theorem ZeL {κ κ':List Kd} {S:Stp} {f:List PV→Option PV} (h:Zfc G ops o κ=some (S,κ',f)):∃e q d rest,Zfg G o κ=some (e,q,d,rest)∧S=Zg1 q d∧κ'=ZcJ (bxK κ q e.k0) d e.rk∧d≠q∧d<κ.length∧q<κ.length:=by
 unfold Zfc at h
 split at h
 ·cases h
 rename_i e q d rest hi
 obtain ⟨_,_,_,_,_,_,_,_,_,_,_,_,_,_,_,h1,h2,h3⟩:=Zdr hi
 refine ⟨e,q,d,rest,hi, ?_⟩
 split at h
 ·cases h;exact ⟨rfl,rfl,h1,h2,h3⟩
 ·split at h
  ·cases h
  split at h
  case isFalse=>cases h
  cases h;exact ⟨rfl,rfl,h1,h2,h3⟩
theorem Zqv {κ κ2:List Kd} {r:Ent×Nat×Nat×List Operand} (hi:Zfg G o κ=some r) (hl:κ2.length=κ.length) (hv:∀x∈o.op.operands.toList,kOp κ2 x=kOp κ x∧∀q,(kOp κ x).dep=some q→kd κ2 q=kd κ q):Zfg G o κ2=some r:=by
 have hi0:=hi
 unfold Zfg at hi
 split at hi
 case h_2=>cases hi
 rename_i f args ts d' hop hd
 split at hi
 case h_2=>cases hi
 rename_i t rest' hargs
 have hop':o.op.operands.toList=.func f::.tmp t::rest':=by rw[hop];simp[Op.operands,Call.operands,hargs]
 have ht:=hv (.tmp t) (by rw[hop'];simp)
 have ht1:kd κ2 t=kd κ t:=ht.1
 have hq:bxq κ2 t=bxq κ t:=by unfold bxq;rw[ht1]
 have hkq:kd κ2 (bxq κ t)=kd κ (bxq κ t):=by
  unfold bxq
  split
  ·rename_i q' hk
   exact ht.2 q' (by show (kd κ t).dep=_;rw[hk];rfl)
  ·exact ht1
 have hsv:∀x∈rest',sv κ2 x=sv κ x:=fun x hx=>by
  have:=hv x (by rw[hop'];exact List.mem_cons_of_mem _ (List.mem_cons_of_mem _ hx))
  exact ZiV this.1 this.2
 have hfit:∀ps,Zjw κ2 t rest' ps=Zjw κ t rest' ps:=fun ps=>by
  cases ps with
  |nil=>rfl
  | cons K ps=>
   unfold Zjw
   rw[hq,hkq,List.map_congr_left hsv]
   have hall:(rest'.all fun x=>(sv κ2 x).isV)=rest'.all fun x=>(sv κ x).isV:=by
    rw[Bool.eq_iff_iff,List.all_eq_true,List.all_eq_true]
    constructor
    ·intro h x hx
     have:=h x hx
     rw[hsv x hx] at this
     exact this
    ·intro h x hx
     rw[hsv x hx]
     exact h x hx
   rw[hall]
 rw[←hi0]
 unfold Zfg
 rw[hop,hd]
 dsimp only
 rw[hargs]
 dsimp only
 simp only[hfit,hq,hl]
theorem ZmT {κ κ' κ2:List Kd} {S:Stp} {f:List PV→Option PV} (hs:Zfc G ops o κ=some (S,κ',f)) (hl:κ2.length=κ.length)
 (hv:∀x∈o.op.operands.toList,kOp κ2 x=kOp κ x∧∀q,(kOp κ x).dep=some q→kd κ2 q=kd κ q)
 (hg:∀j want g,o.guard=some (j,want)→(ops[j]?).bind (·.dst)=some g→kd κ2 g=kd κ g):
 ∃ (κ2':List Kd) (f2:List PV→Option PV),Zfc G ops o κ2=some (S,κ2',f2)∧(∀s∈S.wr,kd κ2' s=kd κ' s)∧
  ∀σ σ2,(∀x∈o.op.operands.toList,vOp σ2 x=vOp σ x∧∀q,(kOp κ x).dep=some q→vl σ2 q=vl σ q)→(∀j want g,o.guard=some (j,want)→(ops[j]?).bind (·.dst)=some g→vl σ2 g=vl σ g)→f2 σ2=f σ:=by
 obtain ⟨e,q,d,rest,hi,hS,hκ,hdq,hdl,hql⟩:=ZeL hs
 have hi2:=Zqv hi hl hv
 obtain ⟨args,ts,t,T0,ks,ps,hop,hd,hargs,hm,hqt,hps,hwk,hfit,hisv,_,_,_⟩:=Zdr hi
 have hop':o.op.operands.toList=.func e.f::.tmp t::rest:=by rw[hop];simp[Op.operands,Call.operands,hargs]
 have hkin:∀s∈(Zg1 q d).wr,kd (ZcJ (bxK κ2 q e.k0) d e.rk) s=kd (ZcJ (bxK κ q e.k0) d e.rk) s:=by
  have hdep:(e.k0).dep=none:=by unfold Ent.k0;rw[hps];rfl
  intro s hs
  rw[ZdZ _ _ _ _ (by rw[ZeK];omega),ZdZ _ _ _ _ (by rw[ZeK];omega)]
  by_cases h1:s=d
  ·simp[h1]
  ·have h2:s=q:=by
    have hs':s∈[d,q]:=hs
    simp only[List.mem_cons,List.not_mem_nil,or_false] at hs'
    rcases hs' with h|h
    ·exact absurd h h1
    ·exact h
   subst h2
   rw[if_neg h1,if_neg h1,Zop _ _ _ _ (by omega),Zop _ _ _ _ hql,if_pos rfl,if_pos rfl]
 have hvals:∀σ σ2,(∀x∈o.op.operands.toList,vOp σ2 x=vOp σ x∧∀q,(kOp κ x).dep=some q→vl σ2 q=vl σ q)→Z7 κ2 σ2 o.op.operands.toList=Z7 κ σ o.op.operands.toList∧ZaB (rest.map (sv κ2)) (rest.map (dv κ2 σ2))=ZaB (rest.map (sv κ)) (rest.map (dv κ σ))∧vl σ2 q=vl σ q:=fun σ σ2 h=>by
  refine ⟨Zgq _ fun x hx=>⟨(hv x hx).1,(h x hx).1⟩,ZmS rest (fun x hx=> ?_) (fun x hx=> ?_), ?_⟩
  ·have hm':x∈o.op.operands.toList:=by rw[hop'];exact List.mem_cons_of_mem _ (List.mem_cons_of_mem _ hx)
   exact ZiV (hv x hm').1 (hv x hm').2
  ·have hm':x∈o.op.operands.toList:=by rw[hop'];exact List.mem_cons_of_mem _ (List.mem_cons_of_mem _ hx)
   exact Zpq (hv x hm').1 (h x hm').1 (h x hm').2
  ·have hmt:=h (.tmp t) (by rw[hop'];simp)
   rw[hqt]
   unfold bxq
   split
   ·rename_i q' hk
    exact hmt.2 q' (by show (kd κ t).dep=_;rw[hk];rfl)
   ·exact hmt.1
 unfold Zfc at hs
 rw[hi] at hs
 dsimp only at hs
 split at hs
 ·rename_i hgd
  cases hs
  refine ⟨_,_,by unfold Zfc;rw[hi2];dsimp only;rw[hgd],hkin,fun σ σ2 h1 h2=> ?_⟩
  obtain ⟨e1,e2,e3⟩:=hvals σ σ2 h1
  dsimp only
  rw[e1,e2,e3]
 ·rename_i j want hgd
  split at hs
  ·cases hs
  rename_i g hgs
  split at hs
  case isFalse=>cases hs
  rename_i hc
  cases hs
  have hkg:=hg j want g hgd hgs
  refine ⟨_,_,by unfold Zfc;rw[hi2];dsimp only;rw[hgd];dsimp only;rw[hgs];dsimp only;rw[hkg,if_pos hc],hkin,fun σ σ2 h1 h2=> ?_⟩
  obtain ⟨e1,e2,e3⟩:=hvals σ σ2 h1
  dsimp only
  rw[e1,e2,e3,h2 j want g hgd hgs]
end
section
variable {T :Tab} {G:List Ent} {ops:Array Oper} {o:Oper}
theorem ZmU {t:Nat} (h:Operand.tmp t∈o.op.operands.toList):t∈Zcd o:=List.mem_filterMap.2 ⟨_,h,rfl⟩
theorem ZdU {E:Stp} {κ:List Kd} {j:Nat} {want:Bool} {g:Nat} (h:o.guard=some (j,want)) (hg:(ops[j]?).bind (·.dst)=some g):g∈ZbD ops o E κ:=by
 unfold ZbD ZiU
 rw[h]
 simp[hg]
theorem ZmV {E:Stp} {κ:List Kd} {t:Nat} (h:Operand.tmp t∈o.op.operands.toList):t∈ZbD ops o E κ∧∀q,(kd κ t).dep=some q→q∈ZbD ops o E κ:=by
 have:=ZmU h
 refine ⟨by unfold ZbD;simp[this],fun q hq=> ?_⟩
 have:q∈Zja κ (Zcd o):=List.mem_filterMap.2 ⟨t,this,hq⟩
 unfold ZbD;simp[this]
theorem Zs6 {E:Eff PV} {κ:List Kd} {q:Nat} (h:E.k.bdep=some q):q∈ZbD ops o E.stp κ:=by
 unfold ZbD Eff.stp
 rw[Zab h]
 simp
theorem Zje {E:Stp} {κ κ2:List Kd} (h:∀s∈ZbD ops o E κ,kd κ2 s=kd κ s):ZbD ops o E κ2=ZbD ops o E κ:=by
 have:Zja κ2 (Zcd o)=Zja κ (Zcd o):=by
  unfold Zja
  have h':∀s∈Zcd o,kd κ2 s=kd κ s:=fun s hs=>h s (by unfold ZbD;simp[hs])
  generalize Zcd o=l at h'
  induction l with
  |nil=>rfl
  | cons a r ih=>
   simp only[List.filterMap_cons,h' a List.mem_cons_self]
   rw[ih fun s hs=>h' s (List.mem_cons_of_mem _ hs)]
 unfold ZbD
 rw[this]
inductive StepR (T:Tab) (G:List Ent) (ops:Array Oper) (o:Oper) (κ:List Kd) (S:Stp) (v:List Nat) (κ':List Kd) (f:List PV→Option PV):Prop
 |eff (E:Eff PV) (eff:Zak (R:=PV) T G o κ=some E) (step:ZdT T G ops o κ=some (κ',E.tgt,f)) (kap:E.κ κ=some κ') (hS:S=E.stp) (vw:ZbD ops o S κ=v):StepR T G ops o κ S v κ' f
 |bx (step:Zfc G ops o κ=some (S,κ',f)) (vw:ZbD ops o S κ=v):StepR T G ops o κ S v κ' f
structure Acts (S:Stp) (κ κ':List Kd):Prop where
 len:κ'.length=κ.length
 out:∀s,s∉S.wr→kd κ' s=if S.kill (kd κ s) then .ck .none else kd κ s
 none:S.kill (.ck .none)=false
 tgt:S.tgt∈S.wr
 two:∀q,S.two=some q→q∈S.wr
theorem Eff.kill_none {E:Eff PV}:E.kill (.ck .none)=false:=by
 cases h:E.kill (.ck .none) with
 |false=>rfl
 |true=>obtain ⟨q,hq⟩:=Eff.kill_dep h;simp[Kd.dep] at hq
theorem StepR.acts {κ κ':List Kd} {S:Stp} {v:List Nat} {f:List PV→Option PV} (h:StepR T G ops o κ S v κ' f):Acts S κ κ':=by
 cases h with
 | eff E h1 h2 h3 hS h4=>
  subst hS
  obtain ⟨e1,_,_,e4⟩:=Eff.κ_acts h3
  exact ⟨e1,e4,Eff.kill_none,List.mem_cons_self,fun q hq=>by cases hq⟩
 | bx h1 h2=>
  obtain ⟨e,q,d,rest,hi,rfl,rfl,hdq,hdl,hql⟩:=ZeL h1
  refine ⟨by rw[ZiA,ZeK],fun s hs=> ?_,by simp[Zg1,Kd.isCln,Zcs,Kd.dep],List.mem_cons_self,fun q' hq=>by cases hq;simp[Zg1]⟩
  simp only[Zg1,List.mem_cons,List.not_mem_nil,or_false,not_or] at hs
  rw[ZdZ _ _ _ _ (by rw[ZeK];exact hdl),if_neg hs.1,Zop _ _ _ _ hql,if_neg hs.2]
  show _=if ((kd κ s).isCln||(Zcs q (kd κ s)||decide ((kd κ s).dep=some d)))=true then _ else _
  by_cases c1:((kd κ s).isCln||Zcs q (kd κ s))=true
  ·rw[if_pos c1]
   have:((kd κ s).isCln||(Zcs q (kd κ s)||decide ((kd κ s).dep=some d)))=true:=by
    rw[←Bool.or_assoc,c1];rfl
   rw[if_pos this]
   simp[Kd.dep]
  ·rw[if_neg c1]
   simp only[Bool.not_eq_true] at c1
   have e1:((kd κ s).isCln||(Zcs q (kd κ s)||decide ((kd κ s).dep=some d)))=decide ((kd κ s).dep=some d):=by
    rw[←Bool.or_assoc,c1];rfl
   rw[e1]
   by_cases c2:(kd κ s).dep=some d<;>simp[c2]
theorem StepR.move {κ κ' κ2:List Kd} {E:Stp} {v:List Nat} {f:List PV→Option PV} (h:StepR T G ops o κ E v κ' f) (hl:κ2.length=κ.length) (hw:∀s∈E.wr,kd κ2 s=kd κ s) (hv:∀s∈v,kd κ2 s=kd κ s):
 ∃κ2' f2,StepR T G ops o κ2 E v κ2' f2∧(∀s∈E.wr,kd κ2' s=kd κ' s)∧∀σ σ2,(∀s∈v,vl σ2 s=vl σ s)→f2 σ2=f σ:=by
 have hvv:ZbD ops o E κ=v:=by cases h<;>assumption
 subst hvv
 have hop:∀x∈o.op.operands.toList,kOp κ2 x=kOp κ x∧∀q,(kOp κ x).dep=some q→kd κ2 q=kd κ q:=fun x hx=>by
  cases x with
  | tmp t=>
   obtain ⟨h1,h2⟩:=ZmV (ops:=ops) (E:=E) (κ:=κ) hx
   exact ⟨hv t h1,fun q hq=>hv q (h2 q hq)⟩
  |const c=>refine ⟨rfl,fun q hq=> ?_⟩;simp[kOp,Kd.dep] at hq
  |global g=>refine ⟨rfl,fun q hq=> ?_⟩;simp[kOp,Kd.dep] at hq
  |func g=>refine ⟨rfl,fun q hq=> ?_⟩;simp[kOp,Kd.dep] at hq
 have hvs:∀σ σ2,(∀s∈ZbD ops o E κ,vl σ2 s=vl σ s)→∀x∈o.op.operands.toList,vOp σ2 x=vOp σ x∧∀q,(kOp κ x).dep=some q→vl σ2 q=vl σ q:=fun σ σ2 hs x hx=>by
  cases x with
  | tmp t=>
   obtain ⟨h1,h2⟩:=ZmV (ops:=ops) (E:=E) (κ:=κ) hx
   exact ⟨hs t h1,fun q hq=>hs q (h2 q hq)⟩
  |const c=>refine ⟨rfl,fun q hq=> ?_⟩;simp[kOp,Kd.dep] at hq
  |global g=>refine ⟨rfl,fun q hq=> ?_⟩;simp[kOp,Kd.dep] at hq
  |func g=>refine ⟨rfl,fun q hq=> ?_⟩;simp[kOp,Kd.dep] at hq
 cases h with
 | bx h1 h2=>
  obtain ⟨κ2',f2,e1,e2,e3⟩:=ZmT h1 hl hop (fun j want g hg hj=>hv g (ZdU hg hj))
  exact ⟨κ2',f2,.bx e1 (Zje hv),e2,fun σ σ2 hs=>e3 σ σ2 (hvs σ σ2 hs) fun j want g hg hj=>hs g (ZdU hg hj)⟩
 | eff E0 heff hstep hkap hS _=>
  subst hS
  obtain ⟨E',κ2',f2,e1,e2,e3,e4,e5,e6⟩:=ZmR hstep hl hop
   (fun E' hE'=>by have:=heff.symm.trans hE';cases this;exact ⟨hw,fun q hq=>hv q (Zs6 hq)⟩)
   (fun j want g hg hj=>hv g (ZdU hg hj))
  have:=heff.symm.trans e1
  cases this
  have hviews:Zak (R:=PV) T G o κ2=Zak T G o κ:=Zir fun x hx=>ZiV (hop x hx).1 (hop x hx).2
  obtain ⟨κ3,g1,g2⟩:=Eff.κ_local hkap hl hw
  have:=g1.symm.trans e5
  cases this
  exact ⟨κ2',f2,.eff E0 (hviews.trans heff) e4 e5 rfl (Zje hv),g2,fun σ σ2 hs=>e6 σ σ2 (hvs σ σ2 hs) fun j want g hg hj=>hs g (ZdU hg hj)⟩
theorem Zs7 {κ κ2:List Kd} {x:Operand} {d ix q:Nat} (h1:kOp κ2 x=kOp κ x) (hd:(kOp κ x).dep=some q) (hq:Zce ix (kd κ q)=true) (hq2:Zce ix (kd κ2 q)=true):Zas (R:=PV) d ix (sv κ2 x)=Zas d ix (sv κ x):=by
 have key:∀{k:Kd},Zce ix k=true→∃ks:List CK,k=.grp true ks∧ks[ix]?=some .val:=fun {k} h=>by
  unfold Zce at h
  split at h
  ·rename_i ks
   split at h
   ·rename_i h2;exact ⟨ks,rfl,h2⟩
   ·cases h
  ·cases h
 obtain ⟨ks,e1,v1⟩:=key hq
 obtain ⟨ks2,e2,v2⟩:=key hq2
 have g1:sv κ x=⟨kOp κ x,.grp true ks,(sv κ x).slot⟩:=by unfold sv;rw[hd];simp only[e1]
 have g2:sv κ2 x=⟨kOp κ x,.grp true ks2,(sv κ x).slot⟩:=by unfold sv;rw[h1,hd];simp only[e2]
 rw[g1,g2]
 generalize kOp κ x=k at hd
 cases k with
 |ali p=>cases p<;>simp[Zas,Zgk,SV.tgrAt,Zax,SV.grpAt,v1,v2,Zdb]
 |elm p a b=>simp[Zas,Zgk,SV.tgrAt,Zax,SV.grpAt]
 |bxf a b=>simp[Zas,Zgk,SV.tgrAt,Zax,SV.grpAt]
 |cln f=>simp[Zas,Zgk,SV.tgrAt,Zax,SV.grpAt]
 |mbx s=>simp[Zas,Zgk,SV.tgrAt,Zax,SV.grpAt]
 |tl q=>simp[Zas,Zgk,SV.tgrAt,Zax,SV.grpAt]
 |gal q n=>simp[Zas,Zgk,SV.tgrAt,Zax,SV.grpAt]
 |_=>simp[Kd.dep] at hd
theorem Zs8 {o:Oper} {t ix:Nat} (h:exOf o=some (t,ix)):o.guard=none∧o.op=.extract (.tmp t) ix:=by
 unfold exOf at h
 split at h
 ·cases h
 ·rename_i hg
  split at h
  ·rename_i ho;cases h;exact ⟨hg,ho⟩
  ·cases h
theorem StepR.moveX {κ κ' κ2:List Kd} {E:Stp} {v:List Nat} {f:List PV→Option PV} {t ix q:Nat} (h:StepR T G ops o κ E v κ' f) (hx:exOf o=some (t,ix)) (hvv:v=[t,q]) (hne:t≠q) (hp:Zce ix (kd κ q)=true) (hl:κ2.length=κ.length) (hw:∀s∈E.wr,kd κ2 s=kd κ s) (ht:kd κ2 t=kd κ t) (hp2:Zce ix (kd κ2 q)=true):
 ∃κ2' f2,StepR T G ops o κ2 E v κ2' f2∧(∀s∈E.wr,kd κ2' s=kd κ' s)∧∀σ σ2,(∀s∈v,vl σ2 s=vl σ s)→f2 σ2=f σ:=by
 obtain ⟨hg,hop⟩:=Zs8 hx
 cases h with
 | bx h1 h2=>
  obtain ⟨e,q',d,rest,hi,_⟩:=ZeL h1
  obtain ⟨args,ts,t',T',ks,ps,hop',_⟩:=Zdr hi
  rw[hop] at hop';cases hop'
 | eff E0 heff hstep hkap hS vw=>
  subst hS
  have hops:o.op.operands.toList=[.tmp t]:=by rw[hop];simp[Op.operands]
  have hos:Zcd o=[t]:=by unfold Zcd;rw[hops];rfl
  have hlk:∀κ0,ZbD ops o E0.stp κ0=E0.k.dep.toList++(t::(kd κ0 t).dep.toList):=fun κ0=>by
   unfold ZbD ZiU Zja
   rw[hos,hg]
   cases hd:(kd κ0 t).dep<;>simp[hd,Eff.stp]
  have hdq:E0.k.dep=none∧(kd κ t).dep=some q:=by
   have e:=(hlk κ).symm.trans (vw.trans hvv)
   cases h1:E0.k.dep with
   | some z=>
    rw[h1] at e
    cases h2:(kd κ t).dep with
    |none=>rw[h2] at e;simp at e;exact absurd e.2 hne
    |some y=>rw[h2] at e;simp at e
   | none=>
    rw[h1] at e
    cases h2:(kd κ t).dep with
    |none=>rw[h2] at e;simp at e
    |some y=>rw[h2] at e;simp at e;exact ⟨rfl,by rw[e]⟩
  have hviews:Zak (R:=PV) T G o κ2=Zak T G o κ:=by
   unfold Zak
   rw[hop]
   cases hd:o.dst with
   |none=>rfl
   |some d=>exact Zs7 (x:=.tmp t) ht hdq.2 hp hp2
  obtain ⟨E',κ2',f2,e1,e2,e3,e4,e5,e6⟩:=Zg4 hstep hl hviews (fun x hx'=>by rw[hops] at hx';rw[List.mem_singleton.1 hx'];exact ht)
   (fun E' hE'=>by have:=heff.symm.trans hE';cases this;exact ⟨hw,fun q' hq'=>by have:=Zab hq';rw[hdq.1] at this;cases this⟩)
   (fun j want g hj=>by rw[hg] at hj;cases hj)
  have:=heff.symm.trans e1
  cases this
  obtain ⟨κ3,g1,g2⟩:=Eff.κ_local hkap hl hw
  have:=g1.symm.trans e5
  cases this
  refine ⟨κ2',f2,.eff E0 (hviews.trans heff) e4 e5 rfl (by rw[hlk,ht,←hlk κ];exact vw),g2,fun σ σ2 hs=>e6 σ σ2 (fun x hx'=> ?_) fun j want g hj=>by rw[hg] at hj;cases hj⟩
  rw[hops] at hx'
  rw[List.mem_singleton.1 hx']
  refine ⟨hs t (by rw[hvv];simp),fun q' hq'=> ?_⟩
  have hq'':(kd κ t).dep=some q':=hq'
  rw[hdq.2] at hq''
  cases hq''
  exact hs q (by rw[hvv];simp)
theorem Zjf {o:Oper} {t:Nat} (h:ZkY o=some t):o.guard=none∧(o.op=.move (.tmp t)∨o.op=.nilCheck (.tmp t)∨∃ty fi,o.op=.fieldAddr ty (.tmp t) fi):=by
 unfold ZkY at h
 split at h
 ·cases h
 ·rename_i hg
  split at h
  ·rename_i ho;cases h;exact ⟨hg,.inl ho⟩
  ·rename_i ho;cases h;exact ⟨hg,.inr (.inl ho)⟩
  ·rename_i ho;cases h;exact ⟨hg,.inr (.inr ⟨_,_,ho⟩)⟩
  ·cases h
theorem Zs9 {o:Oper} {t:Nat} (h:ZkY o=some t):o.op.operands.toList=[.tmp t]:=by
 obtain ⟨_,h|h|⟨ty,fi,h⟩⟩:=Zjf h<;>rw[h]<;>simp[Op.operands]
theorem Zes {k:Kd} (h:k.isBox=true):∃T ks,k=.box T ks:=by
 cases k<;>first|exact ⟨_,_,rfl⟩|cases h
theorem Zta {κ κ2:List Kd} {t q:Nat} (hx:ZkY o=some t) (hb:t=q∨(kd κ t).dep=some q) (hb1:(kd κ q).isBox=true) (hb2:(kd κ2 q).isBox=true) (ht:t≠q→kd κ2 t=kd κ t):
 Zak (R:=PV) T G o κ2=Zak T G o κ∧∀E,Zak (R:=PV) T G o κ=some E→∀σ σ2,(t≠q→vl σ2 t=vl σ t)→E.dyn ([Operand.tmp t].map (dv κ2 σ2)) some=E.dyn ([Operand.tmp t].map (dv κ σ)) some:=by
 obtain ⟨T1,ks1,e1⟩:=Zes hb1
 obtain ⟨T2,ks2,e2⟩:=Zes hb2
 have hcase:(∃T1 ks1 T2 ks2,sv κ (.tmp t)=⟨.box T1 ks1,.ck .none,some t⟩∧sv κ2 (.tmp t)=⟨.box T2 ks2,.ck .none,some t⟩)∨
  (t≠q∧∃k T1 ks1 T2 ks2,k.dep=some q∧sv κ (.tmp t)=⟨k,.box T1 ks1,some t⟩∧sv κ2 (.tmp t)=⟨k,.box T2 ks2,some t⟩):=by
  rcases hb with rfl|hb
  ·left
   exact ⟨T1,ks1,T2,ks2,by simp[sv,kOp,e1,Kd.dep],by simp[sv,kOp,e2,Kd.dep]⟩
  ·right
   have hne:t≠q:=by rintro rfl;rw[e1] at hb;cases hb
   refine ⟨hne,kd κ t,T1,ks1,T2,ks2,hb, ?_, ?_⟩
   ·simp[sv,kOp,hb,e1]
   ·simp[sv,kOp,ht hne,hb,e2]
 have dvn:∀(σ σ2:List PV),t≠q→(t≠q→vl σ2 t=vl σ t)→(dv κ2 σ2 (.tmp t)).v=(dv κ σ (.tmp t)).v:=fun σ σ2 hne h=>by simp[dv,vOp,h hne]
 obtain ⟨_,hop⟩:=Zjf hx
 rcases hcase with ⟨T1',ks1',T2',ks2',g1,g2⟩|⟨hne,k,T1',ks1',T2',ks2',hkd,g1,g2⟩
 ·rcases hop with hop|hop|⟨ty,fi,hop⟩
  ·unfold Zak;rw[hop]
   cases hd:o.dst with
   |none=>exact ⟨rfl,fun E h=>by cases h⟩
   | some d=>
    dsimp only
    rw[g1,g2]
    refine ⟨by simp[Zan],fun E h σ σ2 hs=> ?_⟩
    simp only[Zan] at h
    split at h
    ·cases h
    ·cases h;rfl
  ·unfold Zak;rw[hop]
   cases hd:o.dst with
   |none=>exact ⟨rfl,fun E h=>by cases h⟩
   | some d=>
    dsimp only
    rw[g1,g2]
    refine ⟨by simp[ZdE,SV.boxAt],fun E h σ σ2 hs=> ?_⟩
    simp only[ZdE,SV.boxAt,Option.map_some] at h
    split at h
    ·cases h
    ·cases h;rfl
  ·unfold Zak;rw[hop]
   cases hd:o.dst with
   |none=>exact ⟨rfl,fun E h=>by cases h⟩
   | some d=>
    dsimp only
    rw[g1,g2]
    refine ⟨by simp[Zcw,SV.boxAt],fun E h σ σ2 hs=> ?_⟩
    simp only[Zcw,SV.boxAt,Option.map_some] at h
    split at h
    ·cases h
    ·split at h
     ·cases h
     ·split at h
      ·cases h
      ·split at h
       ·cases h
       ·split at h
        ·cases h
        ·cases h;rfl
 ·have dl:∀(σ σ2:List PV),(t≠q→vl σ2 t=vl σ t)→∃v p p2,[Operand.tmp t].map (dv κ2 σ2)=[⟨v,p2⟩]∧[Operand.tmp t].map (dv κ σ)=[⟨v,p⟩]:=fun σ σ2 hs=>by
   have:=dvn σ σ2 hne hs
   refine ⟨(dv κ σ (.tmp t)).v,(dv κ σ (.tmp t)).pv,(dv κ2 σ2 (.tmp t)).pv, ?_,rfl⟩
   simp only[List.map_cons,List.map_nil]
   rw[←this]
  rcases hop with hop|hop|⟨ty,fi,hop⟩
  ·unfold Zak;rw[hop]
   cases hd:o.dst with
   |none=>exact ⟨rfl,fun E h=>by cases h⟩
   | some d=>
    dsimp only
    rw[g1,g2]
    refine ⟨?_,fun E h σ σ2 hs=> ?_⟩
    ·cases k with
     |ali p=>cases p<;>simp[Zan,Kd.isBox]
     |elm p a b=>cases p<;>simp[Zan,Kd.isBox]
     |bxf a b=>simp[Zan,Kd.isBox]
     |cln f=>simp[Zan]
     |mbx s=>simp[Zan]
     |tl q=>simp[Zan]
     |gal q n=>simp[Zan]
     |_=>simp[Kd.dep] at hkd
    ·obtain ⟨v,p,p2,m1,m2⟩:=dl σ σ2 hs
     rw[m1,m2]
     cases k with
     | ali pp=>
      cases pp with
      |slot q'=>simp only[Zan] at h;split at h<;>first|(cases h;done)|(cases h;rfl)
      |cell q' o'=>simp only[Zan,Kd.isBox,if_true] at h;split at h<;>first|(cases h;done)|(cases h;rfl)
     |elm pp a b=>cases pp<;>(simp only[Zan,Kd.isBox,if_true] at h;split at h<;>first|(cases h;done)|(cases h;rfl))
     |bxf a b=>simp only[Zan,Kd.isBox,if_true] at h;split at h<;>first|(cases h;done)|(cases h;rfl)
     |cln f=>simp only[Zan] at h;split at h<;>first|(cases h;done)|(cases h;rfl)
     |mbx s=>simp[Zan] at h
     |tl q=>simp[Zan] at h
     |gal q n=>simp[Zan] at h
     |_=>simp[Kd.dep] at hkd
  ·unfold Zak;rw[hop]
   cases hd:o.dst with
   |none=>exact ⟨rfl,fun E h=>by cases h⟩
   | some d=>
    dsimp only
    rw[g1,g2]
    refine ⟨?_,fun E h σ σ2 hs=> ?_⟩
    ·cases k with
     |ali p=>cases p<;>simp[ZdE,SV.boxAt]
     |_=>first|(simp[ZdE,SV.boxAt];done)|(simp[Kd.dep] at hkd)
    ·obtain ⟨v,p,p2,m1,m2⟩:=dl σ σ2 hs
     rw[m1,m2]
     cases k with
     | ali pp=>
      cases pp with
      |slot q'=>simp only[ZdE,SV.boxAt] at h;split at h<;>first|(cases h;done)|(cases h;rfl)
      |cell q' o'=>simp[ZdE,SV.boxAt] at h
     |bxf a b=>simp only[ZdE,SV.boxAt] at h;split at h<;>first|(cases h;done)|(cases h;rfl)
     |_=>first|(simp[ZdE,SV.boxAt] at h;done)|(simp[Kd.dep] at hkd)
  ·unfold Zak;rw[hop]
   cases hd:o.dst with
   |none=>exact ⟨rfl,fun E h=>by cases h⟩
   | some d=>
    dsimp only
    rw[g1,g2]
    refine ⟨?_,fun E h σ σ2 hs=> ?_⟩
    ·cases k with
     |ali p=>cases p<;>simp[Zcw,SV.boxAt]
     |elm p a b=>cases p<;>simp[Zcw,SV.boxAt,Kd.isBox]
     |_=>first|(simp[Zcw,SV.boxAt];done)|(simp[Kd.dep] at hkd)
    ·obtain ⟨v,p,p2,m1,m2⟩:=dl σ σ2 hs
     rw[m1,m2]
     unfold Zcw at h
     split at h
     ·cases h
     split at h
     ·cases h
     split at h
     ·cases h
     split at h
     ·cases h
     cases k with
     | ali pp=>
      cases pp with
      |slot q'=>simp only[SV.boxAt] at h;split at h<;>first|(cases h;done)|(cases h;rfl)
      |cell q' o'=>simp[SV.boxAt] at h
     |elm pp a b=>cases pp<;>(simp only[SV.boxAt,Kd.isBox,if_true] at h;split at h<;>first|(cases h;done)|(cases h;rfl))
     |bxf a b=>simp only[SV.boxAt] at h;split at h<;>first|(cases h;done)|(cases h;rfl)
     |_=>first|(simp[SV.boxAt] at h;done)|(simp[Kd.dep] at hkd)
theorem StepR.moveP {κ κ' κ2:List Kd} {E:Stp} {v:List Nat} {f:List PV→Option PV} {t q:Nat} (h:StepR T G ops o κ E v κ' f) (hx:ZkY o=some t) (hv:v.getLast?=some q) (hb1:(kd κ q).isBox=true) (hb2:(kd κ2 q).isBox=true) (hl:κ2.length=κ.length) (hw:∀s∈E.wr,kd κ2 s=kd κ s) (ht:t≠q→kd κ2 t=kd κ t):
 ∃κ2' f2,StepR T G ops o κ2 E v κ2' f2∧(∀s∈E.wr,kd κ2' s=kd κ' s)∧∀σ σ2,(t≠q→vl σ2 t=vl σ t)→f2 σ2=f σ:=by
 obtain ⟨hg,hop⟩:=Zjf hx
 have hops:=Zs9 hx
 cases h with
 | bx h1 h2=>
  obtain ⟨e,q',d,rest,hi,_⟩:=ZeL h1
  obtain ⟨args,ts,t',T',ks,ps,hop',_⟩:=Zdr hi
  rcases hop with hop|hop|⟨ty,fi,hop⟩<;>(rw[hop] at hop';cases hop')
 | eff E0 heff hstep hkap hS vw=>
  subst hS
  have hos:Zcd o=[t]:=by unfold Zcd;rw[hops];rfl
  have hlk:∀κ0,ZbD ops o E0.stp κ0=E0.k.dep.toList++(t::(kd κ0 t).dep.toList):=fun κ0=>by
   unfold ZbD ZiU Zja
   rw[hos,hg]
   cases hd:(kd κ0 t).dep<;>simp[hd,Eff.stp]
  have hb:t=q∨(kd κ t).dep=some q:=by
   rw[←vw,hlk] at hv
   cases hd:(kd κ t).dep with
   |none=>rw[hd] at hv;left;simpa using hv
   |some y=>rw[hd] at hv;right;simpa using hv
  obtain ⟨hviews,hdyn⟩:=Zta (T:=T) (G:=G) hx hb hb1 hb2 ht
  obtain ⟨κ3,g1,g2⟩:=Eff.κ_local hkap hl hw
  unfold ZdT at hstep
  rw[heff] at hstep
  dsimp only at hstep
  rw[hkap] at hstep
  dsimp only at hstep
  rw[hg] at hstep
  simp only[Option.some.injEq,Prod.mk.injEq,true_and] at hstep
  have hdep2:(kd κ2 t).dep=(kd κ t).dep:=by
   by_cases e:t=q
   ·subst e
    obtain ⟨T1,ks1,e1⟩:=Zes hb1
    obtain ⟨T2,ks2,e2⟩:=Zes hb2
    rw[e1,e2];rfl
   ·rw[ht e]
  refine ⟨κ3,_,.eff E0 (hviews.trans heff) (by unfold ZdT;rw[hviews.trans heff];dsimp only;rw[g1];dsimp only;rw[hg]) g1 rfl (by rw[hlk,hdep2,←hlk κ];exact vw),g2,fun σ σ2 hs=> ?_⟩
  rw[←hstep]
  dsimp only
  rw[hops,hdyn E0 heff σ σ2 hs]
  have hlive:Z7 κ2 σ2 [Operand.tmp t]=Z7 κ σ [Operand.tmp t]:=by
   by_cases e:t=q
   ·subst e
    obtain ⟨T1,ks1,e1⟩:=Zes hb1
    obtain ⟨T2,ks2,e2⟩:=Zes hb2
    simp[Z7,kOp,e1,e2,Kd.hangs,Kd.dep]
   ·simp[Z7,kOp,vOp,ht e,hs e]
  rw[hlive]
theorem StepR.moveW {κ κ' κ2:List Kd} {E:Stp} {v:List Nat} {f:List PV→Option PV} (W:List Nat) (h:StepR T G ops o κ E v κ' f) (hl:κ2.length=κ.length) (hW:∀s∈E.wr,s∈W) (hw:∀s∈W,kd κ2 s=kd κ s) (hv:∀s∈v,kd κ2 s=kd κ s):
 ∃κ2' f2,StepR T G ops o κ2 E v κ2' f2∧(∀s∈W,kd κ2' s=kd κ' s)∧∀σ σ2,(∀s∈v,vl σ2 s=vl σ s)→f2 σ2=f σ:=by
 obtain ⟨κ2',f2,h1,h2,h3⟩:=h.move hl (fun s hs=>hw s (hW s hs)) hv
 refine ⟨κ2',f2,h1,fun s hs=> ?_,h3⟩
 by_cases he:s∈E.wr
 ·exact h2 s he
 ·rw[h1.acts.out s he,h.acts.out s he,hw s hs]
def Zks (W:List Nat) (E:Stp) (κ:List Kd):Prop:=(∀s∈E.wr,s∈W)∧∀s,E.kill (kd κ s)=true→s∈W
theorem Zks.keep {W:List Nat} {E:Stp} {κ κ':List Kd} (hn:Zks W E κ) (hk:Acts E κ κ') {s:Nat} (hs:s∉W):kd κ' s=kd κ s:=by
 rw[hk.out s fun h=>hs (hn.1 s h)]
 split
 ·rename_i hc;exact absurd (hn.2 s hc) hs
 ·rfl
theorem Stp.vl_app {S:Stp} (h1:S.tgt∈S.wr) (h2:∀q,S.two=some q→q∈S.wr) {σ:List PV} {x:PV} {s:Nat} (hs:s∉S.wr):vl (S.app σ x) s=vl σ s:=by
 unfold Stp.app
 cases ht:S.two with
 |none=>dsimp only;rw[Zbk,if_neg];intro hc;exact hs (hc.1▸h1)
 | some q=>
  dsimp only
  rw[Zbk,if_neg (by intro hc;exact hs (hc.1▸h1)),Zbk,if_neg (by intro hc;exact hs (hc.1▸h2 q ht))]
theorem Stp.vl_app2 {S:Stp} {σ:List PV} {x:PV} {s:Nat} (h1:S.tgt≠s) (h2:S.two≠some s):vl (S.app σ x) s=vl σ s:=by
 unfold Stp.app
 cases ht:S.two with
 |none=>dsimp only;rw[Zbk,if_neg];intro hc;exact h1 hc.1.symm
 | some q=>
  dsimp only
  rw[Zbk,if_neg (by intro hc;exact h1 hc.1.symm),Zbk,if_neg (by intro hc;exact h2 (by rw[ht,hc.1]))]
theorem Stp.length_app {S:Stp} {σ:List PV} {x:PV}:(S.app σ x).length=σ.length:=by
 unfold Stp.app
 cases S.two<;>simp
theorem Stp.app_comm {S S2:Stp} {x x2:PV} {σ:List PV} (h1:S.tgt∈S.wr) (h2:∀q,S.two=some q→q∈S.wr) (k1:S2.tgt∈S2.wr) (k2:∀q,S2.two=some q→q∈S2.wr) (hd:∀s∈S.wr,s∉S2.wr):S2.app (S.app σ x) x2=S.app (S2.app σ x2) x:=by
 have hne:∀{a b:Nat},a∈S.wr→b∈S2.wr→a≠b:=fun ha hb e=>hd _ ha (e▸hb)
 unfold Stp.app
 cases ht:S.two with
 | none=>
  cases ht2:S2.two with
  |none=>dsimp only;exact List.set_comm _ _ (hne h1 k1)
  | some q2=>
   dsimp only
   rw[List.set_comm _ _ (hne h1 (k2 q2 ht2)),List.set_comm _ _ (hne h1 k1)]
 | some q=>
  cases ht2:S2.two with
  | none=>
   dsimp only
   rw[List.set_comm _ _ (hne h1 k1),List.set_comm _ _ (hne (h2 q ht) k1)]
  | some q2=>
   dsimp only
   rw[List.set_comm _ _ (hne h1 (k2 q2 ht2)),List.set_comm _ _ (hne (h2 q ht) (k2 q2 ht2)),List.set_comm _ _ (hne h1 k1),List.set_comm _ _ (hne (h2 q ht) k1)]
theorem Zoq {κ κ2:List Kd} (hl:κ.length=κ2.length) (h:∀s,kd κ s=kd κ2 s):κ=κ2:=by
 apply List.ext_getElem?
 intro i
 by_cases hi:i<κ.length
 ·have h1:=h i
  unfold kd at h1
  rw[List.getD_eq_getElem?_getD,List.getD_eq_getElem?_getD] at h1
  rw[List.getElem?_eq_getElem hi,List.getElem?_eq_getElem (by omega)] at h1⊢
  simpa using h1
 ·rw[List.getElem?_eq_none (by omega),List.getElem?_eq_none (by omega)]
structure Itm where
 i:Nat
 o:Oper
 E:Stp
 wr:List Nat
 v:List Nat
 old:List Kd
 nk:List Kd
 x:PV
theorem Zjg {w1 v1 w2 v2:List Nat} (h:apart w1 v1 w2 v2=true):(∀s∈w1,s∉w2∧s∉v2)∧∀s∈w2,s∉w1∧s∉v1:=by
 unfold apart at h
 simp only[Bool.and_eq_true,List.all_eq_true,Bool.not_eq_true',List.contains_eq_mem,decide_eq_false_iff_not] at h
 exact ⟨fun s hs=>h.1 s hs,fun s hs=>⟨fun hc=>(h.1 s hc).1 hs,h.2 s hs⟩⟩
def Itm.apartX (a b:Itm):Bool:=apX a.E a.wr a.v a.old a.nk b.E b.o b.wr b.v b.nk||apP a.E a.o a.wr a.v a.old b.E b.wr b.v b.old b.nk
def Itm.apart (a b:Itm):Bool:=Proofs.YtjjobbamoeaogaaDoor.apart a.wr a.v b.wr b.v&&(a.old.all fun k=> !b.E.kill k)&&(b.nk.all fun k=> !a.E.kill k)
def Ch (T:Tab) (G:List Ent) (ops:Array Oper):List Itm→List Kd→List PV→List Kd→List PV→Prop
 |[],κ,σ,κe,σe=>κ=κe∧σ=σe
 |a::r,κ,σ,κe,σe=>∃κ' f,StepR T G ops a.o κ a.E a.v κ' f∧f σ=some a.x∧a.old=a.wr.map (kd κ)∧a.nk=a.wr.map (kd κ')∧Zks a.wr a.E κ∧Ch T G ops r κ' (a.E.app σ a.x) κe σe
theorem Ch.swap {a b:Itm} {r:List Itm} {κ κe:List Kd} {σ σe:List PV} (h:Ch T G ops (a::b::r) κ σ κe σe) (hp:a.apart b=true):Ch T G ops (b::a::r) κ σ κe σe:=by
 obtain ⟨κ1,fa,ha,hfa,hoa,hka,hca,κ12,fb,hb,hfb,hob,hkb,hcb,hr⟩:=h
 unfold Itm.apart at hp
 simp only[Bool.and_eq_true,List.all_eq_true,Bool.not_eq_true'] at hp
 obtain ⟨⟨hp,q1⟩,q2⟩:=hp
 obtain ⟨p1,p2⟩:=Zjg hp
 have hl1:=ha.acts.len
 have hl12:=hb.acts.len
 have s1:∀s,s∉a.wr→kd κ1 s=kd κ s:=fun s hs=>hca.keep ha.acts hs
 obtain ⟨κ2,fb',hb2,hw2,hf2⟩:=hb.moveW b.wr (κ2:=κ) hl1.symm hcb.1 (fun s hs=>(s1 s (p2 s hs).1).symm) (fun s hs=>(s1 s fun hc=>(p1 s hc).2 hs).symm)
 have hcb2:Zks b.wr b.E κ:=⟨hcb.1,fun s hs=>by
  by_cases hsa:s∈a.wr
  ·have:b.E.kill (kd κ s)=false:=q1 _ (by rw[hoa];exact List.mem_map.2 ⟨s,hsa,rfl⟩)
   rw[this] at hs;cases hs
  ·exact hcb.2 s (by rw[s1 s hsa];exact hs)⟩
 have s2:∀s,s∉b.wr→kd κ2 s=kd κ s:=fun s hs=>hcb2.keep hb2.acts hs
 have hl2:=hb2.acts.len
 obtain ⟨κ21,fa',ha2,hw21,hf21⟩:=ha.moveW a.wr (κ2:=κ2) hl2 hca.1 (fun s hs=>s2 s (p1 s hs).1) (fun s hs=>s2 s fun hc=>(p2 s hc).2 hs)
 have hca2:Zks a.wr a.E κ2:=⟨hca.1,fun s hs=>by
  by_cases hsb:s∈b.wr
  ·have:a.E.kill (kd κ2 s)=false:=q2 _ (by rw[hkb];exact List.mem_map.2 ⟨s,hsb,(hw2 s hsb).symm⟩)
   rw[this] at hs;cases hs
  ·exact hca.2 s (by rw[←s2 s hsb];exact hs)⟩
 have hl21:=ha2.acts.len
 have hκ:κ21=κ12:=by
  refine Zoq (by omega) fun s=> ?_
  by_cases h1:s∈a.wr
  ·rw[hw21 s h1,hcb.keep hb.acts (p1 s h1).1]
  ·rw[hca2.keep ha2.acts h1]
   by_cases h2:s∈b.wr
   ·rw[hw2 s h2]
   ·rw[s2 s h2,hcb.keep hb.acts h2,s1 s h1]
 refine ⟨κ2,fb',hb2,(hf2 _ _ fun s hs=> ?_).trans hfb, ?_, ?_,hcb2,κ21,fa',ha2,(hf21 _ _ fun s hs=> ?_).trans hfa, ?_, ?_,hca2, ?_⟩
 ·rw[Stp.vl_app ha.acts.tgt ha.acts.two fun hc=>(p1 s (hca.1 s hc)).2 hs]
 ·rw[hob];exact List.map_congr_left fun s hs=>s1 s (p2 s hs).1
 ·rw[hkb];exact List.map_congr_left fun s hs=>(hw2 s hs).symm
 ·rw[Stp.vl_app hb.acts.tgt hb.acts.two fun hc=>(p2 s (hcb.1 s hc)).2 hs]
 ·rw[hoa];exact List.map_congr_left fun s hs=>(s2 s (p1 s hs).1).symm
 ·rw[hka];exact List.map_congr_left fun s hs=>(hw21 s hs).symm
 ·rw[hκ,Stp.app_comm hb.acts.tgt hb.acts.two ha.acts.tgt ha.acts.two fun s hs hc=>(p1 s (hca.1 s hc)).1 (hcb.1 s hs)]
  exact hr
theorem Ch.swapX0 {a b:Itm} {r:List Itm} {κ κe:List Kd} {σ σe:List PV} (h:Ch T G ops (a::b::r) κ σ κe σe) (hp:apX a.E a.wr a.v a.old a.nk b.E b.o b.wr b.v b.nk=true):Ch T G ops (b::a::r) κ σ κe σe:=by
 obtain ⟨κ1,fa,ha,hfa,hoa,hka,hca,κ12,fb,hb,hfb,hob,hkb,hcb,hr⟩:=h
 unfold apX at hp
 split at hp
 ·cases hp
 rename_i t ix hx
 split at hp
 case h_2=>cases hp
 rename_i t' q hbv
 simp only[Bool.and_eq_true,decide_eq_true_eq] at hp
 obtain ⟨rfl,hne,hq,ht1,ht2,hap,hpo,hpn,hk1,hk2⟩:=hp
 have hqm:q∈a.wr:=by simpa using hq
 obtain ⟨p1,p2⟩:=Zjg hap
 have q1:∀k∈a.old,b.E.kill k=false:=fun k hk=>by simpa using List.all_eq_true.1 hk1 k hk
 have q2:∀k∈b.nk,a.E.kill k=false:=fun k hk=>by simpa using List.all_eq_true.1 hk2 k hk
 have zip_at:∀(l:List Nat) (κ0:List Kd),((l.zip (l.map (kd κ0))).all fun p=>p.1 !=q||Zce ix p.2)=true→q∈l→Zce ix (kd κ0 q)=true:=fun l κ0 h hm=>by
  have hz:(q,kd κ0 q)∈l.zip (l.map (kd κ0)):=by
   obtain ⟨i,hi,e⟩:=List.mem_iff_getElem.1 hm
   refine List.mem_iff_getElem.2 ⟨i,by simpa using hi, ?_⟩
   simp[e]
  have:=List.all_eq_true.1 h _ hz
  simpa using this
 have hpo':Zce ix (kd κ q)=true:=zip_at a.wr κ (by rw[←hoa];exact hpo) hqm
 have hpn':Zce ix (kd κ1 q)=true:=zip_at a.wr κ1 (by rw[←hka];exact hpn) hqm
 have hl1:=ha.acts.len
 have hl12:=hb.acts.len
 have s1:∀s,s∉a.wr→kd κ1 s=kd κ s:=fun s hs=>hca.keep ha.acts hs
 obtain ⟨κ2,fb',hb2,hw2',hf2⟩:=hb.moveX (κ2:=κ) hx hbv hne hpn' hl1.symm (fun s hs=>(s1 s (p2 s (hcb.1 s hs)).1).symm) (s1 _ fun hc=>(p1 _ hc).2 (List.mem_singleton.2 rfl)).symm hpo'
 have hw2:∀s∈b.wr,kd κ2 s=kd κ12 s:=fun s hs=>by
  by_cases he:s∈b.E.wr
  ·exact hw2' s he
  ·rw[hb2.acts.out s he,hb.acts.out s he,s1 s (p2 s hs).1]
 have hcb2:Zks b.wr b.E κ:=⟨hcb.1,fun s hs=>by
  by_cases hsa:s∈a.wr
  ·have:b.E.kill (kd κ s)=false:=q1 _ (by rw[hoa];exact List.mem_map.2 ⟨s,hsa,rfl⟩)
   rw[this] at hs;cases hs
  ·exact hcb.2 s (by rw[s1 s hsa];exact hs)⟩
 have s2:∀s,s∉b.wr→kd κ2 s=kd κ s:=fun s hs=>hcb2.keep hb2.acts hs
 have hl2:=hb2.acts.len
 obtain ⟨κ21,fa',ha2,hw21,hf21⟩:=ha.moveW a.wr (κ2:=κ2) hl2 hca.1 (fun s hs=>s2 s (p1 s hs).1) (fun s hs=>s2 s fun hc=>(p2 s hc).2 hs)
 have hca2:Zks a.wr a.E κ2:=⟨hca.1,fun s hs=>by
  by_cases hsb:s∈b.wr
  ·have:a.E.kill (kd κ2 s)=false:=q2 _ (by rw[hkb];exact List.mem_map.2 ⟨s,hsb,(hw2 s hsb).symm⟩)
   rw[this] at hs;cases hs
  ·exact hca.2 s (by rw[←s2 s hsb];exact hs)⟩
 have hl21:=ha2.acts.len
 have hκ:κ21=κ12:=by
  refine Zoq (by omega) fun s=> ?_
  by_cases h1:s∈a.wr
  ·rw[hw21 s h1,hcb.keep hb.acts (p1 s h1).1]
  ·rw[hca2.keep ha2.acts h1]
   by_cases h2:s∈b.wr
   ·rw[hw2 s h2]
   ·rw[s2 s h2,hcb.keep hb.acts h2,s1 s h1]
 refine ⟨κ2,fb',hb2,(hf2 _ _ fun s hs=> ?_).trans hfb, ?_, ?_,hcb2,κ21,fa',ha2,(hf21 _ _ fun s hs=> ?_).trans hfa, ?_, ?_,hca2, ?_⟩
 ·rw[hbv] at hs
  rcases List.mem_cons.1 hs with rfl|hs
  ·rw[Stp.vl_app ha.acts.tgt ha.acts.two fun hc=>(p1 _ (hca.1 _ hc)).2 (List.mem_singleton.2 rfl)]
  ·rw[List.mem_singleton.1 hs,Stp.vl_app2 ht1 ht2]
 ·rw[hob];exact List.map_congr_left fun s hs=>s1 s (p2 s hs).1
 ·rw[hkb];exact List.map_congr_left fun s hs=>(hw2 s hs).symm
 ·rw[Stp.vl_app hb.acts.tgt hb.acts.two fun hc=>(p2 s (hcb.1 s hc)).2 hs]
 ·rw[hoa];exact List.map_congr_left fun s hs=>(s2 s (p1 s hs).1).symm
 ·rw[hka];exact List.map_congr_left fun s hs=>(hw21 s hs).symm
 ·rw[hκ,Stp.app_comm hb.acts.tgt hb.acts.two ha.acts.tgt ha.acts.two fun s hs hc=>(p1 s (hca.1 s hc)).1 (hcb.1 s hs)]
  exact hr
theorem Ch.swapP {a b:Itm} {r:List Itm} {κ κe:List Kd} {σ σe:List PV} (h:Ch T G ops (a::b::r) κ σ κe σe) (hp:apP a.E a.o a.wr a.v a.old b.E b.wr b.v b.old b.nk=true):Ch T G ops (b::a::r) κ σ κe σe:=by
 obtain ⟨κ1,fa,ha,hfa,hoa,hka,hca,κ12,fb,hb,hfb,hob,hkb,hcb,hr⟩:=h
 unfold apP at hp
 split at hp
 ·cases hp
 rename_i t hx
 split at hp
 ·cases hp
 rename_i q hv
 simp only[Bool.and_eq_true,Bool.or_eq_true,decide_eq_true_eq] at hp
 obtain ⟨hq,hap,htb,hpo,hpn,hk1,hk2⟩:=hp
 have hqm:q∈b.wr:=by simpa using hq
 have pa:∀s∈a.wr,s∉b.wr∧s∉b.v:=fun s hs=>by
  have:=List.all_eq_true.1 hap s hs
  simpa using this
 have pw:∀s∈b.wr,s∉a.wr:=fun s hs hc=>(pa s hc).1 hs
 have q1:∀k∈a.old,b.E.kill k=false:=fun k hk=>by simpa using List.all_eq_true.1 hk1 k hk
 have q2:∀k∈b.nk,a.E.kill k=false:=fun k hk=>by simpa using List.all_eq_true.1 hk2 k hk
 have zip_at:∀(l:List Nat) (κ0:List Kd),((l.zip (l.map (kd κ0))).all fun p=>p.1 !=q||p.2.isBox)=true→q∈l→(kd κ0 q).isBox=true:=fun l κ0 h hm=>by
  have hz:(q,kd κ0 q)∈l.zip (l.map (kd κ0)):=by
   obtain ⟨i,hi,e⟩:=List.mem_iff_getElem.1 hm
   refine List.mem_iff_getElem.2 ⟨i,by simpa using hi, ?_⟩
   simp[e]
  have:=List.all_eq_true.1 h _ hz
  simpa using this
 have hbo:(kd κ1 q).isBox=true:=zip_at b.wr κ1 (by rw[←hob];exact hpo) hqm
 have hbn:(kd κ12 q).isBox=true:=zip_at b.wr κ12 (by rw[←hkb];exact hpn) hqm
 have htw:t≠q→t∉b.wr:=fun hne=>by
  rcases htb with h|h
  ·exact absurd h hne
  ·simpa using h
 have hl1:=ha.acts.len
 have hl12:=hb.acts.len
 have s1:∀s,s∉a.wr→kd κ1 s=kd κ s:=fun s hs=>hca.keep ha.acts hs
 obtain ⟨κ2,fb',hb2,hw2,hf2⟩:=hb.moveW b.wr (κ2:=κ) hl1.symm hcb.1 (fun s hs=>(s1 s (pw s hs)).symm) (fun s hs=>(s1 s fun hc=>(pa s hc).2 hs).symm)
 have hcb2:Zks b.wr b.E κ:=⟨hcb.1,fun s hs=>by
  by_cases hsa:s∈a.wr
  ·have:b.E.kill (kd κ s)=false:=q1 _ (by rw[hoa];exact List.mem_map.2 ⟨s,hsa,rfl⟩)
   rw[this] at hs;cases hs
  ·exact hcb.2 s (by rw[s1 s hsa];exact hs)⟩
 have s2:∀s,s∉b.wr→kd κ2 s=kd κ s:=fun s hs=>hcb2.keep hb2.acts hs
 have hl2:=hb2.acts.len
 obtain ⟨κ21,fa',ha2,hw21',hf21⟩:=ha.moveP (κ2:=κ2) hx hv (by rw[←s1 q (pw q hqm)];exact hbo) (by rw[hw2 q hqm];exact hbn) hl2 (fun s hs=>s2 s (pa s (hca.1 s hs)).1) (fun hne=>s2 t (htw hne))
 have hw21:∀s∈a.wr,kd κ21 s=kd κ1 s:=fun s hs=>by
  by_cases he:s∈a.E.wr
  ·exact hw21' s he
  ·rw[ha2.acts.out s he,ha.acts.out s he,s2 s (pa s hs).1]
 have hca2:Zks a.wr a.E κ2:=⟨hca.1,fun s hs=>by
  by_cases hsb:s∈b.wr
  ·have:a.E.kill (kd κ2 s)=false:=q2 _ (by rw[hkb];exact List.mem_map.2 ⟨s,hsb,(hw2 s hsb).symm⟩)
   rw[this] at hs;cases hs
  ·exact hca.2 s (by rw[←s2 s hsb];exact hs)⟩
 have hl21:=ha2.acts.len
 have hκ:κ21=κ12:=by
  refine Zoq (by omega) fun s=> ?_
  by_cases h1:s∈a.wr
  ·rw[hw21 s h1,hcb.keep hb.acts (pa s h1).1]
  ·rw[hca2.keep ha2.acts h1]
   by_cases h2:s∈b.wr
   ·rw[hw2 s h2]
   ·rw[s2 s h2,hcb.keep hb.acts h2,s1 s h1]
 refine ⟨κ2,fb',hb2,(hf2 _ _ fun s hs=> ?_).trans hfb, ?_, ?_,hcb2,κ21,fa',ha2,(hf21 _ _ fun hne=> ?_).trans hfa, ?_, ?_,hca2, ?_⟩
 ·rw[Stp.vl_app ha.acts.tgt ha.acts.two fun hc=>(pa s (hca.1 s hc)).2 hs]
 ·rw[hob];exact List.map_congr_left fun s hs=>s1 s (pw s hs)
 ·rw[hkb];exact List.map_congr_left fun s hs=>(hw2 s hs).symm
 ·rw[Stp.vl_app hb.acts.tgt hb.acts.two fun hc=>htw hne (hcb.1 t hc)]
 ·rw[hoa];exact List.map_congr_left fun s hs=>(s2 s (pa s hs).1).symm
 ·rw[hka];exact List.map_congr_left fun s hs=>(hw21 s hs).symm
 ·rw[hκ,Stp.app_comm hb.acts.tgt hb.acts.two ha.acts.tgt ha.acts.two fun s hs hc=>(pa s (hca.1 s hc)).1 (hcb.1 s hs)]
  exact hr
theorem Ch.swapX {a b:Itm} {r:List Itm} {κ κe:List Kd} {σ σe:List PV} (h:Ch T G ops (a::b::r) κ σ κe σe) (hp:a.apartX b=true):Ch T G ops (b::a::r) κ σ κe σe:=by
 unfold Itm.apartX at hp
 rcases Bool.or_eq_true_iff.1 hp with hp|hp
 ·exact Ch.swapX0 h hp
 ·exact Ch.swapP h hp
theorem Ch.front {b:Itm} {r:List Itm} {κe:List Kd} {σe:List PV}:∀(l:List Itm) (κ:List Kd) (σ:List PV),Ch T G ops (l++b::r) κ σ κe σe→(∀a∈l,(a.apart b||a.apartX b)=true)→Ch T G ops (b::(l++r)) κ σ κe σe
 |[],_,_,h,_=>h
 | a::l,κ,σ,h,hp=>by
  obtain ⟨κ',f,h1,h2,h3,h4,h5,h6⟩:=h
  have ih:=Ch.front l κ' _ h6 fun c hc=>hp c (List.mem_cons_of_mem _ hc)
  rcases Bool.or_eq_true_iff.1 (hp a List.mem_cons_self) with hq|hq
  ·exact Ch.swap (r:=l++r) ⟨κ',f,h1,h2,h3,h4,h5,ih⟩ hq
  ·exact Ch.swapX (r:=l++r) ⟨κ',f,h1,h2,h3,h4,h5,ih⟩ hq
end
section
variable {R :Type} {T:Tab} {G:List Ent} {ops:Array Oper}
theorem ZmW {o:Oper} {κ:List Kd} {k:Stp→List Kd→(List PV→Option PV)→Option R} {r:R} (h:Zom T G ops o κ k=some r):∃E κ' f,StepR T G ops o κ E (ZbD ops o E κ) κ' f∧k E κ' f=some r:=by
 unfold Zom at h
 cases hb:Zfg G o κ with
 | some p=>
  obtain ⟨e,q,d,rest⟩:=p
  rw[hb] at h
  dsimp only at h
  cases hg:o.guard with
  | none=>
   rw[hg] at h
   simp only[Zci,Zb7] at h
   refine ⟨_,_,_,.bx ?_ rfl,h⟩
   unfold Zfc
   rw[hb]
   dsimp only
   rw[hg]
  | some g=>
   obtain ⟨j,want⟩:=g
   rw[hg] at h
   dsimp only at h
   cases ht:(ops[j]?).bind (·.dst) with
   |none=>rw[ht] at h;cases h
   | some t=>
    rw[ht] at h
    dsimp only at h
    split at h
    case isFalse=>cases h
    rename_i hc
    simp only[Zci,Zb7] at h
    refine ⟨_,_,_,.bx ?_ rfl,h⟩
    unfold Zfc
    rw[hb]
    dsimp only
    rw[hg]
    dsimp only
    rw[ht]
    dsimp only
    rw[if_pos hc]
 |none=>
 rw[hb] at h
 dsimp only at h
 cases hE:Zak (R:=PV) T G o κ with
 |none=>rw[hE] at h;cases h
 | some E=>
  rw[hE] at h
  obtain ⟨gh,tgt,put,ek,cut,dyn⟩:=E
  dsimp only at h
  cases hκ:ZlG gh tgt put ek cut κ with
  |none=>rw[hκ] at h;cases h
  | some κ'=>
   rw[hκ] at h
   simp only[Zci] at h
   have hκ':Eff.κ (⟨gh,tgt,put,ek,cut,dyn⟩:Eff PV) κ=some κ':=by rw[ZlH];exact hκ
   cases hg:o.guard with
   | none=>
    rw[hg] at h
    simp only[Zb7] at h
    refine ⟨_,κ',_,.eff _ hE ?_ hκ' rfl rfl,h⟩
    unfold ZdT
    rw[hE]
    dsimp only
    rw[hκ']
    dsimp only
    rw[hg]
   | some g=>
    obtain ⟨j,want⟩:=g
    rw[hg] at h
    dsimp only at h
    cases ht:(ops[j]?).bind (·.dst) with
    |none=>rw[ht] at h;cases h
    | some t=>
     rw[ht] at h
     dsimp only at h
     split at h
     case isFalse=>cases h
     rename_i hc
     simp only[Zb7] at h
     refine ⟨_,κ',_,.eff _ hE ?_ hκ' rfl rfl,h⟩
     unfold ZdT
     rw[hE]
     dsimp only
     rw[hκ']
     dsimp only
     rw[hg]
     dsimp only
     rw[ht]
     dsimp only
     rw[if_pos hc]
def SD (T:Tab) (G:List Ent) (ops:Array Oper):List Oper→Nat→List Kd→List StepD→List Kd→Prop
 |[],_,κ,l,κe=>l=[]∧κ=κe
 |o::r,i,κ,l,κe=>∃d l' κ',l=d::l'∧d.i=i∧d.o=o∧(∀s∈d.E.wr,s∈d.wr)∧StepR T G ops o κ d.E d.v κ' d.f∧d.old=d.wr.map (kd κ)∧d.nk=d.wr.map (kd κ')∧d.calm=Zrl d.E d.wr κ∧SD T G ops r (i+1) κ' l' κe
theorem Zfl :∀(l:List Oper) (i:Nat) (κ:List Kd) (k:List StepD→List Kd→Option R) (r:R),Zjb T G ops l i κ k=some r→∃ds κe,SD T G ops l i κ ds κe∧k ds κe=some r
 |[],i,κ,k,r,h=>⟨[],κ,⟨rfl,rfl⟩,h⟩
 | o::l,i,κ,k,r,h=>by
  unfold Zjb at h
  obtain ⟨E,κ',f,h1,h2⟩:=ZmW h
  simp only[Zi8] at h2
  obtain ⟨ds,κe,h3,h4⟩:=Zfl l (i+1) κ' _ r h2
  exact ⟨_,κe,⟨_,ds,κ',rfl,rfl,rfl,fun s hs=>List.mem_append_left _ hs,h1,rfl,rfl,rfl,h3⟩,h4⟩
def StepD.itm (d:StepD) (x:PV):Itm:=⟨d.i,d.o,d.E,d.wr,d.v,d.old,d.nk,x⟩
theorem Zro {E:Stp} {wr:List Nat} {κ:List Kd} (hn:E.kill (.ck .none)=false) (h:Zrl E wr κ=true) (hw:∀s∈E.wr,s∈wr):Zks wr E κ:=⟨hw,fun s hs=>by
 by_cases hl:s<κ.length
 ·have:=List.all_eq_true.1 h s (List.mem_range.2 hl)
  simp only[hs,Bool.not_true,Bool.false_or,List.contains_eq_mem,decide_eq_true_eq] at this
  exact this
 ·have e:kd κ s=.ck .none:=by unfold kd;rw[List.getD_eq_getElem?_getD,List.getElem?_eq_none (by omega)];rfl
  rw[e,hn] at hs;cases hs⟩
theorem ZkZ :∀(l:List Oper) (i:Nat) (κ:List Kd) (ds:List StepD) (κe:List Kd) (σ:List PV) (k:List PV→Option R) (r:R),SD T G ops l i κ ds κe→Zkr ds σ k=some r→(∀d∈ds,d.calm=true)→
 ∃xs σe,xs.length=ds.length∧Ch T G ops (List.zipWith StepD.itm ds xs) κ σ κe σe∧k σe=some r
 | [],i,κ,ds,κe,σ,k,r,h,hr,hS=>by
  obtain ⟨rfl,rfl⟩:=h
  exact ⟨[],σ,rfl,⟨rfl,rfl⟩,hr⟩
 | o::l,i,κ,ds,κe,σ,k,r,h,hr,hS=>by
  obtain ⟨d,l',κ',rfl,e1,e2,e3,e4,e5,e7,e8,e6⟩:=h
  obtain ⟨x,hx,hr⟩:=Zqs hr
  obtain ⟨xs,σe,g1,g2,g3⟩:=ZkZ l (i+1) κ' l' κe _ k r e6 hr fun d' hd=>hS d' (List.mem_cons_of_mem _ hd)
  have n1:=hS d List.mem_cons_self
  rw[e8] at n1
  refine ⟨x::xs,σe,by simp[g1],⟨κ',d.f, ?_,hx, ?_, ?_,Zro e4.acts.none n1 e3,g2⟩,g3⟩
  ·show StepR T G ops d.o κ d.E d.v κ' d.f
   rw[e2];exact e4
  ·show d.old=_
   rw[e5];rfl
  ·show d.nk=_
   rw[e7];rfl
theorem Zpr {α:Type}:∀(k:List (List Nat)) (c:List (List Nat)→α),fcNN k c=c k
 |[],c=>rfl
 |k::r,c=>by simp[fcNN,Zi8,Zpr r]
theorem Zfm {a:Nat}:∀(l acc:List Nat),a∈l.foldl addN acc→a∈acc∨a∈l
 |[],acc,h=>.inl h
 | b ::r,acc,h=>by
  rcases Zfm r _ h with h|h
  ·unfold addN at h
   split at h
   ·exact .inl h
   ·rcases List.mem_cons.1 h with rfl|h
    ·exact .inr List.mem_cons_self
    ·exact .inl h
  ·exact .inr (List.mem_cons_of_mem _ h)
def Down (ops:Array Oper) (L:Nat→Prop):Prop:=∀j o,ops[j]?=some o→L j→∀e∈o.after,Region.binds .any e=true→L e.on
def Zrp (ops:Array Oper) (j a:Nat):Prop:=∀L:Nat→Prop,Down ops L→L j→L a
theorem Ztb (l:List Oper):∀(A:List (List Nat)),(∀k,l[k]?=ops[A.length+k]?)→(∀j a,a∈A.getD j []→Zrp ops j a)→∀j a,a∈(ancT l A).getD j []→Zrp ops j a:=by
 induction l with
 |nil=>intro A _ h j a ha;exact h j a ha
 | cons o r ih=>
  intro A hl h
  unfold ancT
  have ho:ops[A.length]?=some o:=by have:=hl 0;simpa using this.symm
  refine ih _ (fun k=> ?_) fun j a ha=> ?_
  ·have:=hl (k+1)
   simp only[List.getElem?_cons_succ] at this
   rw[this,List.length_append]
   congr 1
   simp
   omega
  ·rw [List.getD_eq_getElem?_getD,List.getElem?_append] at ha
   split at ha
   ·exact h j a (by rw[List.getD_eq_getElem?_getD];exact ha)
   ·rename_i hj
    by_cases hj0:j - A.length=0
    ·have hjj:j=A.length:=by omega
     rw[hj0] at ha
     simp only[List.getElem?_cons_zero,Option.getD_some] at ha
     intro L hL hLj
     rcases Zfm _ [] ha with ha|ha
     ·cases ha
     ·unfold ancOf at ha
      obtain ⟨e,he,hae⟩:=List.mem_flatMap.1 ha
      obtain ⟨he1,he2⟩:=List.mem_filter.1 he
      have h1:=hL j o (hjj▸ho) hLj e (Array.mem_toList_iff.1 he1) he2
      rcases List.mem_cons.1 hae with rfl|hae
      ·exact h1
      ·exact h e.on a hae L hL h1
    ·obtain ⟨m,hm⟩:∃m,j - A.length=m+1:=⟨j - A.length - 1,by omega⟩
     rw[hm] at ha
     simp at ha
structure Rest (ops:Array Oper) (rest:List Itm) (listed:Array Bool):Prop where
 at':∀a∈rest,ops[a.i]?=some a.o
 un:∀i,i<ops.size→(listed.getD i true=false↔∃a∈rest,a.i=i)
 sz:listed.size=ops.size
 pw:rest.Pairwise fun a b=>a.i<b.i∧((a.apart b||a.apartX b)=true∨Zrp ops b.i a.i)
 dc:Down ops fun i=>listed.getD i false=true
 ed:∀a∈rest,∀e∈a.o.after,Region.binds .any e=true→e.on<a.i
variable {P :Program} {w0:World} {F0:Nat→Prop} {X0:List Nat}
theorem St.drewn {κ:List Kd} {σ:List PV} {τ:Array Value} {w:World} {F:Nat→Prop} {fp:Nat→List Nat} (h:St w0 F0 X0 κ σ τ w F fp):St w0 F0 X0 κ σ τ {w with drawn:=w.drawn+1} F fp:=
 { h with
   sr:=fun s=>by obtain ⟨l,h1,h2,h3⟩:=h.sr s;exact ⟨l,h1,h2,h3.keep ⟨fun _ h=>h,fun _ _=>rfl⟩ fun _ _=>rfl⟩
   al:=fun s hs=>Al.keep h (h.al s hs) (fun _ _=>rfl) (fun q hq=>⟨h.bx s q hq,fun _ _=>rfl⟩) (fun _=>⟨Nat.le_refl _,fun _ _=>rfl⟩) (let ⟨l,_,_,hr⟩:=h.sr s;⟨l,hr⟩) (fun _ _=>rfl)
   gk:=h.gk.keep ⟨fun _ h=>h,fun _ _=>rfl⟩
   stay:=h.stay.trans ⟨fun _ h=>h,fun _ _=>rfl⟩}
theorem StepR.sound (hT:TabOk P T) (hG:∀e∈G,FnOk P e) {o:Oper} {κ κ':List Kd} {σ:List PV} {S:Stp} {vw:List Nat} {f:List PV→Option PV} {x:PV} (hs:StepR T G ops o κ S vw κ' f) (hx:f σ=some x) {a:Act} {w:World} {F:Nat→Prop} {fp:Nat→List Nat} (h:St w0 F0 X0 κ σ a.tmps w F fp)
 {K:Act→World→Prop} {Q:Exit→Act→World→Prop} (hK:∀(v:Value) w' F' fp',St w0 F0 X0 κ' (S.app σ x) (a.put o.dst v).tmps w' F' fp'→K (a.put o.dst v) w'):
 if Region.wanted o (yielded ops a.tmps) then o.wp P a w K Q∨(o.asks P a w∧LetsOut Q) else K (a.put o.dst undef) w:=by
 cases hs with
 | eff E heff hstep hkap hS _=>
  subst hS
  exact ZmO hT hG hstep hx h hK
 |bx hstep _=>exact ZmP hG hstep hx h hK
theorem Zfn {listed:Array Bool} {i:Nat} (h:i<listed.size) (b c:Bool):listed.getD i b=listed.getD i c:=by
 simp[Array.getD_eq_getD_getElem?,h]
theorem Zqw (hT:TabOk P T) (hG:∀e∈G,FnOk P e) {Q:Exit→Act→World→Prop} {κe:List Kd} {σe:List PV} {L:Nat} {V:Option (Nat×Value)} (hnd:∀o∈ops.toList,nd V o):∀(rest:List Itm) (n:Nat) (listed:Array Bool) (κ:List Kd) (σ:List PV) (a:Act) (w:World) (F:Nat→Prop) (fp:Nat→List Nat),
 rest.length=n→Rest ops rest listed→Ch T G ops rest κ σ κe σe→St w0 F0 X0 κ σ a.tmps w F fp→Iv V a→σ.length=L→
 (∀(a':Act) w' F' fp',St w0 F0 X0 κe σe a'.tmps w' F' fp'→Iv V a'→Q .normal a' w')→∀fuel,n≤fuel→wpAny P .any ops Q fuel listed a w:=by
 intro rest n
 induction n generalizing rest with
 | zero=>
  intro listed κ σ a w F fp hn hR hC hst hd hl hQ fuel hf
  have:rest=[]:=List.length_eq_zero_iff.1 hn
  subst this
  obtain ⟨rfl,rfl⟩:=hC
  have hnil:Region.ready .any ops listed=[]:=by
   cases hr:Region.ready .any ops listed with
   |nil=>rfl
   | cons i t=>
    have hm:i∈Region.ready .any ops listed:=by rw[hr];simp
    obtain ⟨h0,o,ho,_⟩:=mem_ready.1 hm
    have hlt:i<ops.size:=(Array.getElem?_eq_some_iff.1 ho).1
    obtain ⟨b,hb,_⟩:=(hR.un i hlt).1 h0
    simp at hb
  cases fuel with
  |zero=>exact ⟨hnil,hQ a w F fp hst hd⟩
  |succ fuel=>exact ⟨fun _=>hQ a w F fp hst hd,fun i hi'=>by rw[hnil] at hi';simp at hi'⟩
 | succ n ih=>
  intro listed κ σ a w F fp hn hR hC hst hd hl hQ fuel hf
  obtain ⟨fuel,rfl⟩:∃m,fuel=m+1:=⟨fuel - 1,by omega⟩
  refine ⟨fun hnil=> ?_,fun i hir=> ?_⟩
  ·
   exfalso
   cases rest with
   |nil=>simp at hn
   | cons b r=>
    have hb:=hR.at' b List.mem_cons_self
    have hlt:b.i<ops.size:=(Array.getElem?_eq_some_iff.1 hb).1
    have hm:b.i∈Region.ready .any ops listed:=by
     refine mem_ready.2 ⟨(hR.un b.i hlt).2 ⟨b,List.mem_cons_self,rfl⟩,b.o,hb,fun e he hbd=> ?_⟩
     have hlt':=hR.ed b List.mem_cons_self e he hbd
     have hes:e.on<ops.size:=by omega
     cases hL:listed.getD e.on false with
     |true=>rfl
     | false=>
      obtain ⟨c,hc,hce⟩:=(hR.un e.on hes).1 (by rw[Zfn (by rw[hR.sz];exact hes) true false];exact hL)
      rcases List.mem_cons.1 hc with rfl|hc
      ·omega
      ·have:=(List.pairwise_cons.1 hR.pw).1 c hc
       omega
    rw[hnil] at hm
    simp at hm
  ·obtain ⟨h0,o,ho,hall⟩:=mem_ready.1 hir
   have hlt:i<ops.size:=(Array.getElem?_eq_some_iff.1 ho).1
   obtain ⟨b,hb,rfl⟩:=(hR.un i hlt).1 h0
   obtain ⟨l,r,rfl⟩:=List.append_of_mem hb
   have hbo:b.o=o:=by have:=hR.at' b hb;rw[ho] at this;cases this;rfl
   subst hbo
   have hpw:=hR.pw
   rw[List.pairwise_append] at hpw
   obtain ⟨pl,pr,plr⟩:=hpw
   have hap:∀c∈l,(c.apart b||c.apartX b)=true:=fun c hc=>by
    obtain ⟨hci,h1|hwt⟩:=plr c hc b List.mem_cons_self
    ·exact h1
    ·exfalso
     have hcs:c.i<ops.size:=by omega
     have h3:=(hR.un c.i hcs).2 ⟨c,by simp[hc],rfl⟩
     have hdn:Down ops fun i=>listed.getD i false=true∨i=b.i:=fun j o' ho' hj e he hbd=>by
      rcases hj with hj|rfl
      ·exact .inl (hR.dc j o' ho' hj e he hbd)
      ·rw[ho] at ho';cases ho';exact .inl (hall e he hbd)
     rcases hwt _ hdn (.inr rfl) with h2|h2
     ·rw[Zfn (by rw[hR.sz];exact hcs) false true,h3] at h2
      cases h2
     ·omega
   obtain ⟨κ',f,g1,g2,_,_,_,g5⟩:=Ch.front l κ σ hC hap
   have hR':Rest ops (l++r) (listed.setIfInBounds b.i true):=by
    have sub:∀c,c∈l++r→c∈l++b::r:=fun c hc=>by
     rcases List.mem_append.1 hc with hc|hc
     ·exact List.mem_append_left _ hc
     ·exact List.mem_append_right _ (List.mem_cons_of_mem _ hc)
    have pb:=List.pairwise_cons.1 pr
    refine ⟨fun c hc=>hR.at' c (sub c hc),fun j hj=> ?_,by simp[hR.sz], ?_,fun j o' ho' hj e he hbd=> ?_,fun c hc=>hR.ed c (sub c hc)⟩
    ·by_cases hjb:b.i=j
     ·subst hjb
      constructor
      ·intro hL
       rw[Zfn (by simp[hR.sz];exact hj) true false] at hL
       have:(listed.setIfInBounds b.i true).getD b.i false=true:=by
        have hs:b.i<listed.size:=by rw[hR.sz];exact hj
        simp[Array.getD_eq_getD_getElem?,hs]
       rw[this] at hL;cases hL
      ·rintro ⟨c,hc,hce⟩
       exfalso
       rcases List.mem_append.1 hc with hc|hc
       ·have:=(plr c hc b List.mem_cons_self).1;omega
       ·have:=(pb.1 c hc).1;omega
     ·rw [getD_set_ne true hjb,hR.un j hj]
      constructor
      ·rintro ⟨c,hc,hce⟩
       refine ⟨c, ?_,hce⟩
       rcases List.mem_append.1 hc with hc|hc
       ·exact List.mem_append_left _ hc
       ·rcases List.mem_cons.1 hc with rfl|hc
        ·exact absurd hce hjb
        ·exact List.mem_append_right _ hc
      ·rintro ⟨c,hc,hce⟩
       exact ⟨c,sub c hc,hce⟩
    ·rw[List.pairwise_append]
     exact ⟨pl,pb.2,fun c hc d hd'=>plr c hc d (List.mem_cons_of_mem _ hd')⟩
    ·by_cases hjb:b.i=j
     ·subst hjb
      rw[ho] at ho';cases ho'
      exact getD_set_true (hall e he hbd)
     ·replace hj:(listed.setIfInBounds b.i true).getD j false=true:=hj
      rw[getD_set_ne false hjb] at hj
      exact getD_set_true (hR.dc j o' ho' hj e he hbd)
   unfold wpOp
   rw[ho]
   dsimp only
   refine g1.sound hT hG g2 hst fun v w' F' fp' hst'=> ?_
   exact ih (l++r) (listed.setIfInBounds b.i true) κ' _ (a.put b.o.dst v) w' F' fp' (by simp at hn⊢;omega) hR' g5 hst' (hd.put (hnd _ (Array.mem_toList_iff.2 (Array.mem_of_getElem? ho))) v) (by rw[Stp.length_app];exact hl) hQ fuel (by omega)
theorem SD.spec :∀(l:List Oper) (i:Nat) (κ:List Kd) (ds:List StepD) (κe:List Kd),SD T G ops l i κ ds κe→ds.length=l.length∧∀(j:Nat) (d:StepD),ds[j]?=some d→d.i=i+j∧l[j]?=some d.o∧(∀s∈d.E.wr,s∈d.wr)
 |[],i,κ,ds,κe,h=>by obtain ⟨rfl,_⟩:=h;simp
 | o::l,i,κ,ds,κe,h=>by
  obtain ⟨d,l',κ',rfl,e1,e2,e3,e4,e5,_,_,e6⟩:=h
  obtain ⟨h1,h2⟩:=SD.spec l (i+1) κ' l' κe e6
  refine ⟨by simp[h1],fun j d' hj=> ?_⟩
  cases j with
  |zero=>simp at hj;subst hj;exact ⟨e1,by simp[e2],e3⟩
  | succ j=>
   obtain ⟨g1,g2,g3⟩:=h2 j d' (by simpa using hj)
   exact ⟨by omega,by simpa using g2,g3⟩
theorem Zg5 (hT:TabOk P T) (hG:∀e∈G,FnOk P e) (hm:P.follows .mixedOrders=true) {id:Nat} {κ:List Kd} {σ:List PV} {k:List StepD→List Kd→List PV→Option R} {els:List StepD→Option R} {r:R} (h:ZlJ T G ops κ (fun l κe=>Zkr l σ (k l κe)) els=some r)
 {a:Act} {w:World} {F:Nat→Prop} {fp:Nat→List Nat} (hst:St w0 F0 X0 κ σ a.tmps w F fp) {V:Option (Nat×Value)} (hd:Iv V a) (hnd:∀o∈ops.toList,nd V o) {Q:Exit→Act→World→Prop}
 (hQ:∀l κe σe (a':Act) w' F' fp',St w0 F0 X0 κe σe a'.tmps w' F' fp'→Off σ σe (l.flatMap StepD.ts)→Iv V a'→k l κe σe=some r→Q .normal a' w'):(Code.region id ops true).wp P Q a w∨∃l0,els l0=some r:=by
 unfold ZlJ at h
 obtain ⟨l0,_,_,h⟩:=Zfl _ _ _ _ _ h
 simp only[Zi8,Zci] at h
 generalize hκ0:Zrm κ _=κ0 at h
 obtain ⟨ds,κe,hSD,h⟩:=Zfl _ _ _ _ _ h
 split at h
 case isFalse=>exact .inr ⟨l0,h⟩
 rename_i hc
 simp only[Bool.and_eq_true] at hc
 obtain ⟨⟨⟨c1,c2⟩,c3⟩,c4⟩:=hc
 left
 have hsp:=SD.spec _ _ _ _ _ hSD
 obtain ⟨xs,σe,hxl,hCh,hk⟩:=ZkZ _ _ _ _ _ σ _ r hSD h fun d hd=>List.all_eq_true.1 c4 d hd
 have hst0:St w0 F0 X0 κ0 σ a.tmps w F fp:=hst.weak c1 rfl fun s _=>rfl
 have hst1:St w0 F0 X0 κ0 σ a.tmps {w with drawn:=w.drawn+1} F fp:=hst0.drewn
 have hz:∀(j:Nat) (b:Itm),(List.zipWith StepD.itm ds xs)[j]?=some b→∃d x,ds[j]?=some d∧b=d.itm x:=fun j b hb=>by
  rw[List.getElem?_zipWith] at hb
  split at hb
  ·rename_i d x h1 h2;cases hb;exact ⟨d,x,h1,rfl⟩
  ·cases hb
 have hoff:Off σ σe (ds.flatMap StepD.ts):=by
  have key:∀(ds:List StepD) (xs:List PV) (κ:List Kd) (σ:List PV),xs.length=ds.length→Ch T G ops (List.zipWith StepD.itm ds xs) κ σ κe σe→Off σ σe (ds.flatMap StepD.ts):=by
   intro ds
   induction ds with
   |nil=>intro xs κ σ hl hc;cases xs<;>simp at hl;obtain ⟨_,rfl⟩:=hc;exact Off.refl _ _
   | cons d r ih=>
    intro xs κ σ hl hc
    cases xs with
    |nil=>simp at hl
    | cons x xs=>
     obtain ⟨κ',f,_,_,_,_,_,hr⟩:=hc
     have:=ih xs κ' _ (by simpa using hl) hr
     refine ⟨this.1.trans Stp.length_app,fun s hs=> ?_⟩
     simp only[List.flatMap_cons,List.mem_append,not_or] at hs
     rw[this.2 s hs.2]
     have hs1:=hs.1
     unfold StepD.ts at hs1
     simp only[List.mem_cons,not_or] at hs1
     show vl (Stp.app d.E σ x) s=_
     unfold Stp.app
     cases ht:d.E.two with
     |none=>dsimp only;rw[Zbk,if_neg];intro hc';exact hs1.1 hc'.1
     | some q=>
      rw[ht] at hs1
      simp only[Option.toList_some,List.mem_cons,List.not_mem_nil,or_false] at hs1
      dsimp only
      rw[Zbk,if_neg (by intro hc';exact hs1.1 hc'.1),Zbk,if_neg (by intro hc';exact hs1.2 hc'.1)]
  exact key _ _ _ _ hxl hCh
 refine wp_region_any hm (Zqw hT hG hnd (κe:=κe) (σe:=σe) (L:=σ.length) (List.zipWith StepD.itm ds xs) ops.size (Array.replicate ops.size false) κ0 σ a _ F fp ?_ ?_ hCh hst1 hd rfl (fun a' w' F' fp' h1 h2=>hQ ds κe σe a' w' F' fp' h1 hoff h2 hk) ops.size (Nat.le_refl _))
 ·rw[List.length_zipWith,hxl,Nat.min_self,hsp.1];simp
 ·have hlen:(List.zipWith StepD.itm ds xs).length=ops.size:=by rw[List.length_zipWith,hxl,Nat.min_self,hsp.1];simp
  have hidx:∀(j:Nat) (b:Itm),(List.zipWith StepD.itm ds xs)[j]?=some b→b.i=j∧ops[b.i]?=some b.o:=fun j b hb=>by
   obtain ⟨d,x,h1,rfl⟩:=hz j b hb
   obtain ⟨g1,g2,_⟩:=hsp.2 j d h1
   have e:d.i=j:=by omega
   refine ⟨e, ?_⟩
   show ops[d.i]?=some d.o
   rw[e]
   simpa using g2
  refine ⟨fun b hb=> ?_,fun i hi=> ?_,by simp, ?_,fun j o' ho' hj=>(by
   have hlt:j<ops.size:=(Array.getElem?_eq_some_iff.1 ho').1
   simp[Array.getD_eq_getD_getElem?,hlt] at hj),fun b hb e he hbd=> ?_⟩
  ·obtain ⟨j,hj⟩:=List.getElem?_of_mem hb
   exact (hidx j b hj).2
  ·constructor
   ·intro _
    have hi':i<(List.zipWith StepD.itm ds xs).length:=by omega
    exact ⟨_,List.getElem_mem hi',(hidx i _ (List.getElem?_eq_getElem hi')).1⟩
   ·intro _
    simp[Array.getD_eq_getD_getElem?,hi]
  ·rw [List.pairwise_iff_getElem]
   intro i j hi hj hij
   have h1:=hidx i _ (List.getElem?_eq_getElem hi)
   have h2:=hidx j _ (List.getElem?_eq_getElem hj)
   obtain ⟨d1,x1,q1,e1⟩:=hz i _ (List.getElem?_eq_getElem hi)
   obtain ⟨d2,x2,q2,e2⟩:=hz j _ (List.getElem?_eq_getElem hj)
   have hlt:(List.zipWith StepD.itm ds xs)[i].i<(List.zipWith StepD.itm ds xs)[j].i:=by omega
   refine ⟨hlt, ?_⟩
   rw[e1,e2]
   have key:∀(A:List (List Nat)) (ds:List StepD) (i j:Nat) (d1 d2:StepD),ZlI A ds=true→i<j→ds[i]?=some d1→ds[j]?=some d2→(freeB d1 d2||(A.getD d2.i []).contains d1.i)=true:=by
    intro A ds
    induction ds with
    |nil=>intro i j d1 d2 _ _ hh;simp at hh
    | cons a r ih=>
     intro i j d1 d2 hp hij g1 g2
     unfold ZlI at hp
     simp only[Bool.and_eq_true] at hp
     cases i with
     | zero=>
      simp at g1;subst g1
      obtain ⟨j,rfl⟩:∃m,j=m+1:=⟨j - 1,by omega⟩
      exact List.all_eq_true.1 hp.1 d2 (List.mem_of_getElem? (by simpa using g2))
     | succ i=>
      obtain ⟨j,rfl⟩:∃m,j=m+1:=⟨j - 1,by omega⟩
      exact ih i j d1 d2 hp.2 (by omega) (by simpa using g1) (by simpa using g2)
   have:=key _ ds i j d1 d2 c2 hij q1 q2
   rcases Bool.or_eq_true_iff.1 this with this|this
   ·exact .inl this
   ·right
    rw[Zpr] at this
    exact Ztb ops.toList [] (fun k=>by simp) (fun j a ha=>by simp at ha) d2.i d1.i (by simpa using this)
  ·obtain ⟨j,hj⟩:=List.getElem?_of_mem hb
   obtain ⟨d,x,q1,rfl⟩:=hz j _ hj
   have:=List.all_eq_true.1 c3 d (List.mem_of_getElem? q1)
   have:=Array.all_eq_true_iff_forall_mem.1 this e he
   have h3:e.on<d.i:=by simpa[hbd] using this
   exact h3
theorem ZlK (hT:TabOk P T) (hG:∀e∈G,FnOk P e) (hm:P.follows .mixedOrders=true) {id:Nat} {κ:List Kd} {σ:List PV} {k:List StepD→List Kd→List PV→Option R} {r:R} (h:Zon T G ops κ (fun l κe=>Zkr l σ (k l κe))=some r)
 {a:Act} {w:World} {F:Nat→Prop} {fp:Nat→List Nat} (hst:St w0 F0 X0 κ σ a.tmps w F fp) {V:Option (Nat×Value)} (hd:Iv V a) (hnd:∀o∈ops.toList,nd V o) {Q:Exit→Act→World→Prop}
 (hQ:∀l κe σe (a':Act) w' F' fp',St w0 F0 X0 κe σe a'.tmps w' F' fp'→Off σ σe (l.flatMap StepD.ts)→Iv V a'→k l κe σe=some r→Q .normal a' w'):(Code.region id ops true).wp P Q a w:=by
 unfold Zon at h
 rcases Zg5 hT hG hm (id:=id) h hst hd hnd hQ with h1|⟨l0,h1⟩
 ·exact h1
 split at h1
 ·cases h1
 rename_i κg hg
 simp only[Zci] at h1
 obtain ⟨F1,fp1,hst1,_⟩:=Zbq _ κ κg F fp hst hg
 rcases Zg5 hT hG hm (id:=id) h1 hst1 hd hnd hQ with h2|⟨_,h2⟩
 ·exact h2
 ·cases h2
end
def Ctl.ex :Ctl→Exit
 |.normal=>.normal
 |.exit id=>.exit id
 |.ret=>.ret
section
variable {R :Type} {P:Program} {T:Tab} {G:List Ent}
variable {w0 :World} {F0:Nat→Prop} {X0:List Nat} {H:Zip} {V:Option (Nat×Value)}
def ZeM (s:Nat):Code→Bool
 |.region _ ops _=>ops.toList.all fun o=>decide (o.dst≠some s)
 |.seq a b=>ZeM s a&&ZeM s b
 |.cond _ a b=>ZeM s a&&ZeM s b
 |.block _ c=>ZeM s c
 |.loop c=>ZeM s c
 |.skip=>true
 |.exit _=>true
 |.ret=>true
 |_=>false
def ndC (V:Option (Nat×Value)) (c:Code):Prop:=∀s v,V=some (s,v)→ZeM s c=true
theorem ndC.ops {id:Nat} {ops:Array Oper} {d:Bool} (h:ndC V (.region id ops d)):∀o∈ops.toList,nd V o:=fun o ho s v hs=>by
 have:=List.all_eq_true.1 (h s v hs) o ho
 simpa using this
theorem ndC.seq {a b:Code} (h:ndC V (.seq a b)):ndC V a∧ndC V b:=⟨fun s v hs=>(Bool.and_eq_true_iff.1 (h s v hs)).1,fun s v hs=>(Bool.and_eq_true_iff.1 (h s v hs)).2⟩
theorem ndC.cond {x:Operand} {a b:Code} (h:ndC V (.cond x a b)):ndC V a∧ndC V b:=⟨fun s v hs=>(Bool.and_eq_true_iff.1 (h s v hs)).1,fun s v hs=>(Bool.and_eq_true_iff.1 (h s v hs)).2⟩
theorem ndC.block {id:Nat} {c:Code} (h:ndC V (.block id c)):ndC V c:=fun s v hs=>h s v hs
theorem ndC.loop {c:Code} (h:ndC V (.loop c)):ndC V c:=fun s v hs=>h s v hs
def Outs (V:Option (Nat×Value)) (w0:World) (F0:Nat→Prop) (X0:List Nat) (σ0:List PV) (K:Ctl→List Kd→List Nat→List PV→Option R) (r:R) (Q:Exit→Act→World→Prop):Prop:=
 ∀(c:Ctl) (κ':List Kd) (W':List Nat) (σ':List PV) (a':Act) (w':World) (F':Nat→Prop) (fp':Nat→List Nat),St w0 F0 X0 κ' σ' a'.tmps w' F' fp'→Off σ0 σ' W'→Iv V a'→K c κ' W' σ'=some r→Q c.ex a' w'
theorem ZhP {κj:List Kd} {Wj:List Nat} {k:List PV→Option R} {κ':List Kd} {W':List Nat} {σ':List PV} {r:R} (h:Zeg κj Wj k κ' W' σ'=some r):∃κ1,jnK κ' κj=some κ1∧Zeq κ1 κj=true∧subW W' Wj=true∧k (ZmI σ' (ZaL κj Wj))=some r:=by
 unfold Zeg at h
 split at h
 ·cases h
 rename_i κ1 hj
 split at h
 ·rename_i hc
  simp only[Bool.and_eq_true] at hc
  exact ⟨κ1,hj,hc.1,hc.2,h⟩
 ·cases h
theorem St.joinF {w0:World} {F0:Nat→Prop} {X0:List Nat} {κ κ1 κj:List Kd} {σ σ':List PV} {τ:Array Value} {w:World} {F:Nat→Prop} {fp:Nat→List Nat} {W Wj:List Nat} (h:St w0 F0 X0 κ σ' τ w F fp) (hj:jnK κ κj=some κ1) (hw:Zeq κ1 κj=true) (hs:subW W Wj=true) (ho:Off σ σ' W):
 ∃F1 fp1,St w0 F0 X0 κj (Zap (ZmI σ' (ZaL κj Wj)) σ 0 (ZaL κj Wj)) τ w F1 fp1:=by
 unfold jnK at hj
 split at hj
 ·cases hj
  exact ⟨F,fp,h.join hw hs ho⟩
 ·obtain ⟨F1,fp1,hst,_⟩:=Zbq _ κ κ1 F fp h hj
  exact ⟨F1,fp1,hst.join hw hs ho⟩
theorem Off.trans {σ0 σ1 σ2:List PV} {W W':List Nat} (h:Off σ0 σ1 W) (h':Off σ1 σ2 W'):Off σ0 σ2 (W++W'):=
 ⟨h'.1.trans h.1,fun s hs=>by simp only[List.mem_append,not_or] at hs;exact (h'.2 s hs.2).trans (h.2 s hs.1)⟩
theorem Off.mono {σ0 σ:List PV} {W W':List Nat} (h:Off σ0 σ W) (hs:∀s∈W,s∈W'):Off σ0 σ W':=⟨h.1,fun s hn=>h.2 s fun hc=>hn (hs s hc)⟩
theorem Zgr (hT:TabOk P T) (hG:∀e∈G,FnOk P e) (hm:P.follows .mixedOrders=true):∀(c:Code) (p:Nat) (κ:List Kd) (W:List Nat) (σ σ0:List PV) (K:Ctl→List Kd→List Nat→List PV→Option R) (r:R) (a:Act) (w:World) (F:Nat→Prop) (fp:Nat→List Nat) (Q:Exit→Act→World→Prop),
 ZeH T G H p c κ W σ K=some r→St w0 F0 X0 κ σ a.tmps w F fp→Off σ0 σ W→Iv V a→ndC V c→Outs V w0 F0 X0 σ0 K r Q→c.wp P Q a w:=by
 intro c
 induction c with
 |skip=>intro p κ W σ σ0 K r a w F fp Q he h ho hd hnd hK;exact wp_skip (hK .normal κ W σ a w F fp h ho hd he)
 | region id ops draw=>
  intro p κ W σ σ0 K r a w F fp Q he h ho hd hnd hK
  cases draw
  ·unfold ZeH at he
   rw[Zi9] at he
   exact wp_region_list (Zg3 hT hG ops.toList κ W σ a w F fp he h ho hd hnd.ops fun κ' W' σ' a' w' F' fp' h1 h2 h3 h4=>hK .normal κ' W' σ' a' w' F' fp' h1 h2 h3 h4)
  ·unfold ZeH at he
   refine ZlK hT hG hm (k:=fun l κe=>K .normal κe (l.flatMap StepD.ts++W)) (by simpa only[Zi8] using he) h hd hnd.ops fun l κe σe a' w' F' fp' h1 h2 h3 h4=> ?_
   exact hK .normal κe _ σe a' w' F' fp' h1 ((ho.trans h2).mono fun s hs=>by simp only[List.mem_append] at hs⊢;exact hs.symm) h3 h4
 | seq x y ihx ihy=>
  intro p κ W σ σ0 K r a w F fp Q he h ho hd hnd hK
  refine wp_seq (ihx (2 * p) κ W σ σ0 _ r a w F fp _ he h ho hd hnd.seq.1 fun c κ' W' σ' a' w' F' fp' h1 h2 h3 h4=> ?_)
  cases c with
  |normal=>exact ihy (2 * p+1) κ' W' σ' σ0 K r a' w' F' fp' Q h4 h1 h2 h3 hnd.seq.2 hK
  |exit id=>exact hK (.exit id) κ' W' σ' a' w' F' fp' h1 h2 h3 (by simpa[ZeG] using h4)
  |ret=>exact hK .ret κ' W' σ' a' w' F' fp' h1 h2 h3 (by simpa[ZeG] using h4)
 | cond c x y ihx ihy=>
  intro p κ W σ σ0 K r a w F fp Q he h ho hd hnd hK
  unfold ZeH at he
  split at he
  case isFalse=>cases he
  rename_i hv
  obtain ⟨t,ht,he⟩:=Option.bind_eq_some_iff.1 he
  have hvr:=rdV h hv
  rw[Zsl ht] at hvr
  refine wp_cond (t:=t) hvr.bool_eq ?_
  split at he
  ·
   rename_i j _
   rw[Zer] at he
   simp only[Zcj] at he
   have key:∀(z:Code) (q:Nat),(∀(κ:List Kd) (W:List Nat) (σ σ0:List PV) (K:Ctl→List Kd→List Nat→List PV→Option R) (r:R) (a:Act) (w:World) (F:Nat→Prop) (fp:Nat→List Nat) (Q:Exit→Act→World→Prop),
    ZeH T G H q z κ W σ K=some r→St w0 F0 X0 κ σ a.tmps w F fp→Off σ0 σ W→Iv V a→ndC V z→Outs V w0 F0 X0 σ0 K r Q→z.wp P Q a w)→ndC V z→
    ZeH T G H q z κ [] σ (ZeG W K (Zeg j.1 j.2 fun J=>K .normal j.1 (W++j.2) (Zap J σ 0 (ZaL j.1 j.2))))=some r→z.wp P Q a w:=by
    intro z q ihz hndz hez
    refine ihz κ [] σ σ _ r a w F fp Q hez h (Off.refl _ _) hd hndz fun c κ' W' σ' a' w' F' fp' h1 h2 h3 h4=> ?_
    cases c with
    | normal=>
     rw[Zgi] at h4
     obtain ⟨κ1,j0,j1,j2,j3⟩:=ZhP h4
     obtain ⟨F1,fp1,hjj⟩:=h1.joinF j0 j1 j2 h2
     exact hK .normal j.1 (W++j.2) _ a' w' F1 fp1 hjj (ZeJ ho _ _ 0 _ (fun s hs=>List.mem_append_left _ hs) (fun s hs=>List.mem_append_right _ (Zgp _ _ s hs))) h3 j3
    |exit id=>exact hK (.exit id) κ' (W++W') σ' a' w' F' fp' h1 (ho.trans h2) h3 h4
    |ret=>exact hK .ret κ' (W++W') σ' a' w' F' fp' h1 (ho.trans h2) h3 h4
   cases t
   ·exact key y _ (ihy (2 * p+1)) hnd.cond.2 (by simpa using he)
   ·exact key x _ (ihx (2 * p)) hnd.cond.1 (by simpa using he)
  ·cases t
   ·exact ihy (2 * p+1) κ W σ σ0 K r a w F fp Q (by simpa using he) h ho hd hnd.cond.2 hK
   ·exact ihx (2 * p) κ W σ σ0 K r a w F fp Q (by simpa using he) h ho hd hnd.cond.1 hK
 | block id c ih=>
  intro p κ W σ σ0 K r a w F fp Q he h ho hd hnd hK
  refine wp_block ?_
  unfold ZeH at he
  split at he
  ·refine ih (2 * p) κ W σ σ0 _ r a w F fp _ he h ho hd hnd.block fun c κ' W' σ' a' w' F' fp' h1 h2 h3 h4=> ?_
   cases c with
   |normal=>exact hK .normal κ' W' σ' a' w' F' fp' h1 h2 h3 h4
   | exit i=>
    show Exit.inBlock id Q (.exit i) a' w'
    change (if i=id then K .normal κ' W' σ' else K (.exit i) κ' W' σ')=some r at h4
    by_cases e:i=id
    ·rw[if_pos e] at h4
     simp only[Exit.inBlock,e,if_true]
     exact hK .normal κ' W' σ' a' w' F' fp' h1 h2 h3 h4
    ·rw[if_neg e] at h4
     simp only[Exit.inBlock,e,if_false]
     exact hK (.exit i) κ' W' σ' a' w' F' fp' h1 h2 h3 h4
   |ret=>exact hK .ret κ' W' σ' a' w' F' fp' h1 h2 h3 h4
  ·rename_i j _
   rw[Zer] at he
   simp only[Zcj] at he
   have join:∀(κ':List Kd) (W':List Nat) (σ':List PV) (a':Act) (w':World) (F':Nat→Prop) (fp':Nat→List Nat),St w0 F0 X0 κ' σ' a'.tmps w' F' fp'→Off σ σ' W'→Iv V a'→Zeg j.1 j.2 (fun J=>K .normal j.1 (W++j.2) (Zap J σ 0 (ZaL j.1 j.2))) κ' W' σ'=some r→Q .normal a' w':=by
    intro κ' W' σ' a' w' F' fp' h1 h2 h3 h4
    obtain ⟨κ1,j0,j1,j2,j3⟩:=ZhP h4
    obtain ⟨F1,fp1,hjj⟩:=h1.joinF j0 j1 j2 h2
    exact hK .normal j.1 (W++j.2) _ a' w' F1 fp1 hjj (ZeJ ho _ _ 0 _ (fun s hs=>List.mem_append_left _ hs) (fun s hs=>List.mem_append_right _ (Zgp _ _ s hs))) h3 j3
   refine ih (2 * p) κ [] σ σ _ r a w F fp _ he h (Off.refl _ _) hd hnd.block fun c κ' W' σ' a' w' F' fp' h1 h2 h3 h4=> ?_
   cases c with
   |normal=>exact join κ' W' σ' a' w' F' fp' h1 h2 h3 h4
   | exit i=>
    show Exit.inBlock id Q (.exit i) a' w'
    change (if i=id then Zeg j.1 j.2 _ κ' W' σ' else K (.exit i) κ' (W++W') σ')=some r at h4
    by_cases e:i=id
    ·rw[if_pos e] at h4
     simp only[Exit.inBlock,e,if_true]
     exact join κ' W' σ' a' w' F' fp' h1 h2 h3 h4
    ·rw[if_neg e] at h4
     simp only[Exit.inBlock,e,if_false]
     exact hK (.exit i) κ' (W++W') σ' a' w' F' fp' h1 (ho.trans h2) h3 h4
   |ret=>exact hK .ret κ' (W++W') σ' a' w' F' fp' h1 (ho.trans h2) h3 h4
 | loop c ih=>
  intro p κ W σ σ0 K r a w F fp Q he h ho hd hnd hK
  unfold ZeH at he
  split at he
  ·cases he
  rename_i L _
  split at he
  ·cases he
  rename_i κ1 hjn
  split at he
  case isFalse=>cases he
  rename_i hw
  simp only[Zcj] at he
  rw[Zjc] at he
  have rounds:∀(n:Nat) (J:List PV) (a:Act) (w:World) (F:Nat→Prop) (fp:Nat→List Nat),ZhO (fun again J=>ZeH T G H (2 * p) c L.1 [] (Zap J σ 0 (ZaL L.1 L.2)) (ZeG (W++L.2) K (Zeg L.1 L.2 again))) n J=some r→
   St w0 F0 X0 L.1 (Zap J σ 0 (ZaL L.1 L.2)) a.tmps w F fp→Iv V a→Code.rounds P c Q n a w:=by
   intro n
   induction n with
   |zero=>intro J a w F fp hr;cases hr
   | succ n ihn=>
    intro J a w F fp hr hst hd
    rw[rounds_succ]
    unfold ZhO at hr
    have hoff:Off σ0 (Zap J σ 0 (ZaL L.1 L.2)) (W++L.2):=ZeJ ho J _ 0 _ (fun s hs=>List.mem_append_left _ hs) (fun s hs=>List.mem_append_right _ (Zgp _ _ s hs))
    refine ih (2 * p) L.1 [] _ (Zap J σ 0 (ZaL L.1 L.2)) _ r a w F fp _ hr hst (Off.refl _ _) hd hnd.loop fun c' κ' W' σ' a' w' F' fp' h1 h2 h3 h4=> ?_
    cases c' with
    | normal=>
     rw[Zgi] at h4
     obtain ⟨κ1,j0,j1,j2,j3⟩:=ZhP h4
     obtain ⟨F1,fp1,hj⟩:=h1.joinF j0 j1 j2 h2
     refine ihn _ a' w' F1 fp1 j3 ?_ h3
     refine hj.weak ?_ (by rw[Z2,Z2,Z2]) fun s _=> ?_
     ·unfold Zeq
      have hb:Zrk L.1=true:=by
       unfold Zeq at j1
       simp only[Bool.and_eq_true] at j1
       exact j1.2
      have hz:∀(l:List Kd),(List.zipWith Zew l l).all id=true:=by
       intro l
       induction l with
       |nil=>rfl
       | cons k r ih=>
        simp only[List.zipWith_cons_cons,List.all_cons,Bool.and_eq_true,id]
        refine ⟨?_,ih⟩
        have wc:∀c,Zfp c c=true:=fun c=>by cases c<;>simp[Zfp]
        unfold Zew
        split
        ·split
         ·rfl
         ·exact wc _
        ·simp only[decide_true,Bool.true_and,Bool.and_true]
         rename_i ks
         have hk:∀(ks:List CK),(List.zipWith Zfp ks ks).all id=true:=by
          intro ks
          induction ks with
          |nil=>rfl
          |cons k r ih=>simp only[List.zipWith_cons_cons,List.all_cons,Bool.and_eq_true,id];exact ⟨wc k,ih⟩
         exact hk ks
        ·simp
      rw[hz L.1,hb]
      simp
     ·by_cases hsl:s<σ.length
      ·rw[ZeI _ σ' _ σ 0 (fun k hk=>by rw[Nat.zero_add];exact Zjd σ' _ k hk) s hsl]
       rw[ZeI _ σ' _ _ 0 (fun k hk=>by rw[Nat.zero_add];exact Zjd σ' _ k hk) s (by rw[Z2];exact hsl)]
       split
       ·rfl
       ·rename_i hn
        have:=(ZeJ (Off.refl σ (ZaL L.1 L.2)) J (ZaL L.1 L.2) 0 (ZaL L.1 L.2) (fun _ h=>h) (fun _ h=>h)).2 s hn
        exact this.symm
      ·have e1:∀(σ1:List PV),σ1.length=σ.length→vl σ1 s=.undef:=fun σ1 hl=>by unfold vl;rw[List.getD_eq_getElem?_getD,List.getElem?_eq_none (by omega)];rfl
       rw[e1 _ (by rw[Z2]),e1 _ (by rw[Z2,Z2])]
    |exit id=>exact hK (.exit id) κ' (W++L.2++W') σ' a' w' F' fp' h1 (hoff.trans h2) h3 h4
    |ret=>exact hK .ret κ' (W++L.2++W') σ' a' w' F' fp' h1 (hoff.trans h2) h3 h4
  obtain ⟨F1,fp1,hj⟩:=h.joinF hjn hw (W:=[]) (Wj:=L.2) (by simp[subW]) (Off.refl _ _)
  exact wp_loop_rounds fuel (rounds fuel _ a w F1 fp1 he hj hd)
 |rangeFunc f ps x y _ _=>intro p κ W σ σ0 K r a w F fp Q he;cases he
 |exit id=>intro p κ W σ σ0 K r a w F fp Q he h ho hd hnd hK;exact wp_exit (hK (.exit id) κ W σ a w F fp h ho hd he)
 |scope c ih=>intro p κ W σ σ0 K r a w F fp Q he;cases he
 |label l=>intro p κ W σ σ0 K r a w F fp Q he;cases he
 |goto l=>intro p κ W σ σ0 K r a w F fp Q he;cases he
 |ret=>intro p κ W σ σ0 K r a w F fp Q he h ho hd hnd hK;exact wp_ret (hK .ret κ W σ a w F fp h ho hd he)
 |refuse s=>intro p κ W σ σ0 K r a w F fp Q he;cases he
end
def Zg6 (T:Tab) (κ:List Kd) (want:CK):ResultVar→Bool
 | .tmp t=>match want,kd κ t with
  |.val,.ck .val|.val,.ck .nil=>true
  |.own true _ _,.ck .nil=>true
  |.own a e sz,.ck c=>c=.own a e sz
  |_,_=>false
 | .cell t ty=>match want,kd κ t,T.lookup ty with
  |.val,.box _ ks,some ti=>ti.agg&&ks.length=ti.size&&ks.all ckV
  |_,_,_=>false
def resGh (κ:List Kd) (want:CK):ResultVar→List Gh
 | .tmp t=>match want,kd κ t with
  |.val,.ck (.own a e sz)=>[⟨t,none,true,a,e,sz⟩]
  |_,_=>[]
 | .cell t _=>match kd κ t with
  |.box _ ks=>(List.range ks.length).filterMap fun i=>match ks[i]? with|some (CK.own a e sz)=>some (⟨t,some i,true,a,e,sz⟩:Gh)|_=>none
  |_=>[]
def Zkt (σ:List PV):ResultVar→PV
 |.tmp t=>vl σ t
 |.cell t _=>vl σ t
def ZmX (σ:List PV):List ResultVar→List PV
 |[]=>[]
 |r::rs=>Zkt σ r::ZmX σ rs
theorem Zjh (σ:List PV):∀rs,ZmX σ rs=rs.map (Zkt σ)
 |[]=>rfl
 |r::rs=>by rw[ZmX,Zjh σ rs];rfl
def Zcf :ResultVar→Nat
 |.tmp t=>t
 |.cell t _=>t
def Zps :Kd→List CK
 |.ck c=>[c]
 |.grp true ks=>ks
 |_=>[]
def Zfo (rk:Kd) (l:List PV):Option PV:=
 match rk,l with
 |.ck _,[x]=>some x
 |.grp true _,l=>some (.tup l)
 |_,_=>none
def oneRk :Kd→Bool
 |.ck _=>true
 |_=>false
def retC (T:Tab) (rk:Kd) (rs:List ResultVar) (κ:List Kd) (σ:List PV):Option (List Kd×PV):=
 let ws:=Zps rk
 if ws.length=rs.length∧(rs.map Zcf).Nodup∧(decide (ws.length=1)=oneRk rk) then
  match Zac κ.length ((ws.zip rs).flatMap fun p=>resGh κ p.1 p.2) κ with
  |none=>none
  |some κ1=>if ((ws.zip rs).all fun p=>Zg6 T κ1 p.1 p.2)=true then (Zfo rk (ZmX σ rs)).map fun r=>(κ1,r) else none
 else none
def Zrq (κ:List Kd) (σ:List PV) (K:Kd):List ResultVar→Option PV
 |[.tmp t]=>if ((kd κ (bxq κ t)).isBox&&K.isBox&&Zew (kd κ (bxq κ t)) K&& !(vl σ t).isU)=true then some (vl σ (bxq κ t)) else none
 |_=>none
def resT (κ:List Kd):ResultVar→Option (Option Nat×List CK)
 |.cell t _=>match kd κ t with|.box _ ks=>some (some ks.length,ks)|_=>none
 |.tmp t=>match kd κ t with|.ck c=>some (none,[c])|_=>none
def ZmY (κ:List Kd):List ResultVar→Option (List (Option Nat)×List CK)
 |[]=>some ([],[])
 |r::rs=>match resT κ r,ZmY κ rs with|some (c,k),some (sh,ks)=>some (c::sh,k++ks)|_,_=>none
def oneT (σ:List PV):ResultVar→Bool
 |.tmp t=>(vl σ t).one
 |.cell _ _=>true
def Zji (T:Tab) (κ:List Kd):ResultVar→Bool
 |.tmp _=>true
 |.cell t ty=>match kd κ t,T.lookup ty with|.box _ ks,some ti=>ti.agg&&decide (ks.length=ti.size)|_,_=>false
def one1 (x:PV):Option PV:=if x.one=true then some x else none
def Zpt (σ:List PV):List ResultVar→Option (List PV)
 |[]=>some []
 |.tmp t::rs=>(one1 (vl σ t)).bind fun x=>(Zpt σ rs).bind fun l=>some (x::l)
 |.cell t _::rs=>(Zpt σ rs).bind fun l=>some (vl σ t::l)
theorem Zjj (σ:List PV):∀(rs:List ResultVar) (l:List PV),Zpt σ rs=some l→rs.all (oneT σ)=true∧l=ZmX σ rs
 |[],l,h=>by cases h;exact ⟨rfl,rfl⟩
 | .tmp t::rs,l,h=>by
  obtain ⟨x,h1,h⟩:=Option.bind_eq_some_iff.1 h
  obtain ⟨l',h2,h⟩:=Option.bind_eq_some_iff.1 h
  cases h
  obtain ⟨a,rfl⟩:=Zjj σ rs l' h2
  unfold one1 at h1
  split at h1
  ·rename_i ho
   cases h1
   exact ⟨by rw[List.all_cons,Bool.and_eq_true];exact ⟨ho,a⟩,rfl⟩
  ·cases h1
 | .cell t _::rs,l,h=>by
  obtain ⟨l',h2,h⟩:=Option.bind_eq_some_iff.1 h
  cases h
  obtain ⟨a,rfl⟩:=Zjj σ rs l' h2
  exact ⟨by rw[List.all_cons,Bool.and_eq_true];exact ⟨rfl,a⟩,rfl⟩
def retT (T:Tab) (κ:List Kd) (σ:List PV) (sh:List (Option Nat)) (ks:List CK) (rs:List ResultVar):Option PV:=
 match ZmY κ rs with
 |some (sh',ks')=>if rs.length≠1∧(rs.map Zcf).Nodup∧sh'=sh∧ks'.length=ks.length∧(List.zipWith Zfp ks' ks).all id=true∧rs.all (Zji T κ)=true∧(rs.all fun rv=>match rv with|.tmp t=>decide (kd κ t≠.ck .none)|.cell _ _=>true)=true then (Zpt σ rs).bind fun l=>some (.tup l) else none
 |none=>none
def retG (T:Tab) (κ:List Kd) (σ:List PV) (ks:List CK):List ResultVar→Option PV
 | [.tmp t]=>
  match kd κ t with
  |.grp false ks'=>if ks'.length=ks.length∧(List.zipWith Zfp ks' ks).all id=true then some (vl σ t) else none
  |_=>none
 | [.cell t ty]=>
  match kd κ t with
  |.box _ ks'=>if ks'.length=ks.length∧(List.zipWith Zfp ks' ks).all id=true∧Zji T κ (.cell t ty)=true then some (vl σ t) else none
  |_=>none
 |_=>none
def retI (κ:List Kd) (σ:List PV):List ResultVar→Option PV
 | [.tmp t,.tmp u]=>
  match Zac κ.length (resGh κ .val (.cell (bxq κ t) 0)) κ with
  |none=>none
  | some κ1=>
   match kd κ1 (bxq κ t) with
   |.box _ ks=>if (ks.all ckV&&decide (kd κ1 u=.ck .val)&& !(vl σ t).isU)=true then some (.tup [vl σ (bxq κ t),vl σ u]) else none
   |_=>none
 |_=>none
def Zpu :List Kd→Bool
 |k::_=>k.isBox
 |[]=>false
def valRk :Kd→Bool
 |.ck .val=>true
 |.grp true ks=>ks.all (·=.val)
 |_=>false
def Zku (T:Tab) (K0:Option Kd) (rk:Kd) (rs:List ResultVar):Knt PV
 |.exit _,_,_,_=>none
 | _,κ,_,σ=>
  match K0 with
  | none=>match rk with
   |.box _ _=>Zrq κ σ rk rs
   |.tgr sh ks=>retT T κ σ sh ks rs
   |.tip=>retI κ σ rs
   |.grp false ks=>retG T κ σ ks rs
   |_=>(retC T rk rs κ σ).map (·.2)
  |some K=>if valRk rk=true then (retC T rk rs κ σ).bind fun p=>if Zew (kd p.1 0) K=true then some (.tup [p.2,vl σ 0]) else none else none
def ZmZ (ps:List Kd):Option Kd:=match Zpu ps with|true=>some (ps.headD (.ck .none))|false=>none
noncomputable def Zk0 (T:Tab) (G:List Ent) (H:Zip) (fn:Func) (ps:List Kd) (rk:Kd) (xs:List PV):Option PV:=
 match fn.body with
 |none=>none
 | some c=>
  if xs.length=ps.length∧(ps.all fun k=>k.dep.isNone)=true∧(!Zpu ps||ZeM 0 c)=true then
   fcL (ps++List.replicate (fn.ntmps - ps.length) (.ck .none)) fun κ=>fcS (xs++List.replicate (fn.ntmps - ps.length) .undef) fun σ=>ZeH T G H 1 c κ [] σ (Zku T (ZmZ ps) rk fn.results.toList)
  else none
section
variable {P :Program} {T:Tab} {G:List Ent}
theorem ArgsR.lens {w:World} {F:Nat→Prop} {ks:List Kd} {xs:List PV} {vs:List Value} (h:ArgsR w F ks xs vs):ks.length=xs.length∧vs.length=xs.length:=by
 induction h with
 |nil=>exact ⟨rfl,rfl⟩
 |cons _ _ _ ih=>simp[ih.1,ih.2]
theorem ArgsR.at {w:World} {F:Nat→Prop} {ks:List Kd} {xs:List PV} {vs:List Value} (h:ArgsR w F ks xs vs):∀i,i<xs.length→SR w F (ks.getD i (.ck .none)) (xs.getD i .undef) (vs.getD i Go.undef) []:=by
 induction h with
 |nil=>intro i hi;simp at hi
 | cons h hu ht ih=>
  intro i hi
  cases i with
  |zero=>simpa using h
  |succ i=>simpa using ih i (by simpa using hi)
theorem St.entryB {w:World} {F:Nat→Prop} {ps:List Kd} {xs:List PV} {vs:List Value} {n:Nat} {l0:List Nat} (hF:FOk w F) (hl:ps.length=xs.length∧vs.length=xs.length)
 (h:∀i,i<xs.length→SR w F (ps.getD i (.ck .none)) (xs.getD i .undef) (vs.getD i Go.undef) (if i=0 then l0 else [])) (hl0:xs=[]→l0=[]) (hn0:l0.Nodup) (hp0:∀b∈l0,b<w.heap.size∧¬F b) (hd:(ps.all fun k=>k.dep.isNone)=true):
 St w F l0 (ps++List.replicate n (.ck .none)) (xs++List.replicate n .undef) (vs.toArray++Array.replicate n Go.undef) w F (fun s=>if s=0 then l0 else []):=by
 have hk:∀s,kd (ps++List.replicate n (.ck .none)) s=if s<xs.length then ps.getD s (.ck .none) else .ck .none:=by
  intro s
  unfold kd
  rw[List.getD_eq_getElem?_getD,List.getElem?_append]
  by_cases hs:s<xs.length
  ·rw[if_pos (by omega),if_pos hs,List.getD_eq_getElem?_getD]
  ·rw[if_neg (by omega),if_neg hs,List.getElem?_replicate]
   split<;>rfl
 have hv:∀s,s<xs.length→vl (xs++List.replicate n .undef) s=xs.getD s .undef:=by
  intro s hs
  unfold vl
  rw[List.getD_eq_getElem?_getD,List.getElem?_append,if_pos hs,List.getD_eq_getElem?_getD]
 have ht:∀s,s<xs.length→tv (vs.toArray++Array.replicate n Go.undef) s=vs.getD s Go.undef:=by
  intro s hs
  unfold tv
  rw[Array.getD_eq_getD_getElem?,Array.getElem?_append,if_pos (by simp;omega),List.getD_eq_getElem?_getD]
  simp
 have hdep:∀s,(kd (ps++List.replicate n (.ck .none)) s).dep=none:=by
  intro s
  rw[hk]
  split
  ·rw[List.getD_eq_getElem?_getD]
   cases hp:ps[s]? with
   |none=>rfl
   |some k=>simpa using List.all_eq_true.1 hd k (List.mem_of_getElem? hp)
  ·rfl
 refine {lk:= ?_,ls:= ?_,sr:=fun s=> ?_,al:=fun s _=>ZbV (hdep s) _ _,bx:=fun s q hq=> ?_,dj:=fun s t b hst hs ht=> ?_,pr:=fun s b hb=> ?_,fl:=hF.lt,gk:=hF.gk,os:=rfl,tape:=rfl,output:=rfl,size:=Nat.le_refl _,kept:=fun _ _ _=>rfl,stay:=Stays.refl _ _,fnew:=fun b hb=>.inl hb}
 ·simp[hl.1,hl.2]
 ·simp[hl.2]
 ·rw[hk]
  by_cases hs:s<xs.length
  ·rw[if_pos hs,hv s hs,ht s hs]
   refine ⟨_, ?_,fun b hb=>hb,h s hs⟩
   split
   ·exact hn0
   ·exact List.nodup_nil
  ·rw[if_neg hs]
   exact ⟨[],List.nodup_nil,by simp,rfl⟩
 ·have:=Zab hq;rw[hdep s] at this;cases this
 ·split at hs
  ·split at ht
   ·omega
   ·cases ht
  ·cases hs
 ·split at hb
  ·exact ⟨(hp0 b hb).1,(hp0 b hb).2,.inr hb⟩
  ·cases hb
theorem St.entry {w:World} {F:Nat→Prop} {ps:List Kd} {xs:List PV} {vs:List Value} {n:Nat} (hF:FOk w F) (h:ArgsR w F ps xs vs) (hd:(ps.all fun k=>k.dep.isNone)=true):
 St w F [] (ps++List.replicate n (.ck .none)) (xs++List.replicate n .undef) (vs.toArray++Array.replicate n Go.undef) w F (fun s=>if s=0 then [] else []):=
 St.entryB hF h.lens (fun i hi=>by have:=h.at i hi;split<;>exact this) (fun _=>rfl) List.nodup_nil (by simp) hd
def Zeh (tmps:Array Value):ResultVar→Sem Value
 |.tmp t=>pure (tmps.getD t undef)
 |.cell a t=>do loadVar t (←asAddr (tmps.getD a undef))
inductive ResR (P:Program) (tmps:Array Value) (w:World):List ResultVar→List Value→Prop
 |nil:ResR P tmps w [] []
 |cons {rv:ResultVar} {v:Value} {rs:List ResultVar} {vs:List Value} (h:(Zeh tmps rv).run P w=.ok v w) (ht:ResR P tmps w rs vs):ResR P tmps w (rv::rs) (v::vs)
theorem ResR.run {tmps:Array Value} {w:World} {rs:List ResultVar} {vs:List Value} (h:ResR P tmps w rs vs):(rs.mapM (Zeh tmps)).run P w=.ok vs w:=by
 induction h with
 |nil=>rfl
 |cons h ht ih=>simp[List.mapM_cons,h,ih]
theorem Zco {fn:Func} {tmps:Array Value} {w:World} {vs:List Value} (h:ResR P tmps w fn.results.toList vs):(results fn tmps).run P w=.ok (if h:vs.toArray.size=1 then vs.toArray[0] else .tuple vs.toArray) w:=by
 have h1:=h.run
 have h2:(fn.results.mapM (Zeh tmps)).run P w=.ok vs.toArray w:=by
  have e:fn.results=fn.results.toList.toArray:=by simp
  rw[e,List.mapM_toArray]
  simp[h1]
 have e:results fn tmps=(do let vs←fn.results.mapM (Zeh tmps);pure (if h:vs.size=1 then vs[0] else .tuple vs)):=by
  unfold results
  congr 1
 rw[e]
 simp only[Sem.run_bind,h2,Result.andThen_ok]
 try rfl
theorem Zm0 (hT:TabOk P T) {w0:World} {F0:Nat→Prop} {X0:List Nat} {κ:List Kd} {σ:List PV} {tmps:Array Value} {w:World} {F:Nat→Prop} {fp:Nat→List Nat} (h:St w0 F0 X0 κ σ tmps w F fp) {want:CK} {rv:ResultVar} (hf:Zg6 T κ want rv=true):
 ∃(v:Value) (l:List Nat),(Zeh tmps rv).run P w=.ok v w∧CR w F want (Zkt σ rv) v l∧l.Nodup∧∀b∈l,b∈fp (Zcf rv):=by
 cases rv with
 | tmp t=>
  obtain ⟨l,hn,hsub,hsr⟩:=h.sr t
  have hrun:(Zeh tmps (.tmp t)).run P w=.ok (tv tmps t) w:=rfl
  unfold Zg6 at hf
  dsimp only at hf
  split at hf
  ·rename_i hk
   rw[hk] at hsr
   exact ⟨_,l,hrun,hsr,hn,hsub⟩
  ·rename_i hk
   rw[hk] at hsr
   obtain ⟨h1,h2⟩:=CR.vr (k:=.nil) hsr (.inr rfl)
   subst h2
   exact ⟨_,[],hrun,⟨h1,rfl⟩,List.nodup_nil,by simp⟩
  ·rename_i e sz hk
   rw[hk] at hsr
   obtain ⟨h1,h2,h3⟩:=hsr
   subst h3
   exact ⟨_,[],hrun,⟨[],h1,by rw[h2];exact Zal.nil_⟩,List.nodup_nil,by simp⟩
  ·rename_i a e sz c _ hk
   have hc:c=.own a e sz:=by simpa using hf
   rw[hc] at hk
   rw[hk] at hsr
   exact ⟨_,l,hrun,hsr,hn,hsub⟩
  ·cases hf
 | cell t ty=>
  unfold Zg6 at hf
  dsimp only at hf
  split at hf
  case h_2=>cases hf
  rename_i TT ks ti hk hty
  simp only[Bool.and_eq_true,decide_eq_true_eq] at hf
  obtain ⟨⟨hagg,hlen⟩,hall⟩:=hf
  obtain ⟨ht⟩:=hT.ty hty
  obtain ⟨l,hn,hsub,hsr⟩:=h.sr t
  rw[hk] at hsr
  obtain ⟨b,cs,xs,fps,e1,e2,e3,e4,rfl⟩:=hsr
  have hlens:=e4.lens
  have hload:=Zex (P:=P) (w:=w) ht hagg (b:=b) (off:=0) cs.toList (by rw[hlens.2.1];omega) (fun j v hj=>by rw[Nat.zero_add,cell_of_row w b j cs TT (0,0) e3];simpa using hj)
  refine ⟨.agg cs,[], ?_,⟨?_,rfl⟩,List.nodup_nil,by simp⟩
  ·have e1':tmps.getD t undef=.pointer (some ⟨b,0,none⟩):=e1
   have h1:(Instr.loadAt ty (.pointer (some ⟨b,0,none⟩))).run P w=(loadVar ty ⟨b,0,none⟩).run P w:=by simp[Instr.loadAt,Instr.sureAddr]
   rw[h1] at hload
   simp[Zeh,e1',asAddr,hload]
  ·show VR w F (vl σ t) (.agg cs)
   rw[e2]
   refine VR.of_cells (by have:=hlens.2.1;simp at this;omega) fun i x hx=> ?_
   obtain ⟨k,v,f,g1,g2,g3,g4,g5⟩:=e4.at i x hx
   have hkv:ckV k=true:=List.all_eq_true.1 hall k (List.mem_of_getElem? g1)
   have:cs.getD i Go.undef=v:=by
    have:cs[i]?=some v:=by simpa using g2
    simp[Array.getD_eq_getD_getElem?,this]
   rw[this]
   exact ⟨g5 rfl,(Zcx g4 hkv).1⟩
theorem Zpv (hT:TabOk P T) {w0:World} {F0:Nat→Prop} {X0:List Nat} {κ:List Kd} {σ:List PV} {tmps:Array Value} {w:World} {F:Nat→Prop} {fp:Nat→List Nat} (h:St w0 F0 X0 κ σ tmps w F fp):∀(ws:List CK) (rs:List ResultVar),ws.length=rs.length→(rs.map Zcf).Nodup→((ws.zip rs).all fun p=>Zg6 T κ p.1 p.2)=true→
 ∃(vs:List Value) (fps:List (List Nat)),ResR P tmps w rs vs∧GrpR w F false ws (rs.map (Zkt σ)) vs fps∧fps.flatten.Nodup∧(∀b∈fps.flatten,∃rv∈rs,b∈fp (Zcf rv))
 |[],[],_,_,_=>⟨[],[],.nil,.nil,by simp,by simp⟩
 | k ::ws,rv::rs,hl,hn,hf=>by
  simp only[List.zip_cons_cons,List.all_cons,Bool.and_eq_true] at hf
  simp only[List.map_cons,List.nodup_cons] at hn
  obtain ⟨v,l,h1,h2,h3,h4⟩:=Zm0 hT h hf.1
  obtain ⟨vs,fps,g1,g2,g3,g4⟩:=Zpv hT h ws rs (by simpa using hl) hn.2 hf.2
  refine ⟨v::vs,l::fps,.cons h1 g1,.cons h2 (fun hc=>by cases hc) g2, ?_,fun b hb=> ?_⟩
  ·simp only[List.flatten_cons]
   refine List.nodup_append.2 ⟨h3,g3,fun x hx y hy e=> ?_⟩
   subst e
   obtain ⟨rv',hm,hb⟩:=g4 x hy
   refine h.dj (Zcf rv) (Zcf rv') x (fun e=>hn.1 ?_) (h4 x hx) hb
   rw[e];exact List.mem_map.2 ⟨rv',hm,rfl⟩
  ·simp only[List.flatten_cons,List.mem_append] at hb
   rcases hb with hb|hb
   ·exact ⟨rv,List.mem_cons_self,h4 b hb⟩
   ·obtain ⟨rv',hm,hb⟩:=g4 b hb
    exact ⟨rv',List.mem_cons_of_mem _ hm,hb⟩
 |[],_::_,hl,_,_=>by simp at hl
 |_::_,[],hl,_,_=>by simp at hl
theorem Zgs (hT:TabOk P T) {fn:Func} {w0:World} {F0:Nat→Prop} {X0:List Nat} {κ κ1:List Kd} {σ:List PV} {tmps:Array Value} {w:World} {F:Nat→Prop} {fp:Nat→List Nat} {rk:Kd} {r:PV} (h:St w0 F0 X0 κ σ tmps w F fp) (hr:retC T rk fn.results.toList κ σ=some (κ1,r)):
 ∃(v:Value) (F1:Nat→Prop) (fp1:Nat→List Nat) (l:List Nat),St w0 F0 X0 κ1 σ tmps w F1 fp1∧(results fn tmps).run P w=.ok v w∧l.Nodup∧SR w F1 rk r v l∧∀b∈l,∃s,b∈fp1 s:=by
 unfold retC at hr
 dsimp only at hr
 rw[Zjh] at hr
 split at hr
 case isFalse=>cases hr
 rename_i hws
 split at hr
 ·cases hr
 rename_i κ2 hgh
 split at hr
 case isFalse=>cases hr
 rename_i hfit
 obtain ⟨r',h4,hr⟩:=Option.map_eq_some_iff.1 hr
 simp only[Prod.mk.injEq] at hr
 obtain ⟨rfl,rfl⟩:=hr
 obtain ⟨F1,fp1,g1,g2,g3,g4⟩:=Zbq _ κ κ2 F fp h hgh
 obtain ⟨vs',fps,m1,m2,m3,m4⟩:=Zpv hT g1 (Zps rk) fn.results.toList hws.1 hws.2.1 hfit
 have hlens:=m2.lens
 have hone:=hws.2.2
 refine ⟨_,F1,fp1,fps.flatten,g1,Zco m1,m3, ?_,fun b hb=>by obtain ⟨rv,_,hb⟩:=m4 b hb;exact ⟨_,hb⟩⟩
 have key:∀(l:List PV),fn.results.toList.map (Zkt σ)=l→Zfo rk l=some r'→GrpR w F1 false (Zps rk) l vs' fps→SR w F1 rk r' (if h:vs'.toArray.size=1 then vs'.toArray[0] else .tuple vs'.toArray) fps.flatten:=by
  intro l hl h4 m2
  cases rk with
  | ck c=>
   cases l with
   |nil=>simp[Zfo] at h4
   | cons x t=>
    cases t with
    | nil=>
     simp only[Zfo,Option.some.injEq] at h4
     subst h4
     have m2':GrpR w F1 false [c] [x] vs' fps:=m2
     cases m2' with
     | cons hcr ho ht=>
      cases ht
      have hcr':SR w F1 (.ck c) x _ _:=hcr
      simpa using hcr'
    |cons _ _=>simp[Zfo] at h4
  | grp b ks=>
   cases b with
   |false=>simp[Zfo] at h4
   | true=>
    simp only[Zfo,Option.some.injEq] at h4
    subst h4
    have m2':GrpR w F1 false ks l vs' fps:=m2
    have hlen1:vs'.toArray.size≠1:=by
     have h1:ks.length≠1:=fun e=>by simp[oneRk,Zps,e] at hone
     have h2:ks.length=l.length:=m2'.lens.1
     have h3:vs'.length=l.length:=m2'.lens.2.1
     simp only[List.size_toArray]
     omega
    rw[dif_neg hlen1]
    exact ⟨vs'.toArray,_,fps,rfl,rfl,by simpa using m2',rfl⟩
  |_=>simp[Zfo] at h4
 exact key _ rfl h4 m2
theorem Zis {fn:Func} {w0:World} {F0:Nat→Prop} {X0:List Nat} {κ:List Kd} {σ:List PV} {tmps:Array Value} {w:World} {F:Nat→Prop} {fp:Nat→List Nat} {rk:Kd} {r:PV} (h:St w0 F0 X0 κ σ tmps w F fp) (hr:Zrq κ σ rk fn.results.toList=some r):
 ∃(v:Value) (l:List Nat),(results fn tmps).run P w=.ok v w∧l.Nodup∧SR w F rk r v l∧∀b∈l,∃s,b∈fp s:=by
 unfold Zrq at hr
 split at hr
 case h_2=>cases hr
 rename_i t hrs
 split at hr
 case isFalse=>cases hr
 rename_i hc
 cases hr
 simp only[Bool.and_eq_true,Bool.not_eq_true'] at hc
 obtain ⟨⟨⟨hb,hK⟩,hwk⟩,hu⟩:=hc
 have hv:tv tmps (bxq κ t)=tv tmps t:=by
  unfold bxq
  split
  ·rename_i q' hk
   have hal:=h.al t (fun e=>by rw[e] at hu;cases hu)
   rw[hk] at hal
   exact hal
  ·rfl
 obtain ⟨l,h1,h2,h3⟩:=h.sr (bxq κ t)
 obtain ⟨l',g1,g2,g3⟩:=Zfq hwk h1 h3
 refine ⟨_,l',Zco (fn:=fn) (vs:=[tv tmps t]) (by rw[hrs];exact .cons rfl .nil),g1, ?_,fun b hb=>⟨_,h2 b (g2 b hb)⟩⟩
 rw[hv] at g3
 simpa using g3
theorem Zor (x:PV) (xs:List PV):ZcL (x::xs)=x.cells++ZcL xs:=rfl
theorem Zos (v:Value) (vs:List Value):Zc2 (v::vs)=v.cells.toList++Zc2 vs:=rfl
theorem CR.cells1 {w:World} {F:Nat→Prop} {k:CK} {x:PV} {v:Value} {l:List Nat} (h:CR w F k x v l) (hx:x.one=true) (hk:k≠.none):v.cells= #[v]:=by
 cases k with
 |none=>exact absurd rfl hk
 |val=>exact h.1.oneCell hx
 |nil=>obtain ⟨_,rfl,_⟩:=h;rfl
 | own app e sz=>
  obtain ⟨l0,rfl,hr⟩:=h
  obtain ⟨A,c,rfl⟩:=hr.slice_eq
  rfl
theorem Zit (hT:TabOk P T) {w0:World} {F0:Nat→Prop} {X0:List Nat} {κ:List Kd} {σ:List PV} {tmps:Array Value} {w:World} {F:Nat→Prop} {fp:Nat→List Nat} (h:St w0 F0 X0 κ σ tmps w F fp):∀(rs:List ResultVar) (sh:List (Option Nat)) (ks:List CK),(rs.map Zcf).Nodup→ZmY κ rs=some (sh,ks)→rs.all (Zji T κ)=true→rs.all (oneT σ)=true→(∀rv∈rs,∀t,rv=.tmp t→kd κ t≠.ck .none)→
 ∃(vs:List Value) (fps:List (List Nat)),ResR P tmps w rs vs∧vs.length=rs.length∧ZkF sh (rs.map (Zkt σ)) vs∧GrpR w F true ks (ZcL (rs.map (Zkt σ))) (Zc2 vs) fps∧fps.flatten.Nodup∧∀b∈fps.flatten,∃rv∈rs,b∈fp (Zcf rv)
 | [],sh,ks,_,hs,_,_,_=>by
  simp only[ZmY,Option.some.injEq,Prod.mk.injEq] at hs
  obtain ⟨rfl,rfl⟩:=hs
  exact ⟨[],[],.nil,rfl,trivial,.nil,by simp,by simp⟩
 | rv ::rs,sh,ks,hn,hs,hc,ho,hnn=>by
  simp only[ZmY] at hs
  split at hs
  case h_2=>cases hs
  rename_i c k sh1 ks1 h1 h2
  simp only[Option.some.injEq,Prod.mk.injEq] at hs
  obtain ⟨rfl,rfl⟩:=hs
  simp only[List.map_cons,List.nodup_cons] at hn
  simp only[List.all_cons,Bool.and_eq_true] at hc ho
  obtain ⟨vs,fps,g1,g2,g3,g4,g5,g6⟩:=Zit hT h rs sh1 ks1 hn.2 h2 hc.2 ho.2 (fun rv' hm=>hnn rv' (List.mem_cons_of_mem _ hm))
  have one:∃(v:Value) (fp1:List (List Nat)),(Zeh tmps rv).run P w=.ok v w∧ZkF (c::sh1) (Zkt σ rv::rs.map (Zkt σ)) (v::vs)∧GrpR w F true k (Zkt σ rv).cells v.cells.toList fp1∧fp1.flatten.Nodup∧∀b∈fp1.flatten,b∈fp (Zcf rv):=by
   cases rv with
   | tmp t=>
    simp only[resT] at h1
    split at h1
    case h_2=>cases h1
    rename_i ck hk
    simp only[Option.some.injEq,Prod.mk.injEq] at h1
    obtain ⟨rfl,rfl⟩:=h1
    obtain ⟨l,m1,m2,m3⟩:=h.sr t
    rw[hk] at m3
    have hone:(vl σ t).one=true:=ho.1
    have hne:ck≠.none:=fun e=>hnn _ List.mem_cons_self t rfl (by rw[hk,e])
    have hcl:=CR.cells1 m3 hone hne
    refine ⟨tv tmps t,[l],rfl,⟨hone,hcl,g3⟩, ?_,by simpa using m1,fun b hb=>m2 b (by simpa using hb)⟩
    show GrpR w F true [ck] (vl σ t).cells (tv tmps t).cells.toList [l]
    rw[hcl,Zh7 hone]
    exact .cons m3 (fun _=>hone) .nil
   | cell t ty=>
    simp only[resT] at h1
    split at h1
    case h_2=>cases h1
    rename_i TT kk hk
    simp only[Option.some.injEq,Prod.mk.injEq] at h1
    obtain ⟨rfl,rfl⟩:=h1
    have hct:=hc.1
    simp only[Zji,hk] at hct
    split at hct
    case h_2=>cases hct
    rename_i ks0 ti e0 hty
    cases e0
    simp only[Bool.and_eq_true,decide_eq_true_eq] at hct
    obtain ⟨ht⟩:=hT.ty hty
    obtain ⟨l,m1,m2,m3⟩:=h.sr t
    rw[hk] at m3
    obtain ⟨b,cs,xs,fps1,e1,e2,e3,e4,rfl⟩:=m3
    have hlens:=e4.lens
    have hload:=Zex (P:=P) (w:=w) ht hct.1 (b:=b) (off:=0) cs.toList (by rw[hlens.2.1];omega) (fun j v hj=>by rw[Nat.zero_add,cell_of_row w b j cs TT (0,0) e3];simpa using hj)
    have e1':tmps.getD t undef=.pointer (some ⟨b,0,none⟩):=e1
    refine ⟨.agg cs,fps1, ?_,⟨⟨xs,cs,e2,rfl,by omega,by have:=hlens.2.1;simp at this;omega⟩,g3⟩, ?_,(List.nodup_cons.1 m1).2,fun c hc=>m2 c (List.mem_cons_of_mem _ hc)⟩
    ·have h1:(Instr.loadAt ty (.pointer (some ⟨b,0,none⟩))).run P w=(loadVar ty ⟨b,0,none⟩).run P w:=by simp[Instr.loadAt,Instr.sureAddr]
     rw[h1] at hload
     simp[Zeh,e1',asAddr,hload]
    ·show GrpR w F true kk (vl σ t).cells (Value.agg cs).cells.toList fps1
     rw[e2]
     exact e4
  obtain ⟨v,fp1,m1,m2,m3,m4,m5⟩:=one
  refine ⟨v::vs,fp1++fps,.cons m1 g1,by simp[g2],m2, ?_, ?_,fun b hb=> ?_⟩
  ·simp only[List.map_cons,Zor,Zos]
   exact m3.append g4
  ·rw[List.flatten_append]
   refine List.nodup_append.2 ⟨m4,g5,fun x hx y hy e=> ?_⟩
   subst e
   obtain ⟨rv',hm,hb⟩:=g6 x hy
   refine h.dj (Zcf rv) (Zcf rv') x (fun e=>hn.1 ?_) (m5 x hx) hb
   rw[e];exact List.mem_map.2 ⟨rv',hm,rfl⟩
  ·rw[List.flatten_append,List.mem_append] at hb
   rcases hb with hb|hb
   ·exact ⟨rv,List.mem_cons_self,m5 b hb⟩
   ·obtain ⟨rv',hm,hb⟩:=g6 b hb
    exact ⟨rv',List.mem_cons_of_mem _ hm,hb⟩
theorem Zjk (hT:TabOk P T) {fn:Func} {w0:World} {F0:Nat→Prop} {X0:List Nat} {κ:List Kd} {σ:List PV} {tmps:Array Value} {w:World} {F:Nat→Prop} {fp:Nat→List Nat} {sh:List (Option Nat)} {ks:List CK} {r:PV} (h:St w0 F0 X0 κ σ tmps w F fp) (hr:retT T κ σ sh ks fn.results.toList=some r):
 ∃(v:Value) (l:List Nat),(results fn tmps).run P w=.ok v w∧l.Nodup∧SR w F (.tgr sh ks) r v l∧∀b∈l,∃s,b∈fp s:=by
 unfold retT at hr
 split at hr
 case h_2=>cases hr
 rename_i sh' ks' hs
 split at hr
 case isFalse=>cases hr
 rename_i hc
 obtain ⟨c1,c2,rfl,c4,c5,c6,c8⟩:=hc
 obtain ⟨l1,hl1,hr⟩:=Option.bind_eq_some_iff.1 hr
 cases hr
 obtain ⟨c7,rfl⟩:=Zjj _ _ _ hl1
 rw[Zjh]
 obtain ⟨vs,fps,g1,g2,g3,g4,g5,g6⟩:=Zit hT h _ _ _ c2 hs c6 c7 (fun rv hm t e hk=>by
  have:=List.all_eq_true.1 c8 rv hm
  subst e
  simp[hk] at this)
 obtain ⟨fps',m1,m2,m3⟩:=ZpS c4 c5 g5 g4
 have hsz:vs.toArray.size≠1:=by simp only[List.size_toArray];omega
 refine ⟨_,fps'.flatten,Zco g1,m1, ?_,fun b hb=>by obtain ⟨rv,_,hb⟩:=g6 b (m2 b hb);exact ⟨_,hb⟩⟩
 rw[dif_neg hsz]
 exact ⟨vs.toArray,_,fps',rfl,rfl,by simpa using g3,by simpa using m3,rfl⟩
theorem Zjl (hT:TabOk P T) {fn:Func} {w0:World} {F0:Nat→Prop} {X0:List Nat} {κ:List Kd} {σ:List PV} {tmps:Array Value} {w:World} {F:Nat→Prop} {fp:Nat→List Nat} {ks:List CK} {r:PV} (h:St w0 F0 X0 κ σ tmps w F fp) (hr:retG T κ σ ks fn.results.toList=some r):
 ∃(v:Value) (l:List Nat),(results fn tmps).run P w=.ok v w∧l.Nodup∧SR w F (.grp false ks) r v l∧∀b∈l,∃s,b∈fp s:=by
 unfold retG at hr
 split at hr
 ·rename_i t hrs
  split at hr
  case h_2=>cases hr
  rename_i ks' hk
  split at hr
  case isFalse=>cases hr
  rename_i hc
  cases hr
  obtain ⟨l,h1,h2,h3⟩:=h.sr t
  rw[hk] at h3
  obtain ⟨cs,xs,fps,e1,e2,e3,rfl⟩:=h3
  obtain ⟨fps',m1,m2,m3⟩:=ZpS hc.1 hc.2 h1 e3
  refine ⟨_,fps'.flatten,Zco (fn:=fn) (vs:=[tv tmps t]) (by rw[hrs];exact .cons rfl .nil),m1,⟨cs,xs,fps', ?_,e2,m3,rfl⟩,fun b hb=>⟨_,h2 b (m2 b hb)⟩⟩
  simpa using e1
 ·rename_i t ty hrs
  split at hr
  case h_2=>cases hr
  rename_i TT ks' hk
  split at hr
  case isFalse=>cases hr
  rename_i hc
  obtain ⟨c1,c2,c3⟩:=hc
  cases hr
  simp only[Zji,hk] at c3
  split at c3
  case h_2=>cases c3
  rename_i ks0 ti e0 hty
  cases e0
  simp only[Bool.and_eq_true,decide_eq_true_eq] at c3
  obtain ⟨ht⟩:=hT.ty hty
  obtain ⟨l,m1,m2,m3⟩:=h.sr t
  rw[hk] at m3
  obtain ⟨b,cs,xs,fps1,e1,e2,e3,e4,rfl⟩:=m3
  have hlens:=e4.lens
  have hload:=Zex (P:=P) (w:=w) ht c3.1 (b:=b) (off:=0) cs.toList (by rw[hlens.2.1];omega) (fun j v hj=>by rw[Nat.zero_add,cell_of_row w b j cs TT (0,0) e3];simpa using hj)
  have e1':tmps.getD t undef=.pointer (some ⟨b,0,none⟩):=e1
  obtain ⟨fps',n1,n2,n3⟩:=ZpS c1 c2 (List.nodup_cons.1 m1).2 e4
  refine ⟨_,fps'.flatten,Zco (fn:=fn) (vs:=[.agg cs]) (by
   rw[hrs]
   refine .cons ?_ .nil
   have h1:(Instr.loadAt ty (.pointer (some ⟨b,0,none⟩))).run P w=(loadVar ty ⟨b,0,none⟩).run P w:=by simp[Instr.loadAt,Instr.sureAddr]
   rw[h1] at hload
   simp[Zeh,e1',asAddr,hload]),n1,⟨cs,xs,fps', ?_,e2,n3,rfl⟩,fun b' hb=>⟨_,m2 b' (List.mem_cons_of_mem _ (n2 b' hb))⟩⟩
  simp
 ·cases hr
theorem Zjm {fn:Func} {w0:World} {F0:Nat→Prop} {X0:List Nat} {κ:List Kd} {σ:List PV} {tmps:Array Value} {w:World} {F:Nat→Prop} {fp:Nat→List Nat} {r:PV} (h:St w0 F0 X0 κ σ tmps w F fp) (hr:retI κ σ fn.results.toList=some r):
 ∃(v:Value) (κ1:List Kd) (F1:Nat→Prop) (fp1:Nat→List Nat) (b s:Nat),St w0 F0 X0 κ1 σ tmps w F1 fp1∧(results fn tmps).run P w=.ok v w∧SR w (fun c=>F1 c∨c=b) .tip r v []∧b∈fp1 s:=by
 unfold retI at hr
 split at hr
 case h_2=>cases hr
 rename_i t u hrs
 split at hr
 ·cases hr
 rename_i κ1 hgh
 split at hr
 case h_2=>cases hr
 rename_i TT ks hk
 split at hr
 case isFalse=>cases hr
 rename_i hc
 cases hr
 simp only[Bool.and_eq_true,Bool.not_eq_true',decide_eq_true_eq] at hc
 obtain ⟨⟨hall,hku⟩,hu⟩:=hc
 have hv:tv tmps (bxq κ t)=tv tmps t:=by
  unfold bxq
  split
  ·rename_i q' hk
   have hal:=h.al t (fun e=>by rw[e] at hu;cases hu)
   rw[hk] at hal
   exact hal
  ·rfl
 obtain ⟨F1,fp1,g1,g2,g3,g4⟩:=Zbq _ κ κ1 F fp h hgh
 obtain ⟨l,k1,k2,k3⟩:=g1.sr (bxq κ t)
 rw[hk] at k3
 obtain ⟨b,cs,xs,fps,e1,e2,e3,e4,rfl⟩:=k3
 obtain ⟨l2,m1,m2,m3⟩:=g1.sr u
 rw[hku] at m3
 have hst:Stays w F1 w (fun c=>F1 c∨c=b):=⟨fun _ h=>.inl h,fun _ _=>rfl⟩
 refine ⟨.tuple #[tv tmps t,tv tmps u],κ1,F1,fp1,b,bxq κ t,g1, ?_,⟨⟨_,_,xs,_,rfl,by rw[e2],⟨b,0,xs,by rw[←hv];exact e1,rfl,.inr rfl,fun j y hy=> ?_⟩,m3.1.keep hst⟩,rfl⟩,k2 b (by simp)⟩
 ·have:=Zco (P:=P) (fn:=fn) (tmps:=tmps) (w:=w) (vs:=[tv tmps t,tv tmps u]) (by rw[hrs];exact .cons rfl (.cons rfl .nil))
  simpa using this
 ·obtain ⟨k,v,f,q1,q2,q3,q4,q5⟩:=e4.at j y hy
  have hkv:ckV k=true:=List.all_eq_true.1 hall k (List.mem_of_getElem? q1)
  refine ⟨q5 rfl,v, ?_,(Zcx q4 hkv).1.keep hst⟩
  rw[Nat.zero_add]
  rw[cell_of_row w b j cs TT (0,0) e3]
  simpa using q2
theorem Zot {w:World} {F:Nat→Prop} {ps:List Kd} {xs:List PV} {vs:List Value} (h:ArgsR w F ps xs vs):Zpu ps=false:=by
 cases h with
 |nil=>rfl
 | @cons k x v ks xs vs h hu ht=>
  cases k with
  |box T ks=>obtain ⟨b,cs,ys,fps,_,_,_,_,h5⟩:=h;cases h5
  |_=>rfl
theorem SR.valRk {w:World} {F:Nat→Prop} {rk:Kd} {x:PV} {v:Value} {l:List Nat} (hv:valRk rk=true) (h:SR w F rk x v l):l=[]:=by
 unfold Go.Proofs.YtjjobbamoeaogaaDoor.valRk at hv
 split at hv
 ·exact h.2
 ·rename_i ks
  obtain ⟨cs,xs,fps,_,_,hg,rfl⟩:=h
  have key:∀{ks:List CK} {xs:List PV} {vs:List Value} {fps:List (List Nat)},GrpR w F (!true) ks xs vs fps→(ks.all fun k=>decide (k=.val))=true→fps.flatten=[]:=by
   intro ks xs vs fps hg
   induction hg with
   |nil=>intro _;rfl
   | cons hc _ _ ih=>
    intro ha
    simp only[List.all_cons,Bool.and_eq_true,decide_eq_true_eq] at ha
    obtain ⟨rfl,ha⟩:=ha
    rw[List.flatten_cons,ih ha,hc.2]
    rfl
  exact key hg hv
 ·cases hv
theorem fn_ok {H:Zip} (hT:TabOk P T) (hG:∀e∈G,FnOk P e) (hm:P.follows .mixedOrders=true) {f:FuncId} {fn:Func} (hf:P.funcs[f]?=some fn) (hname:(fn.name== "runtime.NumGoroutine")=false) (hb:fn.body≠none) (ps:List Kd) (rk:Kd) (hrk:rk.dep=none∧rk≠.ck .none):
 FnOk P ⟨f,ps,rk,false,Zk0 T G H fn ps rk⟩:=by
 refine ⟨fun args w=> ?_,hrk.1,fun w F xs vs r hF hargs hr=> ?_,fun _ _ _ _ hc=>absurd hc hrk.2,fun T0 ks rest hps w F x0 v0 l0 xs vs r y hF hn0 hp0 hx0 hargs hr=> ?_,fun K0 rest hK0 hps _ w F x0 v0 l0 xs vs r hF hn0 hp0 hx0 hargs hr=> ?_,fun hc=>absurd hc hrk.2⟩
 ·have h1:fn.name≠ "runtime.NumGoroutine":=by simpa using hname
  simp[callFunc,hf,h1,hb]
 ·unfold Zk0 at hr
  cases hc:fn.body with
  |none=>exact absurd hc hb
  | some c=>
   rw[hc] at hr
   dsimp only at hr
   split at hr
   case isFalse=>cases hr
   rename_i hlp
   simp only[Zci,Zcj] at hr
   have hhb:=Zot hargs
   have hl:=hargs.lens
   refine calls_of_wp hf hc ?_
   have hst:=St.entry (n:=fn.ntmps - ps.length) hF hargs hlp.2.1
   have hsz:vs.toArray.size=ps.length:=by simp;omega
   have hsz':fn.ntmps - vs.toArray.size=fn.ntmps - ps.length:=by rw[hsz]
   rw[hsz']
   have h0:ZmZ ps=none:=by unfold ZmZ;rw[hhb]
   rw[h0] at hr
   refine Zgr (V:=none) hT hG hm c 1 _ [] _ _ (Zku T none rk fn.results.toList) r _ w F _ _ hr hst (Off.refl _ _) ⟨rfl,fun _ _ hc=>by cases hc⟩ (fun _ _ hc=>by cases hc) ?_
   intro ctl κ' W' σ' a' w' F' fp' h1 h2 h3 h4
   have key:Zku T none rk fn.results.toList .ret κ' W' σ'=some r→a'.defers=[]∧∃v,(results fn a'.tmps).run P w'=.ok v w'∧∃(v':Value) (F':Nat→Prop) (l:List Nat),Ending.returned v=.returned v'∧Adds w F w' F'∧l.Nodup∧SR w' F' rk r v' l∧(∀b∈l,w.heap.size≤b∧b<w'.heap.size∧¬F' b)∧(false=true→∀G:Nat→Prop,SR w' G rk r v' l):=by
    intro h4
    have adds:∀{κ1:List Kd} {F1:Nat→Prop} {fp1:Nat→List Nat},St w F [] κ1 σ' a'.tmps w' F1 fp1→Adds w F w' F1:=fun g1=>
     ⟨g1.os,g1.tape,g1.output,g1.size,fun b hb=>g1.kept b hb (by simp),g1.stay.sub,fun b hb=>by rcases g1.fnew b hb with h|h|h;exact .inl h;exact .inr h;simp at h,g1.fl⟩
    have fresh:∀{κ1:List Kd} {F1:Nat→Prop} {fp1:Nat→List Nat} {l:List Nat},St w F [] κ1 σ' a'.tmps w' F1 fp1→(∀b∈l,∃s,b∈fp1 s)→∀b∈l,w.heap.size≤b∧b<w'.heap.size∧¬F1 b:=fun g1 hl b hb=>by
     obtain ⟨s,hb⟩:=hl b hb
     obtain ⟨k1,k2,k3⟩:=g1.pr _ b hb
     rcases k3 with k3|k3
     ·exact ⟨k3,k1,k2⟩
     ·simp at k3
    unfold Zku at h4
    dsimp only at h4
    split at h4
    ·obtain ⟨v,l,g1,g2,g3,g4⟩:=Zis (P:=P) h1 h4
     exact ⟨h3.1,v,g1,v,_,l,rfl,adds h1,g2,g3,fresh h1 g4,fun h=>by cases h⟩
    ·obtain ⟨v,l,g1,g2,g3,g4⟩:=Zjk hT h1 h4
     exact ⟨h3.1,v,g1,v,_,l,rfl,adds h1,g2,g3,fresh h1 g4,fun h=>by cases h⟩
    ·obtain ⟨v,κ1,F1,fp1,b,s,g1,g2,g3,g4⟩:=Zjm (P:=P) h1 h4
     have hp:=g1.pr s b g4
     have ha:=adds g1
     refine ⟨h3.1,v,g2,v,_,[],rfl,⟨ha.os,ha.tape,ha.output,ha.size,ha.block,fun c hc=>.inl (ha.sub c hc),fun c hc=> ?_,fun c hc=> ?_⟩,List.nodup_nil,g3,by simp,fun h=>by cases h⟩
     ·rcases hc with hc|rfl
      ·exact ha.new c hc
      ·rcases hp.2.2 with h|h
       ·exact .inr h
       ·simp at h
     ·rcases hc with hc|rfl
      ·exact ha.lt c hc
      ·exact hp.1
    ·obtain ⟨v,l,g1,g2,g3,g4⟩:=Zjl hT h1 h4
     exact ⟨h3.1,v,g1,v,_,l,rfl,adds h1,g2,g3,fresh h1 g4,fun h=>by cases h⟩
    ·obtain ⟨p,hp,h4⟩:=Option.map_eq_some_iff.1 h4
     obtain ⟨κ1,r'⟩:=p
     dsimp only at h4
     subst h4
     obtain ⟨v,F1,fp1,l,g1,g2,g3,g4,g5⟩:=Zgs hT h1 hp
     exact ⟨h3.1,v,g2,v,F1,l,rfl,adds g1,g3,g4,fresh g1 g5,fun h=>by cases h⟩
   cases ctl with
   |normal=>exact key h4
   |exit id=>cases h4
   |ret=>exact key h4
 ·dsimp only at hps
  subst hps
  dsimp only at hr
  unfold Zk0 at hr
  cases hc:fn.body with
  |none=>exact absurd hc hb
  | some c=>
   rw[hc] at hr
   dsimp only at hr
   split at hr
   case isFalse=>cases hr
   rename_i hlp
   simp only[Zci,Zcj] at hr
   have hl:=hargs.lens
   refine calls_of_wp hf hc ?_
   have hst:=St.entryB (n:=fn.ntmps - (Kd.box T0 ks::rest).length) (ps:=.box T0 ks::rest) (xs:=x0::xs) (vs:=v0::vs) (l0:=l0) hF (by simp[hl.1,hl.2]) (fun i hi=>by
    cases i with
    |zero=>simpa using hx0
    |succ i=>have:=hargs.at i (by simpa using hi);simpa using this) (fun h=>by cases h) hn0 hp0 hlp.2.1
   have hsz:(v0::vs).toArray.size=(Kd.box T0 ks::rest).length:=by simp;omega
   have hsz':fn.ntmps - (v0::vs).toArray.size=fn.ntmps - (Kd.box T0 ks::rest).length:=by rw[hsz]
   rw[hsz']
   have hnc:ZeM 0 c=true:=by simpa[Zpu,Kd.isBox] using hlp.2.2
   have h0:ZmZ (.box T0 ks::rest)=some (.box T0 ks):=rfl
   rw[h0] at hr
   refine Zgr (V:=some (0,v0)) hT hG hm c 1 _ [] _ _ (Zku T (some (.box T0 ks)) rk fn.results.toList) _ _ w F _ _ hr hst (Off.refl _ _) ⟨rfl,fun s v hc=> ?_⟩ (fun s v hc=>by cases hc;exact hnc) ?_
   ·cases hc
    show tv ((v0::vs).toArray++_) 0=v0
    simp[tv,Array.getD_eq_getD_getElem?,Array.getElem?_append]
   intro ctl κ' W' σ' a' w' F' fp' h1 h2 h3 h4
   have key:Zku T (some (.box T0 ks)) rk fn.results.toList .ret κ' W' σ'=some (.tup [r,y])→a'.defers=[]∧∃v,(results fn a'.tmps).run P w'=.ok v w'∧ZrW w F l0 T0 ks rk v0 r y (.returned v) w':=by
    intro h4
    unfold Zku at h4
    dsimp only at h4
    split at h4
    case isFalse=>cases h4
    rename_i hvr
    obtain ⟨p,hp,h4⟩:=Option.bind_eq_some_iff.1 h4
    obtain ⟨κ1,r'⟩:=p
    dsimp only at h4
    split at h4
    case isFalse=>cases h4
    rename_i hwk
    simp only[Option.some.injEq,PV.tup.injEq,List.cons.injEq,and_true] at h4
    obtain ⟨rfl,rfl⟩:=h4
    obtain ⟨v,F1,fp1,l,g1,g2,g3,g4,g5⟩:=Zgs hT h1 hp
    have hl0:=g4.valRk hvr
    subst hl0
    obtain ⟨l1,q1,q2,q3⟩:=g1.sr 0
    obtain ⟨l2,p1,p2,p3⟩:=Zfq hwk q1 q3
    have e0:tv a'.tmps 0=v0:=h3.2 0 v0 rfl
    rw[e0] at p3
    refine ⟨h3.1,v,g2,v,F1,l2,rfl,⟨g1.os,g1.tape,g1.output,g1.size⟩,fun b hb hn=>g1.kept b hb hn,g1.stay.sub,fun b hb=>g1.fnew b hb,g1.fl,p1,p3,fun b hb=> ?_,g4⟩
    obtain ⟨k1,k2,k3⟩:=g1.pr 0 b (q2 b (p2 b hb))
    exact ⟨k3.symm,k1,k2⟩
   cases ctl with
   |normal=>exact key h4
   |exit id=>cases h4
   |ret=>exact key h4
 ·dsimp only at hps
  subst hps
  dsimp only at hr
  unfold Zk0 at hr
  cases hc:fn.body with
  |none=>exact absurd hc hb
  | some c=>
   rw[hc] at hr
   dsimp only at hr
   split at hr
   case isFalse=>cases hr
   rename_i hlp
   simp only[Zci,Zcj] at hr
   have hl:=hargs.lens
   refine calls_of_wp hf hc ?_
   have hst:=St.entryB (n:=fn.ntmps - (K0::rest).length) (ps:=K0::rest) (xs:=x0::xs) (vs:=v0::vs) (l0:=l0) hF (by simp[hl.1,hl.2]) (fun i hi=>by
    cases i with
    |zero=>simpa using hx0
    |succ i=>have:=hargs.at i (by simpa using hi);simpa using this) (fun h=>by cases h) hn0 hp0 hlp.2.1
   have hsz:(v0::vs).toArray.size=(K0::rest).length:=by simp;omega
   have hsz':fn.ntmps - (v0::vs).toArray.size=fn.ntmps - (K0::rest).length:=by rw[hsz]
   rw[hsz']
   have h0:ZmZ (K0::rest)=none:=by cases K0<;>first|rfl|cases hK0
   rw[h0] at hr
   refine Zgr (V:=none) hT hG hm c 1 _ [] _ _ (Zku T none rk fn.results.toList) r _ w F _ _ hr hst (Off.refl _ _) ⟨rfl,fun _ _ hc=>by cases hc⟩ (fun _ _ hc=>by cases hc) ?_
   intro ctl κ' W' σ' a' w' F' fp' h1 h2 h3 h4
   have key:Zku T none rk fn.results.toList .ret κ' W' σ'=some r→a'.defers=[]∧∃v,(results fn a'.tmps).run P w'=.ok v w'∧ZrX w F l0 rk r (.returned v) w':=by
    intro h4
    have fin:∀{κ1:List Kd} {F1:Nat→Prop} {fp1:Nat→List Nat} {lr:List Nat} {v:Value},St w F l0 κ1 σ' a'.tmps w' F1 fp1→lr.Nodup→SR w' F1 rk r v lr→(∀b∈lr,∃s,b∈fp1 s)→ZrX w F l0 rk r (.returned v) w':=fun g1 hn hr' hl=>
     ⟨_,_,_,rfl,⟨g1.os,g1.tape,g1.output,g1.size⟩,fun b hb hn=>g1.kept b hb hn,g1.stay.sub,fun b hb=>g1.fnew b hb,g1.fl,hn,hr',fun b hb=>by
      obtain ⟨s,hb⟩:=hl b hb
      obtain ⟨k1,k2,k3⟩:=g1.pr _ b hb
      exact ⟨k3.symm,k1,k2⟩⟩
    unfold Zku at h4
    dsimp only at h4
    split at h4
    ·obtain ⟨v,lr,g1,g2,g3,g4⟩:=Zis (P:=P) h1 h4
     exact ⟨h3.1,v,g1,fin h1 g2 g3 g4⟩
    ·obtain ⟨v,lr,g1,g2,g3,g4⟩:=Zjk hT h1 h4
     exact ⟨h3.1,v,g1,fin h1 g2 g3 g4⟩
    ·obtain ⟨v,κ1,F1,fp1,b,s,g1,g2,g3,g4⟩:=Zjm (P:=P) h1 h4
     have hp:=g1.pr s b g4
     refine ⟨h3.1,v,g2,v,_,[],rfl,⟨g1.os,g1.tape,g1.output,g1.size⟩,fun b hb hn=>g1.kept b hb hn,fun c hc=>.inl (g1.stay.sub c hc),fun c hc=> ?_,fun c hc=> ?_,List.nodup_nil,g3,by simp⟩
     ·rcases hc with hc|rfl
      ·exact g1.fnew c hc
      ·exact .inr hp.2.2
     ·rcases hc with hc|rfl
      ·exact g1.fl c hc
      ·exact hp.1
    ·obtain ⟨v,lr,g1,g2,g3,g4⟩:=Zjl hT h1 h4
     exact ⟨h3.1,v,g1,fin h1 g2 g3 g4⟩
    ·obtain ⟨p,hp,h4⟩:=Option.map_eq_some_iff.1 h4
     obtain ⟨κ1,r'⟩:=p
     dsimp only at h4
     subst h4
     obtain ⟨v,F1,fp1,lr,g1,g2,g3,g4,g5⟩:=Zgs hT h1 hp
     exact ⟨h3.1,v,g2,fin g1 g3 g4 g5⟩
   cases ctl with
   |normal=>exact key h4
   |exit id=>cases h4
   |ret=>exact key h4
def Zk (sc:Bool) (m:Option PV):Option PV:=match sc with|true=>m.bind fun r=>if r.sc=true then some r else none|false=>m
def CK.isOwn :CK→Bool
 |.own _ _ _=>true
 |_=>false
def ownIn :Kd→Bool
 |.ck c=>c.isOwn
 |.grp _ ks=>ks.any CK.isOwn
 |_=>false
def Zpw (rk:Kd) (m:Option PV):Option PV:=m.bind fun r=>if rk.scv r=true then some r else none
def scK (rk:Kd) (sc:Bool) (m:Option PV):Option PV:=match sc&&ownIn rk with|true=>Zpw rk m|false=>Zk sc m
theorem Zou {rk:Kd} {sc:Bool} {m:Option PV} {r:PV} (h:scK rk sc m=some r):m=some r:=by
 unfold scK at h
 split at h
 ·obtain ⟨r',hr',hr2⟩:=Option.bind_eq_some_iff.1 (show (m.bind fun r=>if rk.scv r=true then some r else none)=some r from h)
  split at hr2
  case isFalse=>cases hr2
  cases hr2;exact hr'
 ·cases sc
  ·exact h
  ·obtain ⟨r',hr',hr2⟩:=Option.bind_eq_some_iff.1 (show (m.bind fun r=>if r.sc=true then some r else none)=some r from h)
   split at hr2
   case isFalse=>cases hr2
   cases hr2;exact hr'
theorem scK_sc {rk:Kd} {m:Option PV} {r:PV} (hd:rk.dep=none) (h:scK rk true m=some r) {w:World} {F:Nat→Prop} {v:Value} {l:List Nat} (hs:SR w F rk r v l) (G:Nat→Prop):SR w G rk r v l:=by
 unfold scK at h
 split at h
 ·obtain ⟨r',hr',hr2⟩:=Option.bind_eq_some_iff.1 (show (m.bind fun r=>if rk.scv r=true then some r else none)=some r from h)
  split at hr2
  case isFalse=>cases hr2
  rename_i hc
  cases hr2;exact hs.scv hc G
 ·obtain ⟨r',hr',hr2⟩:=Option.bind_eq_some_iff.1 (show (m.bind fun r=>if r.sc=true then some r else none)=some r from h)
  split at hr2
  case isFalse=>cases hr2
  rename_i hc
  cases hr2;exact hs.sc_any hc hd G
theorem fn_okS {H:Zip} {sc:Bool} (hT:TabOk P T) (hG:∀e∈G,FnOk P e) (hm:P.follows .mixedOrders=true) {f:FuncId} {fn:Func} (hf:P.funcs[f]?=some fn) (hname:(fn.name== "runtime.NumGoroutine")=false) (hb:fn.body.isSome=true) (ps:List Kd) (rk:Kd) (hrk:rk.dep=none∧rk≠.ck .none):
 FnOk P ⟨f,ps,rk,sc,fun xs=>scK rk sc (Zk0 T G H fn ps rk xs)⟩:=by
 have h:=fn_ok (H:=H) hT hG hm hf hname (fun e=>by rw[e] at hb;cases hb) ps rk hrk
 refine ⟨h.body,h.dep,fun w F xs vs r hF hargs hr=> ?_,fun _ _ _ _ hc=>absurd hc hrk.2,fun T0 ks rest hps w F x0 v0 l0 xs vs r y hF hn0 hp0 hx0 hargs hr=>h.ipb T0 ks rest hps w F x0 v0 l0 xs vs r y hF hn0 hp0 hx0 hargs (Zou hr),fun K0 rest hK0 hps hr0 w F x0 v0 l0 xs vs r hF hn0 hp0 hx0 hargs hr=>h.mvc K0 rest hK0 hps hr0 w F x0 v0 l0 xs vs r hF hn0 hp0 hx0 hargs (Zou hr),fun hc=>absurd hc hrk.2⟩
 refine (h.call w F xs vs r hF hargs (Zou hr)).mono fun en w' hp=> ?_
 obtain ⟨v,F',l,h1,h2,h3,h4,h5,_⟩:=hp
 refine ⟨v,F',l,h1,h2,h3,h4,h5,fun hs G=> ?_⟩
 have hs:sc=true:=hs
 subst hs
 exact scK_sc hrk.1 hr h4 G
def mvT (T:Tab) (l:List TypeId):Tab:=T++T.filter fun p=>l.contains p.1
theorem Zrr (h:TabOk P T) (l:List TypeId):TabOk P (mvT T l):=by
 refine ⟨fun t i hl=>h.row t i ?_,h.arr⟩
 unfold mvT at hl
 have key:∀(A B:Tab),(∀p∈B,∃q∈A,q.1=p.1)→(A++B).lookup t=some i→A.lookup t=some i:=by
  intro A B hB hl
  have e:∀A:Tab,(A++B).lookup t=match A.lookup t with|some x=>some x|none=>B.lookup t:=by
   intro A
   induction A with
   |nil=>rfl
   | cons p r ih=>
    simp only[List.cons_append,List.lookup]
    split
    ·rfl
    ·exact ih
  rw[e] at hl
  cases hA:A.lookup t with
  |some x=>rw[hA] at hl;exact hl
  | none=>
   rw[hA] at hl
   exfalso
   have hmem:∃p∈B,p.1=t:=by
    clear e hB
    induction B with
    |nil=>cases hl
    | cons p r ih=>
     simp only[List.lookup] at hl
     split at hl
     ·rename_i he;exact ⟨p,List.mem_cons_self,(eq_of_beq he).symm⟩
     ·obtain ⟨q,hq,he⟩:=ih hl;exact ⟨q,List.mem_cons_of_mem _ hq,he⟩
   obtain ⟨p,hp,hpt⟩:=hmem
   obtain ⟨q,hq,hqp⟩:=hB p hp
   have:∀A:Tab,q∈A→A.lookup t≠none:=by
    intro A
    induction A with
    |nil=>intro h;cases h
    | cons p' r ih=>
     intro hm hn
     simp only[List.lookup] at hn
     split at hn
     ·cases hn
     ·rename_i hne
      rcases List.mem_cons.1 hm with rfl|hm
      ·rw[hqp,hpt] at hne;simp at hne
      ·exact ih hm hn
   exact this A hq hA
 exact key T _ (fun p hp=>⟨p,(List.mem_filter.1 hp).1,rfl⟩) hl
abbrev kv :Kd:=.ck .val
abbrev ko :Kd:=.ck .none
noncomputable def mkE (T:Tab) (sc:Bool) (f:FuncId) (fn:Func) (ps:List Kd) (rk:Kd) (G:List Ent) (H:Zip):Ent:=⟨f,ps,rk,sc,fun xs=>scK rk sc (Zk0 T G H fn ps rk xs)⟩
theorem gn :∀e∈([]:List Ent),FnOk P e:=by intro e he;cases he
theorem gc {e:Ent} {l:List Ent} (h:FnOk P e) (t:∀e∈l,FnOk P e):∀e'∈e::l,FnOk P e':=by
 intro e' he
 rcases List.mem_cons.1 he with rfl|he
 ·exact h
 ·exact t e' he
theorem Zx {T:Tab} {sc:Bool} {f:FuncId} {fn:Func} {ps:List Kd} {rk:Kd} {G:List Ent} {H:Zip} (hT:TabOk P T) (hm:P.follows .mixedOrders=true) (hG:∀e∈G,FnOk P e) (hf:P.funcs[f]?=some fn)
 (hb:(!(fn.name== "runtime.NumGoroutine")&&fn.body.isSome)=true) (hrk:rk.dep=none∧rk≠.ck .none):FnOk P (mkE T sc f fn ps rk G H):=by
 rw[Bool.and_eq_true,Bool.not_eq_true'] at hb
 exact fn_okS hT hG hm hf hb.1 hb.2 ps rk hrk
inductive VRl (w:World) (F:Nat→Prop):List PV→List Value→Prop
 |nil:VRl w F [] []
 |cons {x:PV} {v:Value} {xs:List PV} {vs:List Value} (h:VR w F x v) (t:VRl w F xs vs):VRl w F (x::xs) (v::vs)
theorem ZlL {w:World} {F:Nat→Prop}:∀{n:Nat} {xs:List PV} {vs:List Value},ArgsR w F (List.replicate n (.ck .val)) xs vs→VRl w F xs vs
 |0,_,_,h=>by cases h;exact .nil
 | n+1,_,_,h=>by
  cases h with
  |cons h _ t=>exact .cons h.1 (ZlL t)
end
theorem Zei {α:Type} [DecidableEq α] (a b:α):(a==b)=decide (a=b):=by rw[Bool.eq_iff_iff];simp
abbrev pI (n:Int):PV:=.int .i64 n
abbrev pB (b:Bool):PV:=.bool b
abbrev pU (b:UInt8):PV:=.int .u8 (b.toNat:Int)
theorem Zet {R α:Type} (enc:α→List PV) (m:α→Nat) (g:α→Option R) (f:(List PV→Option R)→List PV→Option R)
 (h:∀again a,(∀a',m a'<m a→again (enc a')=g a')→f again (enc a)=g a):∀(n:Nat) (a:α),m a<n→Z0 f n (enc a)=g a:=by
 intro n
 induction n with
 |zero=>intro a ha;omega
 | succ n ih=>
  intro a ha
  rw[Zjc]
  show f (ZhO f n) (enc a)=g a
  refine h _ a fun a' ha'=> ?_
  have:=ih a' (by omega)
  rw[Zjc] at this
  exact this
theorem Ziu (m:Option PV):Zk true m=m.bind fun r=>if r.sc=true then some r else none:=(Eq.refl _).trans (Eq.refl _)
theorem Zdh (m:Option PV):Zk false m=m:=(Eq.refl _).trans (Eq.refl _)
theorem nth_0 (x:PV) (l:List PV):nth (x::l) 0=x:=(Eq.refl _).trans (Eq.refl _)
theorem nth_s (x:PV) (l:List PV) (n:Nat):nth (x::l) (n+1)=nth l n:=(Eq.refl _).trans (Eq.refl _)
theorem Zm1 (sl:Option Nat) (k:Kd) (l:List PV) (y:PV):Zh ⟨.ck .val,k,sl⟩ ⟨.lst l,y⟩=some l:=(Eq.refl _).trans (Eq.refl _)
theorem ZbT {n:Int} (h: -9223372036854775808≤n) (h':n≤9223372036854775807):IntKind.i64.wrap n=n:=by rw[IntKind.wrap_i64];omega
theorem ZeN {l:List PV} {k:IntKind} {i:Nat} {x:PV} (h:l[i]?=some x):Zz (.lst l) (.int k i)=some x:=by simp[Zz,h]
theorem Z9 {s:List UInt8} {k:IntKind} {i:Nat} {b:UInt8} (h:s[i]?=some b):Zbi (.str s) (.int k i)=some (pU b):=by simp[Zbi,h]
theorem b_add (td:TD) (k:IntKind) (a b:Int):Ze .add td (.int k a) (.int k b)=some (.int k (k.wrap (a+b))):=by simp[Ze,Zcg,Zfu]
theorem b_sub (td:TD) (k:IntKind) (a b:Int):Ze .sub td (.int k a) (.int k b)=some (.int k (k.wrap (a - b))):=by simp[Ze,Zcg,Zfu]
theorem b_mul (td:TD) (k:IntKind) (a b:Int):Ze .mul td (.int k a) (.int k b)=some (.int k (k.wrap (a * b))):=by simp[Ze,Zcg,Zfu]
theorem b_eql (td:TD) (k:IntKind) (a b:Int):Ze .eql td (.int k a) (.int k b)=some (.bool (decide (a=b))):=by simp[Ze,Zcg,Zfu,Zei]
theorem b_neq (td:TD) (k:IntKind) (a b:Int):Ze .neq td (.int k a) (.int k b)=some (.bool (!decide (a=b))):=by simp[Ze,Zcg,Zfu,bne,Zei]
theorem b_lss (td:TD) (k:IntKind) (a b:Int):Ze .lss td (.int k a) (.int k b)=some (.bool (decide (a<b))):=by simp[Ze,Zcg,Zfu]
theorem b_leq (td:TD) (k:IntKind) (a b:Int):Ze .leq td (.int k a) (.int k b)=some (.bool (decide (a≤b))):=by simp[Ze,Zcg,Zfu]
theorem b_gtr (td:TD) (k:IntKind) (a b:Int):Ze .gtr td (.int k a) (.int k b)=some (.bool (decide (b<a))):=by simp[Ze,Zcg,Zfu]
theorem b_geq (td:TD) (k:IntKind) (a b:Int):Ze .geq td (.int k a) (.int k b)=some (.bool (decide (b≤a))):=by simp[Ze,Zcg,Zfu]
theorem Zrs (td:TD) (a b:List UInt8):Ze .eql td (.str a) (.str b)=some (.bool (decide (a=b))):=by
 have h:(a==b)=decide (a=b):=by rw[Bool.eq_iff_iff];simp
 show some (PV.bool (a==b))=_
 rw[h]
theorem Zrt (td:TD) (a b:List UInt8):Ze .neq td (.str a) (.str b)=some (.bool (!decide (a=b))):=by
 have h:(a==b)=decide (a=b):=by rw[Bool.eq_iff_iff];simp
 show some (PV.bool (!(a==b)))=_
 rw[h]
theorem Zru (td:TD) (a b:List UInt8):Ze .lss td (.str a) (.str b)=some (.bool (Op.bytesLess a b)):=(Eq.refl _).trans (Eq.refl _)
theorem Zrv (a b:Bool):Ze .eql .bool (.bool a) (.bool b)=some (.bool (a==b)):=(Eq.refl _).trans (Eq.refl _)
theorem Zrw (a b:Bool):Ze .neq .bool (.bool a) (.bool b)=some (.bool (!(a==b))):=(Eq.refl _).trans (Eq.refl _)
theorem u_not (b:Bool):unV .not (.bool b)=some (.bool (!b)):=(Eq.refl _).trans (Eq.refl _)
theorem asB_b (b:Bool):asB (.bool b)=some b:=(Eq.refl _).trans (Eq.refl _)
theorem gd_tt (m:Option PV):gdV (.bool true) true m=m:=(Eq.refl _).trans (Eq.refl _)
theorem gd_ff (m:Option PV):gdV (.bool false) false m=m:=(Eq.refl _).trans (Eq.refl _)
theorem gd_tf (m:Option PV):gdV (.bool true) false m=some .undef:=(Eq.refl _).trans (Eq.refl _)
theorem gd_ft (m:Option PV):gdV (.bool false) true m=some .undef:=(Eq.refl _).trans (Eq.refl _)
theorem gd_u (b:Bool) (m:Option PV):gdV .undef b m=some .undef:=(Eq.refl _).trans (Eq.refl _)
theorem Zpx (b:Bool):(PV.bool b).sc=true:=(Eq.refl _).trans (Eq.refl _)
theorem Zrx (k:IntKind) (n:Int):(PV.int k n).sc=true:=(Eq.refl _).trans (Eq.refl _)
theorem Zry (s:List UInt8):(PV.str s).sc=true:=(Eq.refl _).trans (Eq.refl _)
theorem Zrz (l:List PV):(PV.tup l).sc=l.all PV.sc1:=(Eq.refl _).trans (Eq.refl _)
theorem Zm2 (b:Bool):(PV.bool b).sc1=true:=(Eq.refl _).trans (Eq.refl _)
theorem Zpy (k:IntKind) (n:Int):(PV.int k n).sc1=true:=(Eq.refl _).trans (Eq.refl _)
theorem Zpz (s:List UInt8):(PV.str s).sc1=true:=(Eq.refl _).trans (Eq.refl _)
theorem Zm3 (s:List UInt8):ZX (.str s)=some (.int .i64 (s.length:Int)):=(Eq.refl _).trans (Eq.refl _)
theorem obs {α β:Type} (a:α) (f:α→Option β):(some a).bind f=f a:=(Eq.refl _).trans (Eq.refl _)
theorem oms {α β:Type} (a:α) (f:α→β):(some a).map f=some (f a):=(Eq.refl _).trans (Eq.refl _)
def rgo {R α:Type} (step:Nat→α→Option (Option R)) (e:Option R):Nat→List α→Option R
 |_,[]=>e
 |k,x::r=>match step k x with|some z=>z|none=>rgo step e (k+1) r
theorem Zov {R α:Type} (l:List α) (step:Nat→α→Option (Option R)) (e:Option R) (f:(List PV→Option R)→List PV→Option R) (hl:l.length≤9223372036854775807)
 (h1:∀again k x,l[k]?=some x→f again [pI (Int.ofNat k)]=match step k x with|some z=>z|none=>again [pI (Int.ofNat (k+1))])
 (h2:∀again,f again [pI (Int.ofNat l.length)]=e):Z0 f 18446744073709551616 [pI (Int.ofNat 0)]=rgo step e 0 l:=by
 have key:=Zet (R:=R) (fun k:{k:Nat // k≤l.length}=>[pI (Int.ofNat k.1)]) (fun k=>l.length+1 - k.1) (fun k=>rgo step e k.1 (l.drop k.1)) f (fun again k ih=> ?_) 18446744073709551616 ⟨0,Nat.zero_le _⟩ (by simp only;omega)
 ·exact key
 ·obtain ⟨k,hkl⟩:=k
  dsimp only at ih⊢
  by_cases hk:k<l.length
  ·have hx:l[k]?=some l[k]:=List.getElem?_eq_getElem hk
   rw[h1 again k _ hx,List.drop_eq_getElem_cons hk]
   unfold rgo
   cases step k l[k] with
   |some z=>rfl
   | none=>
    show again _=rgo step e (k+1) (l.drop (k+1))
    exact ih ⟨k+1,hk⟩ (by simp only;omega)
  ·obtain rfl:k=l.length:=by omega
   rw[h2,List.drop_length]
   rfl
def Zar {α:Type} (good:Nat→α→Bool):Nat→List α→Bool
 |_,[]=>true
 |k,x::r=>good k x&&Zar good (k+1) r
theorem ZpA {R α:Type} (good:Nat→α→Bool) (z e:Option R):∀(l:List α) (k:Nat),rgo (fun k x=>if good k x=true then none else some z) e k l=if Zar good k l=true then e else z
 |[],k=>by simp[rgo,Zar]
 | x::r,k=>by
  unfold rgo Zar
  cases good k x
  ·simp
  ·simp[ZpA good z e r (k+1)]
theorem ZbF {R α:Type} (l:List α) (good:Nat→α→Bool) (z e:Option R) (f:(List PV→Option R)→List PV→Option R) (hl:l.length≤9223372036854775807)
 (h1:∀again k x,l[k]?=some x→f again [pI (Int.ofNat k)]=if good k x=true then again [pI (Int.ofNat (k+1))] else z)
 (h2:∀again,f again [pI (Int.ofNat l.length)]=e):Z0 f 18446744073709551616 [pI (Int.ofNat 0)]=if Zar good 0 l=true then e else z:=by
 rw[Zov l (fun k x=>if good k x=true then none else some z) e f hl (fun again k x hx=> ?_) h2,ZpA]
 rw[h1 again k x hx]
 cases good k x<;>simp
theorem ZpB (s:List UInt8):Zd 1 (.str s)=some [.str s]:=(Eq.refl _).trans (Eq.refl _)
theorem ZpC (k:IntKind) (n:Int):Zd 1 (.int k n)=some [.int k n]:=(Eq.refl _).trans (Eq.refl _)
theorem Zm4 (b:Bool):Zd 1 (.bool b)=some [.bool b]:=(Eq.refl _).trans (Eq.refl _)
theorem ZpD (l:List PV):Zd 1 (.lst l)=some [.lst l]:=(Eq.refl _).trans (Eq.refl _)
theorem cw2 (a b:PV):Zd 2 (.agg [a,b])=some [a,b]:=(Eq.refl _).trans (Eq.refl _)
theorem cw3 (a b c:PV):Zd 3 (.agg [a,b,c])=some [a,b,c]:=(Eq.refl _).trans (Eq.refl _)
theorem cw4 (a b c d:PV):Zd 4 (.agg [a,b,c,d])=some [a,b,c,d]:=(Eq.refl _).trans (Eq.refl _)
theorem cw5 (a b c d e:PV):Zd 5 (.agg [a,b,c,d,e])=some [a,b,c,d,e]:=(Eq.refl _).trans (Eq.refl _)
theorem Zk1 (l:List PV):PV.cells (.agg l)=l:=(Eq.refl _).trans (Eq.refl _)
theorem ZrA {R:Type} (l:List PV) (x:Option R):Za [.agg l] x=x:=(Eq.refl _).trans (Eq.refl _)
theorem ZpE {R:Type} (b:Bool) (x:Option R):Za [.bool b] x=x:=(Eq.refl _).trans (Eq.refl _)
theorem ZrB {R:Type} (k:IntKind) (n:Int) (x:Option R):Za [.int k n] x=x:=(Eq.refl _).trans (Eq.refl _)
theorem pv_f0 (n:Nat) (a:PV) (l:List PV):Zb false 0 n (a::l)=some a:=(Eq.refl _).trans (Eq.refl _)
theorem pv_f1 (n:Nat) (a b:PV) (l:List PV):Zb false 1 n (a::b::l)=some b:=(Eq.refl _).trans (Eq.refl _)
theorem pv_f2 (n:Nat) (a b c:PV) (l:List PV):Zb false 2 n (a::b::c::l)=some c:=(Eq.refl _).trans (Eq.refl _)
theorem pv_f3 (n:Nat) (a b c d:PV) (l:List PV):Zb false 3 n (a::b::c::d::l)=some d:=(Eq.refl _).trans (Eq.refl _)
theorem pv_f4 (n:Nat) (a b c d e:PV) (l:List PV):Zb false 4 n (a::b::c::d::e::l)=some e:=(Eq.refl _).trans (Eq.refl _)
theorem ZrC (a b:PV):Zb true 0 2 [a,b]=some (.agg [a,b]):=(Eq.refl _).trans (Eq.refl _)
theorem pv_t3 (a b c:PV):Zb true 0 3 [a,b,c]=some (.agg [a,b,c]):=(Eq.refl _).trans (Eq.refl _)
theorem ZrD (a b c d:PV):Zb true 0 4 [a,b,c,d]=some (.agg [a,b,c,d]):=(Eq.refl _).trans (Eq.refl _)
theorem ZrE (T:TypeId) (ks:List CK) (k:Kd) (s:Option Nat) (v p:PV):ZcQ (SV.mk (.box T ks) k s) (DV.mk v p)=v.cells:=(Eq.refl _).trans (Eq.refl _)
theorem ZrF (q o:Nat) (k:Kd) (s:Option Nat) (v p:PV):ZcQ (SV.mk (.bxf q o) k s) (DV.mk v p)=p.cells:=(Eq.refl _).trans (Eq.refl _)
theorem sp2 (l a b:PV) (m:PV):splice [l,m] 0 [a,b]=[a,b]:=(Eq.refl _).trans (Eq.refl _)
theorem sp4 (a b c d a' b' c' d':PV):splice [a,b,c,d] 0 [a',b',c',d']=[a',b',c',d']:=(Eq.refl _).trans (Eq.refl _)
theorem zm (z:ZC) (l:List ZC):List.map (fun a=>ZC.pv a) (z::l)=z.pv::List.map (fun a=>ZC.pv a) l:=(Eq.refl _).trans (Eq.refl _)
theorem zn :List.map (fun a=>ZC.pv a) []=[]:=(Eq.refl _).trans (Eq.refl _)
theorem ZI {α:Type} {enc:α→PV} {l:List α} {k:IntKind} {i:Nat} {x:α} (h:l[i]?=some x):Zz (.lst (l.map enc)) (.int k (Int.ofNat i))=some (enc x):=ZeN (by rw[List.getElem?_map,h];rfl)
theorem ZiW {α:Type} {enc:α→PV} {n:Nat} {l:List α} {k:IntKind} {i:Nat} (hw:∀x,Zag n (enc x)=true) (h:i≤l.length):Zdc n (.lst (l.map enc)) none (some (.int k (Int.ofNat i)))=some (.lst ((l.take i).map enc)):=by
 have h2:(l.map enc).all (Zag n)=true:=by simp[hw]
 have h3:(0:Int)≤Int.ofNat i∧(Int.ofNat i:Int)≤((l.map enc).length:Int):=by constructor<;>simp<;>omega
 simp only[Zdc,ZfE,Zh8,if_pos h3,Option.bind_some,if_pos h2]
 simp[List.map_take]
theorem ZrG (a:Bool) (e:TypeId) (s:Nat) (k:Kd) (sl:Option Nat) (l:List PV) (y:PV):Zh ⟨.ck (.own a e s),k,sl⟩ ⟨.lst l,y⟩=some l:=(Eq.refl _).trans (Eq.refl _)
theorem ZrH (k:Kd) (sl:Option Nat) (l:List PV) (y:PV):Zh ⟨.ck .nil,k,sl⟩ ⟨.lst l,y⟩=some l:=(Eq.refl _).trans (Eq.refl _)
theorem ZrI (q:Nat) (a:Bool) (e:TypeId) (s:Nat) (sl:Option Nat) (l:List PV) (y:PV):Zh ⟨.ali (.slot q),.ck (.own a e s),sl⟩ ⟨y,.lst l⟩=some l:=(Eq.refl _).trans (Eq.refl _)
def isOwn :CK→Bool
 |.own _ _ _=>true
 |_=>false
theorem ZpF (l:List PV):Zhd (.lst l)=some l:=(Eq.refl _).trans (Eq.refl _)
theorem ZpG (q off:Nat) (T:TypeId) (ks:List CK) (sl:Option Nat) (xs:List PV) (y:PV) (h:isOwn ((ks[off]?).getD .none)=true):Zh ⟨.ali (.cell q off),.box T ks,sl⟩ ⟨y,.agg xs⟩=(xs[off]?).bind Zhd:=by
 have hc:(Kd.box T ks).cell off=(ks[off]?).getD .none:=rfl
 show (match (Kd.box T ks).cell off with|.own _ _ _=>(PV.cells (.agg xs))[off]?.bind fun y=>(match y with|.lst l=>some l|_=>none)|_=>none)=_
 rw[hc]
 revert h
 cases (ks[off]?).getD .none with
 | own a e s=>
  intro _
  show (xs[off]?.bind fun y=>match y with|.lst l=>some l|_=>none)=_
  cases xs[off]? with
  |none=>rfl
  |some y=>cases y<;>rfl
 |_=>intro h;cases h
theorem ZpH (q sz o:Nat) (a:Bool) (e:TypeId) (s:Nat) (sl:Option Nat) (v:PV) (l:List PV):Zbw ⟨.elm (.slot q) sz o,.ck (.own a e s),sl⟩ ⟨v,.lst l⟩=some l:=(Eq.refl _).trans (Eq.refl _)
theorem ZpI (q off sz o:Nat) (T:TypeId) (ks:List CK) (sl:Option Nat) (v:PV) (xs:List PV) (h:isOwn ((ks[off]?).getD .none)=true):Zbw ⟨.elm (.cell q off) sz o,.box T ks,sl⟩ ⟨v,.agg xs⟩=(xs[off]?).bind Zhd:=by
 have hc:(Kd.box T ks).cell off=(ks[off]?).getD .none:=rfl
 show (match (Kd.box T ks).cell off with|.own _ _ _=>(PV.cells (.agg xs))[off]?.bind fun y=>(match y with|.lst l=>some l|_=>none)|_=>none)=_
 rw[hc]
 revert h
 cases (ks[off]?).getD .none with
 | own a e s=>
  intro _
  show (xs[off]?.bind fun y=>match y with|.lst l=>some l|_=>none)=_
  cases xs[off]? with
  |none=>rfl
  |some y=>cases y<;>rfl
 |_=>intro h;cases h
theorem ZrJ (a:SV) (k:IntKind) (i:Int) (y:PV):Zhj a ⟨.int k i,y⟩=(Zbw a ⟨.int k i,y⟩).bind fun l=>l[i.toNat]?:=(Eq.refl _).trans (Eq.refl _)
theorem ZrK (a x:SV) (f:List PV→PV→PV→Option PV) (k:IntKind) (i:Int) (y:PV) (dx:DV):ZgC a x f ⟨.int k i,y⟩ dx=(Zbw a ⟨.int k i,y⟩).bind fun l=>(l[i.toNat]?).bind fun el=>(f el.cells el dx.v).map fun el'=>.lst (l.set i.toNat el'):=(Eq.refl _).trans (Eq.refl _)
theorem dv_v (v p:PV):DV.v ⟨v,p⟩=v:=(Eq.refl _).trans (Eq.refl _)
theorem dv_p (v p:PV):DV.pv ⟨v,p⟩=p:=(Eq.refl _).trans (Eq.refl _)
theorem ZpJ (n:Nat):Int.toNat (n:Int)=n:=Int.toNat_natCast n
theorem ZlM {l:List PV} {k:Nat} (h:k<l.length):Zfw l (.int .i64 (k:Int))=some (.int .i64 (k:Int)):=by
 unfold Zfw
 simp only
 rw[if_pos (by omega)]
 simp
def PV.w (n:Nat) (x:PV):Prop:=match x with|.agg l=>l.length=n|.undef|.tup _=>False|_=>n=1
theorem ift {α:Type} {h:Decidable True} (a b:α):(@ite α True h a b)=a:=@if_true _ h a b
theorem iff' {α:Type} {h:Decidable False} (a b:α):(@ite α False h a b)=b:=@if_false _ h a b
theorem lmap {α β:Type} (f:α→β) (l:List α):(l.map f).length=l.length:=List.length_map f
theorem sp_n {α:Type} (off:Nat) (s:List α):splice [] off s=s:=by simp[splice]
theorem sp_0n {α:Type} (l:List α):splice l 0 []=l:=by simp[splice]
theorem sp_0 {α:Type} (a x:α) (l s:List α):splice (a::l) 0 (x::s)=x::splice l 0 s:=by simp[splice]
theorem sp_s {α:Type} (a:α) (l s:List α) (n:Nat):splice (a::l) (n+1) s=a::splice l n s:=by
 unfold splice
 rw[show n+1+s.length=(n+s.length)+1 by omega]
 simp
theorem ls_0 {α:Type} (a x:α) (l:List α):(a::l).set 0 x=x::l:=(Eq.refl _).trans (Eq.refl _)
theorem ls_s {α:Type} (a x:α) (l:List α) (n:Nat):(a::l).set (n+1) x=a::l.set n x:=(Eq.refl _).trans (Eq.refl _)
theorem lg_0 {α:Type} (a:α) (l:List α):(a::l)[0]?=some a:=(Eq.refl _).trans (Eq.refl _)
theorem lg_s {α:Type} (a:α) (l:List α) (n:Nat):(a::l)[n+1]?=l[n]?:=(Eq.refl _).trans (Eq.refl _)
theorem ogs {α:Type} (a d:α):(some a).getD d=a:=(Eq.refl _).trans (Eq.refl _)
theorem ZrL (a:Bool) (e:TypeId) (s:Nat):isOwn (.own a e s)=true:=(Eq.refl _).trans (Eq.refl _)
theorem ZrM (p:Place) (k:Kd) (sl:Option Nat) (y:PV) (l:List PV):Zdb ⟨.ali p,k,sl⟩ ⟨y,.tup l⟩=l:=(Eq.refl _).trans (Eq.refl _)
theorem ZpK (p:Place) (k:Kd) (sl:Option Nat) (y:PV) (l:List PV):Zdb ⟨.ali p,k,sl⟩ ⟨y,.agg l⟩=l:=(Eq.refl _).trans (Eq.refl _)
theorem ZrN (t:Bool) (ks:List CK) (k:Kd) (sl:Option Nat) (y:PV) (l:List PV):Zdb ⟨.grp t ks,k,sl⟩ ⟨.tup l,y⟩=l:=(Eq.refl _).trans (Eq.refl _)
theorem ZpL (t:Bool) (ks:List CK) (k:Kd) (sl:Option Nat) (y:PV) (l:List PV):Zdb ⟨.grp t ks,k,sl⟩ ⟨.agg l,y⟩=l:=(Eq.refl _).trans (Eq.refl _)
theorem pv_t1 (a:PV):Zb true 0 1 [a]=some (.agg [a]):=(Eq.refl _).trans (Eq.refl _)
theorem pv_t5 (a b c d e:PV):Zb true 0 5 [a,b,c,d,e]=some (.agg [a,b,c,d,e]):=(Eq.refl _).trans (Eq.refl _)
theorem pv_t6 (a b c d e f:PV):Zb true 0 6 [a,b,c,d,e,f]=some (.agg [a,b,c,d,e,f]):=(Eq.refl _).trans (Eq.refl _)
theorem pv_t7 (a b c d e f g:PV):Zb true 0 7 [a,b,c,d,e,f,g]=some (.agg [a,b,c,d,e,f,g]):=(Eq.refl _).trans (Eq.refl _)
theorem pv_f5 (n:Nat) (a b c d e f:PV) (l:List PV):Zb false 5 n (a::b::c::d::e::f::l)=some f:=(Eq.refl _).trans (Eq.refl _)
theorem pv_f6 (n:Nat) (a b c d e f g:PV) (l:List PV):Zb false 6 n (a::b::c::d::e::f::g::l)=some g:=(Eq.refl _).trans (Eq.refl _)
theorem cw6 (a b c d e f:PV):Zd 6 (.agg [a,b,c,d,e,f])=some [a,b,c,d,e,f]:=(Eq.refl _).trans (Eq.refl _)
theorem cw7 (a b c d e f g:PV):Zd 7 (.agg [a,b,c,d,e,f,g])=some [a,b,c,d,e,f,g]:=(Eq.refl _).trans (Eq.refl _)
theorem c_str (s:List UInt8):PV.cells (.str s)=[.str s]:=(Eq.refl _).trans (Eq.refl _)
theorem c_int (k:IntKind) (n:Int):PV.cells (.int k n)=[.int k n]:=(Eq.refl _).trans (Eq.refl _)
theorem ZrO (b:Bool):PV.cells (.bool b)=[.bool b]:=(Eq.refl _).trans (Eq.refl _)
theorem c_lst (l:List PV):PV.cells (.lst l)=[.lst l]:=(Eq.refl _).trans (Eq.refl _)
theorem ZrP {R:Type} (s:List UInt8) (x:Option R):Za [.str s] x=x:=(Eq.refl _).trans (Eq.refl _)
theorem ZrQ {R:Type} (l:List PV) (x:Option R):Za [.lst l] x=x:=(Eq.refl _).trans (Eq.refl _)
theorem Zjn {R:Type} (l:List PV) (x:Option R):Za [.tup l] x=x:=(Eq.refl _).trans (Eq.refl _)
theorem ZrR :ZC.pv .str=.str []:=(Eq.refl _).trans (Eq.refl _)
theorem ZrS (k:IntKind):ZC.pv (.int k)=.int k 0:=(Eq.refl _).trans (Eq.refl _)
theorem ZpM :ZC.pv .bool=.bool false:=(Eq.refl _).trans (Eq.refl _)
theorem ZrT :ZC.pv .nil=.lst []:=(Eq.refl _).trans (Eq.refl _)
theorem ZbG {td:TD} {a b:List UInt8} (h:a.length+b.length≤9223372036854775807):Ze .add td (.str a) (.str b)=some (.str (a++b)):=by
 show Zp3 .add a b=_
 unfold Zp3
 simp only
 rw[if_pos h]
theorem Zdq {s:List UInt8} {k:IntKind} {i:Nat} (h:i≤s.length):Zc5 (.str s) none (some (.int k (i:Int)))=some (.str (s.take i)):=by
 have h1:(0:Int)≤(i:Int)∧(i:Int)≤(s.length:Int):=by omega
 simp[Zc5,ZfE,Zh8,h1]
theorem ZhQ {s:List UInt8} {k:IntKind} {i:Nat} (h:i≤s.length):Zc5 (.str s) (some (.int k (i:Int))) none=some (.str (s.drop i)):=by
 have h1:(0:Int)≤(i:Int)∧(i:Int)≤(s.length:Int):=by omega
 simp[Zc5,ZfE,Zh8,h]
theorem ZrU (b:UInt8):Zh9 (pU b)=some b:=by
 have h:=b.toNat_lt
 have h1:(0:Int)≤(b.toNat:Int)∧(b.toNat:Int)<256:=by omega
 simp only[Zh9,if_pos h1]
 simp
theorem Ziv :∀l:List UInt8,Zd1 (l.map pU)=some l
 |[]=>rfl
 | b::r=>by
  show ((Zh9 (pU b)).bind fun x=>(Zd1 (r.map pU)).bind fun l=>some (x::l))=_
  rw[ZrU,Ziv r]
  rfl
theorem Zk2 (b:UInt8):Zd1 [.int .u8 (b.toNat:Int)]=some [b]:=Ziv [b]
theorem ZpN {R:Type} (body:(List PV→Option R)→Option R) (k:List PV→Option R):Zbz body k=body k:=Zer body k
def Zcr {R α β:Type} (step:β→Nat→α→Sum β (Option R)) (e:β→Option R):Nat→β→List α→Option R
 |_,b,[]=>e b
 |k,b,x::r=>match step b k x with|.inl b'=>Zcr step e (k+1) b' r|.inr z=>z
theorem Zdw {R α β:Type} (l:List α) (J:β→Nat→List PV) (Inv:Nat→β→Prop) (step:β→Nat→α→Sum β (Option R)) (e:β→Option R) (f:(List PV→Option R)→List PV→Option R) (hl:l.length≤9223372036854775807)
 (hs:∀b k x b',Inv k b→l[k]?=some x→step b k x=.inl b'→Inv (k+1) b')
 (h1:∀again b k x,Inv k b→l[k]?=some x→f again (J b k)=match step b k x with|.inl b'=>again (J b' (k+1))|.inr z=>z)
 (h2:∀again b,Inv l.length b→f again (J b l.length)=e b) {b:β} (hb:Inv 0 b):Z0 f 18446744073709551616 (J b 0)=Zcr step e 0 b l:=by
 have key:=Zet (R:=R) (fun q:{q:β×Nat // Inv q.2 q.1∧q.2≤l.length}=>J q.1.1 q.1.2) (fun q=>l.length+1 - q.1.2) (fun q=>Zcr step e q.1.2 q.1.1 (l.drop q.1.2)) f (fun again q ih=> ?_) 18446744073709551616 ⟨(b,0),hb,Nat.zero_le _⟩ (by simp only;omega)
 ·exact key
 ·obtain ⟨⟨b,k⟩,hi,hk⟩:=q
  dsimp only at ih hi hk⊢
  by_cases hlt:k<l.length
  ·have hx:l[k]?=some l[k]:=List.getElem?_eq_getElem hlt
   rw[h1 again b k _ hi hx,List.drop_eq_getElem_cons hlt]
   unfold Zcr
   cases hst:step b k l[k] with
   |inl b'=>exact ih ⟨(b',k+1),hs _ _ _ _ hi hx hst,hlt⟩ (by simp only;omega)
   |inr z=>rfl
  ·obtain rfl:k=l.length:=by omega
   rw[h2 again b hi,List.drop_length]
   rfl
def Zkv (m:Option PV) (l:Int) (S:Prop):Prop:=∃r:Int,m=some (pI r)∧r≤l∧(0≤r→S)
theorem Zkv.neg {l:Int} {S:Prop} (h:0≤l):Zkv (some (pI (Int.negSucc 0))) l S:=⟨Int.negSucc 0,rfl,by omega,fun h=>absurd h (by decide)⟩
theorem Zkv.pos {l r:Int} {S:Prop} (h:r≤l) (hs:S):Zkv (some (pI r)) l S:=⟨r,rfl,h,fun _=>hs⟩
theorem Zkv.sc {m:Option PV} {l:Int} {S:Prop} (h:Zkv m l S):Zkv (m.bind fun r=>if r.sc=true then some r else none) l S:=by
 obtain ⟨r,rfl,h1,h2⟩:=h
 exact ⟨r,rfl,h1,h2⟩
theorem Zkv.mono {m:Option PV} {l l':Int} {S S':Prop} (h:Zkv m l S) (hl:l≤l') (hs:S→S'):Zkv m l' S':=by
 obtain ⟨r,e,h1,h2⟩:=h
 exact ⟨r,e,by omega,fun h=>hs (h2 h)⟩
theorem Zqx {α:Type}:∀(l:List α) (j:Nat),Zar (fun _ _=>true) j l=true
 |[],_=>rfl
 |_::r,j=>Zqx r (j+1)
theorem EVS :type_of% (And.intro @obs (And.intro @oms (And.intro @Ziu (And.intro @Zdh (And.intro @nth_0 (And.intro @nth_s (And.intro @b_add (And.intro @b_sub (And.intro @b_mul (And.intro @b_eql (And.intro @b_neq (And.intro @b_lss (And.intro @b_leq (And.intro @b_gtr (And.intro @b_geq (And.intro @Zrs (And.intro @Zrt (And.intro @Zru (And.intro @Zrv (And.intro @Zrw (And.intro @u_not (And.intro @asB_b (And.intro @gd_tt (And.intro @gd_ff (And.intro @gd_tf (And.intro @gd_ft (And.intro @gd_u (And.intro @Zpx (And.intro @Zrx (And.intro @Zry (And.intro @Zrz (And.intro @Zm2 (And.intro @Zpy (And.intro @Zpz (And.intro @Zm3 (And.intro @decide_true (And.intro @decide_false (And.intro @Bool.true_and (And.intro @Bool.false_and (And.intro @Bool.and_true (And.intro @Bool.and_false (And.intro @Bool.not_true (And.intro @Bool.not_false (And.intro @Bool.true_or (And.intro @Bool.false_or (And.intro @Bool.or_true (And.intro @Bool.or_false (And.intro @ift (And.intro @iff' (And.intro @Bool.false_eq_true (And.intro @Int.ofNat_eq_natCast (And.intro @Int.natCast_one (And.intro @Int.natCast_zero (And.intro @Int.cast_ofNat_Int (And.intro @ZpB (And.intro @ZpC (And.intro @Zm4 (And.intro @ZpD (And.intro @cw2 (And.intro @cw3 (And.intro @cw4 (And.intro @cw5 (And.intro @Zk1 (And.intro @ZrA (And.intro @ZpE (And.intro @ZrB (And.intro @pv_f0 (And.intro @pv_f1 (And.intro @pv_f2 (And.intro @pv_f3 (And.intro @pv_f4 (And.intro @ZrC (And.intro @pv_t3 (And.intro @ZrD (And.intro @ZrE (And.intro @ZrF (And.intro @sp2 (And.intro @sp4 (And.intro @zm (And.intro @zn (And.intro @Zm1 (And.intro @lmap (And.intro @ZrG (And.intro @ZrH (And.intro @ZrI (And.intro @ZpG (And.intro @ZpF (And.intro @ZpH (And.intro @ZpI (And.intro @ZrJ (And.intro @ZrK (And.intro @dv_v (And.intro @dv_p (And.intro @ZpJ (And.intro @sp_n (And.intro @sp_0n (And.intro @sp_0 (And.intro @sp_s (And.intro @ls_0 (And.intro @ls_s (And.intro @lg_0 (And.intro @lg_s (And.intro @ogs (And.intro @ZrL (And.intro @ZrM (And.intro @ZpK (And.intro @ZrN (And.intro @ZpL (And.intro @pv_t1 (And.intro @pv_t5 (And.intro @pv_t6 (And.intro @pv_t7 (And.intro @pv_f5 (And.intro @pv_f6 (And.intro @cw6 (And.intro @cw7 (And.intro @c_str (And.intro @c_int (And.intro @ZrO (And.intro @c_lst (And.intro @ZrP (And.intro @ZrQ (And.intro @Zjn (And.intro @ZrR (And.intro @ZrS (And.intro @ZpM (And.intro @ZrT (And.intro @Zk2 (@ZpN))))))))))))))))))))))))))))))))))))))))))))))))))))))))))))))))))))))))))))))))))))))))))))))))))))))))))))))))))))))))))))))))):=And.intro @obs (And.intro @oms (And.intro @Ziu (And.intro @Zdh (And.intro @nth_0 (And.intro @nth_s (And.intro @b_add (And.intro @b_sub (And.intro @b_mul (And.intro @b_eql (And.intro @b_neq (And.intro @b_lss (And.intro @b_leq (And.intro @b_gtr (And.intro @b_geq (And.intro @Zrs (And.intro @Zrt (And.intro @Zru (And.intro @Zrv (And.intro @Zrw (And.intro @u_not (And.intro @asB_b (And.intro @gd_tt (And.intro @gd_ff (And.intro @gd_tf (And.intro @gd_ft (And.intro @gd_u (And.intro @Zpx (And.intro @Zrx (And.intro @Zry (And.intro @Zrz (And.intro @Zm2 (And.intro @Zpy (And.intro @Zpz (And.intro @Zm3 (And.intro @decide_true (And.intro @decide_false (And.intro @Bool.true_and (And.intro @Bool.false_and (And.intro @Bool.and_true (And.intro @Bool.and_false (And.intro @Bool.not_true (And.intro @Bool.not_false (And.intro @Bool.true_or (And.intro @Bool.false_or (And.intro @Bool.or_true (And.intro @Bool.or_false (And.intro @ift (And.intro @iff' (And.intro @Bool.false_eq_true (And.intro @Int.ofNat_eq_natCast (And.intro @Int.natCast_one (And.intro @Int.natCast_zero (And.intro @Int.cast_ofNat_Int (And.intro @ZpB (And.intro @ZpC (And.intro @Zm4 (And.intro @ZpD (And.intro @cw2 (And.intro @cw3 (And.intro @cw4 (And.intro @cw5 (And.intro @Zk1 (And.intro @ZrA (And.intro @ZpE (And.intro @ZrB (And.intro @pv_f0 (And.intro @pv_f1 (And.intro @pv_f2 (And.intro @pv_f3 (And.intro @pv_f4 (And.intro @ZrC (And.intro @pv_t3 (And.intro @ZrD (And.intro @ZrE (And.intro @ZrF (And.intro @sp2 (And.intro @sp4 (And.intro @zm (And.intro @zn (And.intro @Zm1 (And.intro @lmap (And.intro @ZrG (And.intro @ZrH (And.intro @ZrI (And.intro @ZpG (And.intro @ZpF (And.intro @ZpH (And.intro @ZpI (And.intro @ZrJ (And.intro @ZrK (And.intro @dv_v (And.intro @dv_p (And.intro @ZpJ (And.intro @sp_n (And.intro @sp_0n (And.intro @sp_0 (And.intro @sp_s (And.intro @ls_0 (And.intro @ls_s (And.intro @lg_0 (And.intro @lg_s (And.intro @ogs (And.intro @ZrL (And.intro @ZrM (And.intro @ZpK (And.intro @ZrN (And.intro @ZpL (And.intro @pv_t1 (And.intro @pv_t5 (And.intro @pv_t6 (And.intro @pv_t7 (And.intro @pv_f5 (And.intro @pv_f6 (And.intro @cw6 (And.intro @cw7 (And.intro @c_str (And.intro @c_int (And.intro @ZrO (And.intro @c_lst (And.intro @ZrP (And.intro @ZrQ (And.intro @Zjn (And.intro @ZrR (And.intro @ZrS (And.intro @ZpM (And.intro @ZrT (And.intro @Zk2 (@ZpN))))))))))))))))))))))))))))))))))))))))))))))))))))))))))))))))))))))))))))))))))))))))))))))))))))))))))))))))))))))))))))))))
end Go.Proofs.YtjjobbamoeaogaaDoor
