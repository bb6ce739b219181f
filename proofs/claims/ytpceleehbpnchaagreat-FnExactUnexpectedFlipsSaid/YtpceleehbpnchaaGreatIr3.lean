import Derived.Test.YtpceleehbpnchaaGreatIr2
namespace Go.Proofs.YtpceleehbpnchaaGreat
open Go.RowKit
set_option linter.unusedVariables false
set_option linter.unusedSimpArgs false
set_option maxRecDepth 10000
section
variable {T :Tab} {G:List Ent} {ops:Array Oper} {o:Oper}
theorem ZtM {t:Nat} (h:Operand.tmp t∈o.op.operands.toList):t∈Zf8 o:=List.mem_filterMap.2 ⟨_,h,rfl⟩
theorem ZnD {E:Eff PV} {κ:List Kd} {j:Nat} {want:Bool} {g:Nat} (h:o.guard=some (j,want)) (hg:(ops[j]?).bind (·.dst)=some g):g∈Zfc ops o E κ:=by
 unfold Zfc Zyn
 rw[h]
 simp[hg]
theorem ZtN {E:Eff PV} {κ:List Kd} {t:Nat} (h:Operand.tmp t∈o.op.operands.toList):t∈Zfc ops o E κ∧∀q,(kd κ t).dep=some q→q∈Zfc ops o E κ:=by
 have:=ZtM h
 refine ⟨by unfold Zfc;simp[this],fun q hq=> ?_⟩
 have:q∈Zug κ (Zf8 o):=List.mem_filterMap.2 ⟨t,this,hq⟩
 unfold Zfc;simp[this]
theorem ZBz {E:Eff PV} {κ:List Kd} {q:Nat} (h:E.k.bdep=some q):q∈Zfc ops o E κ:=by
 unfold Zfc
 rw[Za1 h]
 simp
theorem Zv9 {E:Eff PV} {κ κ2:List Kd} (h:∀s∈Zfc ops o E κ,kd κ2 s=kd κ s):Zfc ops o E κ2=Zfc ops o E κ:=by
 have:Zug κ2 (Zf8 o)=Zug κ (Zf8 o):=by
  unfold Zug
  have h':∀s∈Zf8 o,kd κ2 s=kd κ s:=fun s hs=>h s (by unfold Zfc;simp[hs])
  generalize Zf8 o=l at h'
  induction l with
  |nil=>rfl
  | cons a r ih=>
   simp only[List.filterMap_cons,h' a List.mem_cons_self]
   rw[ih fun s hs=>h' s (List.mem_cons_of_mem _ hs)]
 unfold Zfc
 rw[this]
structure StepR (T:Tab) (G:List Ent) (ops:Array Oper) (o:Oper) (κ:List Kd) (E:Eff PV) (v:List Nat) (κ':List Kd) (f:List PV→Option PV):Prop where
 eff:ZcM (R:=PV) T G o κ=some E
 step:ZkC T G ops o κ=some (κ',E.tgt,f)
 kap:E.κ κ=some κ'
 vw:Zfc ops o E κ=v
theorem StepR.move {κ κ' κ2:List Kd} {E:Eff PV} {v:List Nat} {f:List PV→Option PV} (h:StepR T G ops o κ E v κ' f) (hl:κ2.length=κ.length) (hw:∀s∈E.wr,kd κ2 s=kd κ s) (hv:∀s∈v,kd κ2 s=kd κ s):
 ∃κ2' f2,StepR T G ops o κ2 E v κ2' f2∧(∀s∈E.wr,kd κ2' s=kd κ' s)∧∀σ σ2,(∀s∈v,vl σ2 s=vl σ s)→f2 σ2=f σ:=by
 have hvv:=h.vw
 subst hvv
 have hop:∀x∈o.op.operands.toList,kOp κ2 x=kOp κ x∧∀q,(kOp κ x).dep=some q→kd κ2 q=kd κ q:=fun x hx=>by
  cases x with
  | tmp t=>
   obtain ⟨h1,h2⟩:=ZtN (ops:=ops) (E:=E) (κ:=κ) hx
   exact ⟨hv t h1,fun q hq=>hv q (h2 q hq)⟩
  |const c=>refine ⟨rfl,fun q hq=> ?_⟩;simp[kOp,Kd.dep] at hq
  |global g=>refine ⟨rfl,fun q hq=> ?_⟩;simp[kOp,Kd.dep] at hq
  |func g=>refine ⟨rfl,fun q hq=> ?_⟩;simp[kOp,Kd.dep] at hq
 obtain ⟨E',κ2',f2,e1,e2,e3,e4,e5,e6⟩:=Zuo h.step hl hop
  (fun E' hE'=>by have:=h.eff.symm.trans hE';cases this;exact ⟨hw,fun q hq=>hv q (ZBz hq)⟩)
  (fun j want g hg hj=>hv g (ZnD hg hj))
 have:=h.eff.symm.trans e1
 cases this
 have hviews:ZcM (R:=PV) T G o κ2=ZcM T G o κ:=ZnK fun x hx=>Zyo (hop x hx).1 (hop x hx).2
 obtain ⟨κ3,g1,g2⟩:=Eff.κ_local h.kap hl hw
 have:=g1.symm.trans e5
 cases this
 refine ⟨κ2',f2,⟨hviews.trans h.eff,e4,e5,Zv9 hv⟩,g2,fun σ σ2 hs=>e6 σ σ2 (fun x hx=> ?_) fun j want g hg hj=>hs g (ZnD hg hj)⟩
 cases x with
 | tmp t=>
  obtain ⟨h1,h2⟩:=ZtN (ops:=ops) (E:=E) (κ:=κ) hx
  exact ⟨hs t h1,fun q hq=>hs q (h2 q hq)⟩
 |const c=>refine ⟨rfl,fun q hq=> ?_⟩;simp[kOp,Kd.dep] at hq
 |global g=>refine ⟨rfl,fun q hq=> ?_⟩;simp[kOp,Kd.dep] at hq
 |func g=>refine ⟨rfl,fun q hq=> ?_⟩;simp[kOp,Kd.dep] at hq
theorem StepR.moveW {κ κ' κ2:List Kd} {E:Eff PV} {v:List Nat} {f:List PV→Option PV} (W:List Nat) (h:StepR T G ops o κ E v κ' f) (hl:κ2.length=κ.length) (hW:∀s∈E.wr,s∈W) (hw:∀s∈W,kd κ2 s=kd κ s) (hv:∀s∈v,kd κ2 s=kd κ s):
 ∃κ2' f2,StepR T G ops o κ2 E v κ2' f2∧(∀s∈W,kd κ2' s=kd κ' s)∧∀σ σ2,(∀s∈v,vl σ2 s=vl σ s)→f2 σ2=f σ:=by
 obtain ⟨κ2',f2,h1,h2,h3⟩:=h.move hl (fun s hs=>hw s (hW s hs)) hv
 refine ⟨κ2',f2,h1,fun s hs=> ?_,h3⟩
 by_cases he:s∈E.wr
 ·exact h2 s he
 ·rw[(Eff.κ_acts h1.kap).2.2.2 s he,(Eff.κ_acts h.kap).2.2.2 s he,hw s hs]
def Calm (W:List Nat) (E:Eff PV) (κ:List Kd):Prop:=(∀s∈E.wr,s∈W)∧∀s,E.kill (kd κ s)=true→s∈W
theorem Eff.kill_none {E:Eff PV}:E.kill (.ck .none)=false:=by
 cases h:E.kill (.ck .none) with
 |false=>rfl
 |true=>obtain ⟨q,hq⟩:=Eff.kill_dep h;simp[Kd.dep] at hq
theorem Calm.keep {W:List Nat} {E:Eff PV} {κ κ':List Kd} (hn:Calm W E κ) (hk:E.κ κ=some κ') {s:Nat} (hs:s∉W):kd κ' s=kd κ s:=by
 rw[(Eff.κ_acts hk).2.2.2 s fun h=>hs (hn.1 s h)]
 split
 ·rename_i hc;exact absurd (hn.2 s hc) hs
 ·rfl
theorem kd_ext {κ κ2:List Kd} (hl:κ.length=κ2.length) (h:∀s,kd κ s=kd κ2 s):κ=κ2:=by
 apply List.ext_getElem?
 intro i
 by_cases hi:i<κ.length
 ·have h1:=h i
  unfold kd at h1
  rw[List.getD_eq_getElem?_getD,List.getD_eq_getElem?_getD] at h1
  rw[List.getElem?_eq_getElem hi,List.getElem?_eq_getElem (by omega)] at h1⊢
  simpa using h1
 ·rw[List.getElem?_eq_none (by omega),List.getElem?_eq_none (by omega)]
structure Itm where
 i:Nat
 o:Oper
 E:Eff PV
 wr:List Nat
 v:List Nat
 old:List Kd
 nk:List Kd
 x:PV
theorem Zwa {w1 v1 w2 v2:List Nat} (h:apart w1 v1 w2 v2=true):(∀s∈w1,s∉w2∧s∉v2)∧∀s∈w2,s∉w1∧s∉v1:=by
 unfold apart at h
 simp only[Bool.and_eq_true,List.all_eq_true,Bool.not_eq_true',List.contains_eq_mem,decide_eq_false_iff_not] at h
 exact ⟨fun s hs=>h.1 s hs,fun s hs=>⟨fun hc=>(h.1 s hc).1 hs,h.2 s hs⟩⟩
def Itm.apart (a b:Itm):Bool:=Proofs.YtpceleehbpnchaaGreat.apart a.wr a.v b.wr b.v&&(a.old.all fun k=> !b.E.kill k)&&(b.nk.all fun k=> !a.E.kill k)
def Ch (T:Tab) (G:List Ent) (ops:Array Oper):List Itm→List Kd→List PV→List Kd→List PV→Prop
 |[],κ,σ,κe,σe=>κ=κe∧σ=σe
 |a::r,κ,σ,κe,σe=>∃κ' f,StepR T G ops a.o κ a.E a.v κ' f∧f σ=some a.x∧a.old=a.wr.map (kd κ)∧a.nk=a.wr.map (kd κ')∧Calm a.wr a.E κ∧Ch T G ops r κ' (σ.set a.E.tgt a.x) κe σe
theorem Ch.swap {a b:Itm} {r:List Itm} {κ κe:List Kd} {σ σe:List PV} (h:Ch T G ops (a::b::r) κ σ κe σe) (hp:a.apart b=true):Ch T G ops (b::a::r) κ σ κe σe:=by
 obtain ⟨κ1,fa,ha,hfa,hoa,hka,hca,κ12,fb,hb,hfb,hob,hkb,hcb,hr⟩:=h
 unfold Itm.apart at hp
 simp only[Bool.and_eq_true,List.all_eq_true,Bool.not_eq_true'] at hp
 obtain ⟨⟨hp,q1⟩,q2⟩:=hp
 obtain ⟨p1,p2⟩:=Zwa hp
 have hl1:=(Eff.κ_acts ha.kap).1
 have hl12:=(Eff.κ_acts hb.kap).1
 have ta:a.E.tgt∈a.wr:=hca.1 _ List.mem_cons_self
 have tb:b.E.tgt∈b.wr:=hcb.1 _ List.mem_cons_self
 have s1:∀s,s∉a.wr→kd κ1 s=kd κ s:=fun s hs=>hca.keep ha.kap hs
 obtain ⟨κ2,fb',hb2,hw2,hf2⟩:=hb.moveW b.wr (κ2:=κ) hl1.symm hcb.1 (fun s hs=>(s1 s (p2 s hs).1).symm) (fun s hs=>(s1 s fun hc=>(p1 s hc).2 hs).symm)
 have hcb2:Calm b.wr b.E κ:=⟨hcb.1,fun s hs=>by
  by_cases hsa:s∈a.wr
  ·have:b.E.kill (kd κ s)=false:=q1 _ (by rw[hoa];exact List.mem_map.2 ⟨s,hsa,rfl⟩)
   rw[this] at hs;cases hs
  ·exact hcb.2 s (by rw[s1 s hsa];exact hs)⟩
 have s2:∀s,s∉b.wr→kd κ2 s=kd κ s:=fun s hs=>hcb2.keep hb2.kap hs
 have hl2:=(Eff.κ_acts hb2.kap).1
 obtain ⟨κ21,fa',ha2,hw21,hf21⟩:=ha.moveW a.wr (κ2:=κ2) hl2 hca.1 (fun s hs=>s2 s (p1 s hs).1) (fun s hs=>s2 s fun hc=>(p2 s hc).2 hs)
 have hca2:Calm a.wr a.E κ2:=⟨hca.1,fun s hs=>by
  by_cases hsb:s∈b.wr
  ·have:a.E.kill (kd κ2 s)=false:=q2 _ (by rw[hkb];exact List.mem_map.2 ⟨s,hsb,(hw2 s hsb).symm⟩)
   rw[this] at hs;cases hs
  ·exact hca.2 s (by rw[←s2 s hsb];exact hs)⟩
 have hl21:=(Eff.κ_acts ha2.kap).1
 have hκ:κ21=κ12:=by
  refine kd_ext (by omega) fun s=> ?_
  by_cases h1:s∈a.wr
  ·rw[hw21 s h1,hcb.keep hb.kap (p1 s h1).1]
  ·rw[hca2.keep ha2.kap h1]
   by_cases h2:s∈b.wr
   ·rw[hw2 s h2]
   ·rw[s2 s h2,hcb.keep hb.kap h2,s1 s h1]
 have htab:¬a.E.tgt=b.E.tgt:=fun e=>(p1 _ ta).1 (e▸tb)
 refine ⟨κ2,fb',hb2,(hf2 _ _ fun s hs=> ?_).trans hfb, ?_, ?_,hcb2,κ21,fa',ha2,(hf21 _ _ fun s hs=> ?_).trans hfa, ?_, ?_,hca2, ?_⟩
 ·rw[ZgF,if_neg];intro hc;exact (p1 _ ta).2 (hc.1▸hs)
 ·rw[hob];exact List.map_congr_left fun s hs=>s1 s (p2 s hs).1
 ·rw[hkb];exact List.map_congr_left fun s hs=>(hw2 s hs).symm
 ·rw[ZgF,if_neg];intro hc;exact (p2 _ tb).2 (hc.1▸hs)
 ·rw[hoa];exact List.map_congr_left fun s hs=>(s2 s (p1 s hs).1).symm
 ·rw[hka];exact List.map_congr_left fun s hs=>(hw21 s hs).symm
 ·rw[hκ,List.set_comm _ _ (fun e=>htab e.symm)]
  exact hr
theorem Ch.front {b:Itm} {r:List Itm} {κe:List Kd} {σe:List PV}:∀(l:List Itm) (κ:List Kd) (σ:List PV),Ch T G ops (l++b::r) κ σ κe σe→(∀a∈l,a.apart b=true)→Ch T G ops (b::(l++r)) κ σ κe σe
 |[],_,_,h,_=>h
 | a::l,κ,σ,h,hp=>by
  obtain ⟨κ',f,h1,h2,h3,h4,h5,h6⟩:=h
  have ih:=Ch.front l κ' _ h6 fun c hc=>hp c (List.mem_cons_of_mem _ hc)
  exact Ch.swap (r:=l++r) ⟨κ',f,h1,h2,h3,h4,h5,ih⟩ (hp a List.mem_cons_self)
end
section
variable {R :Type} {T:Tab} {G:List Ent} {ops:Array Oper}
theorem ZtO {o:Oper} {κ:List Kd} {k:Eff PV→List Kd→(List PV→Option PV)→Option R} {r:R} (h:Zwz T G ops o κ k=some r):∃E κ' f,StepR T G ops o κ E (Zfc ops o E κ) κ' f∧k E κ' f=some r:=by
 unfold Zwz at h
 cases hE:ZcM (R:=PV) T G o κ with
 |none=>rw[hE] at h;cases h
 | some E=>
  rw[hE] at h
  obtain ⟨gh,tgt,put,ek,cut,dyn⟩:=E
  dsimp only at h
  cases hκ:Zsp gh tgt put ek cut κ with
  |none=>rw[hκ] at h;cases h
  | some κ'=>
   rw[hκ] at h
   simp only[ZfI] at h
   have hκ':Eff.κ (⟨gh,tgt,put,ek,cut,dyn⟩:Eff PV) κ=some κ':=by rw[Zsq];exact hκ
   cases hg:o.guard with
   | none=>
    rw[hg] at h
    simp only[ZfJ] at h
    refine ⟨_,κ',_,⟨hE, ?_,hκ',rfl⟩,h⟩
    unfold ZkC
    rw[hE]
    dsimp only
    rw[hκ']
    dsimp only
    rw[hg]
   | some g=>
    obtain ⟨j,want⟩:=g
    rw[hg] at h
    dsimp only at h
    cases ht:(ops[j]?).bind (·.dst) with
    |none=>rw[ht] at h;cases h
    | some t=>
     rw[ht] at h
     dsimp only at h
     split at h
     case isFalse=>cases h
     rename_i hc
     simp only[ZfJ] at h
     refine ⟨_,κ',_,⟨hE, ?_,hκ',rfl⟩,h⟩
     unfold ZkC
     rw[hE]
     dsimp only
     rw[hκ']
     dsimp only
     rw[hg]
     dsimp only
     rw[ht]
     dsimp only
     rw[if_pos hc]
def SD (T:Tab) (G:List Ent) (ops:Array Oper):List Oper→Nat→List Kd→List StepD→List Kd→Prop
 |[],_,κ,l,κe=>l=[]∧κ=κe
 |o::r,i,κ,l,κe=>∃d l' κ',l=d::l'∧d.i=i∧d.o=o∧(∀s∈d.E.wr,s∈d.wr)∧StepR T G ops o κ d.E d.v κ' d.f∧d.old=d.wr.map (kd κ)∧d.nk=d.wr.map (kd κ')∧d.calm=ZAG d.E d.wr κ∧SD T G ops r (i+1) κ' l' κe
theorem ZiG :∀(l:List Oper) (i:Nat) (κ:List Kd) (k:List StepD→List Kd→Option R) (r:R),ZoZ T G ops l i κ k=some r→∃ds κe,SD T G ops l i κ ds κe∧k ds κe=some r
 |[],i,κ,k,r,h=>⟨[],κ,⟨rfl,rfl⟩,h⟩
 | o::l,i,κ,k,r,h=>by
  unfold ZoZ at h
  obtain ⟨E,κ',f,h1,h2⟩:=ZtO h
  simp only[ZoX] at h2
  obtain ⟨ds,κe,h3,h4⟩:=ZiG l (i+1) κ' _ r h2
  exact ⟨_,κe,⟨_,ds,κ',rfl,rfl,rfl,fun s hs=>List.mem_append_left _ hs,h1,rfl,rfl,rfl,h3⟩,h4⟩
def StepD.itm (d:StepD) (x:PV):Itm:=⟨d.i,d.o,d.E,d.wr,d.v,d.old,d.nk,x⟩
theorem ZzW {E:Eff PV} {wr:List Nat} {κ:List Kd} (h:ZAG E wr κ=true) (hw:∀s∈E.wr,s∈wr):Calm wr E κ:=⟨hw,fun s hs=>by
 by_cases hl:s<κ.length
 ·have:=List.all_eq_true.1 h s (List.mem_range.2 hl)
  simp only[hs,Bool.not_true,Bool.false_or,List.contains_eq_mem,decide_eq_true_eq] at this
  exact this
 ·have e:kd κ s=.ck .none:=by unfold kd;rw[List.getD_eq_getElem?_getD,List.getElem?_eq_none (by omega)];rfl
  rw[e,Eff.kill_none] at hs;cases hs⟩
theorem Zrq :∀(l:List Oper) (i:Nat) (κ:List Kd) (ds:List StepD) (κe:List Kd) (σ:List PV) (k:List PV→Option R) (r:R),SD T G ops l i κ ds κe→runV ds σ k=some r→(∀d∈ds,d.calm=true)→
 ∃xs σe,xs.length=ds.length∧Ch T G ops (List.zipWith StepD.itm ds xs) κ σ κe σe∧k σe=some r
 | [],i,κ,ds,κe,σ,k,r,h,hr,hS=>by
  obtain ⟨rfl,rfl⟩:=h
  exact ⟨[],σ,rfl,⟨rfl,rfl⟩,hr⟩
 | o::l,i,κ,ds,κe,σ,k,r,h,hr,hS=>by
  obtain ⟨d,l',κ',rfl,e1,e2,e3,e4,e5,e7,e8,e6⟩:=h
  rw[Zzd] at hr
  obtain ⟨x,hx,hr⟩:=Option.bind_eq_some_iff.1 hr
  rw[Zed] at hr
  obtain ⟨xs,σe,g1,g2,g3⟩:=Zrq l (i+1) κ' l' κe _ k r e6 hr fun d' hd=>hS d' (List.mem_cons_of_mem _ hd)
  have n1:=hS d List.mem_cons_self
  rw[e8] at n1
  refine ⟨x::xs,σe,by simp[g1],⟨κ',d.f, ?_,hx, ?_, ?_,ZzW n1 e3,g2⟩,g3⟩
  ·show StepR T G ops d.o κ d.E d.v κ' d.f
   rw[e2];exact e4
  ·show d.old=_
   rw[e5];rfl
  ·show d.nk=_
   rw[e7];rfl
theorem ZxS {α:Type}:∀(k:List (List Nat)) (c:List (List Nat)→α),fcNN k c=c k
 |[],c=>rfl
 |k::r,c=>by simp[fcNN,ZoX,ZxS r]
theorem ZiH {a:Nat}:∀(l acc:List Nat),a∈l.foldl addN acc→a∈acc∨a∈l
 |[],acc,h=>.inl h
 | b ::r,acc,h=>by
  rcases ZiH r _ h with h|h
  ·unfold addN at h
   split at h
   ·exact .inl h
   ·rcases List.mem_cons.1 h with rfl|h
    ·exact .inr List.mem_cons_self
    ·exact .inl h
  ·exact .inr (List.mem_cons_of_mem _ h)
def Down (ops:Array Oper) (L:Nat→Prop):Prop:=∀j o,ops[j]?=some o→L j→∀e∈o.after,Region.binds .any e=true→L e.on
def ZzX (ops:Array Oper) (j a:Nat):Prop:=∀L:Nat→Prop,Down ops L→L j→L a
theorem ZBA (l:List Oper):∀(A:List (List Nat)),(∀k,l[k]?=ops[A.length+k]?)→(∀j a,a∈A.getD j []→ZzX ops j a)→∀j a,a∈(ancT l A).getD j []→ZzX ops j a:=by
 induction l with
 |nil=>intro A _ h j a ha;exact h j a ha
 | cons o r ih=>
  intro A hl h
  unfold ancT
  have ho:ops[A.length]?=some o:=by have:=hl 0;simpa using this.symm
  refine ih _ (fun k=> ?_) fun j a ha=> ?_
  ·have:=hl (k+1)
   simp only[List.getElem?_cons_succ] at this
   rw[this,List.length_append]
   congr 1
   simp
   omega
  ·rw [List.getD_eq_getElem?_getD,List.getElem?_append] at ha
   split at ha
   ·exact h j a (by rw[List.getD_eq_getElem?_getD];exact ha)
   ·rename_i hj
    by_cases hj0:j - A.length=0
    ·have hjj:j=A.length:=by omega
     rw[hj0] at ha
     simp only[List.getElem?_cons_zero,Option.getD_some] at ha
     intro L hL hLj
     rcases ZiH _ [] ha with ha|ha
     ·cases ha
     ·unfold ancOf at ha
      obtain ⟨e,he,hae⟩:=List.mem_flatMap.1 ha
      obtain ⟨he1,he2⟩:=List.mem_filter.1 he
      have h1:=hL j o (hjj▸ho) hLj e (Array.mem_toList_iff.1 he1) he2
      rcases List.mem_cons.1 hae with rfl|hae
      ·exact h1
      ·exact h e.on a hae L hL h1
    ·obtain ⟨m,hm⟩:∃m,j - A.length=m+1:=⟨j - A.length - 1,by omega⟩
     rw[hm] at ha
     simp at ha
structure Rest (ops:Array Oper) (rest:List Itm) (listed:Array Bool):Prop where
 at':∀a∈rest,ops[a.i]?=some a.o
 un:∀i,i<ops.size→(listed.getD i true=false↔∃a∈rest,a.i=i)
 sz:listed.size=ops.size
 pw:rest.Pairwise fun a b=>a.i<b.i∧(a.apart b=true∨ZzX ops b.i a.i)
 dc:Down ops fun i=>listed.getD i false=true
 ed:∀a∈rest,∀e∈a.o.after,Region.binds .any e=true→e.on<a.i
variable {P :Program} {w0:World} {F0:Nat→Prop} {X0:List Nat}
theorem St.drewn {κ:List Kd} {σ:List PV} {τ:Array Value} {w:World} {F:Nat→Prop} {fp:Nat→List Nat} (h:St w0 F0 X0 κ σ τ w F fp):St w0 F0 X0 κ σ τ {w with drawn:=w.drawn+1} F fp:=
 { h with
   sr:=fun s=>by obtain ⟨l,h1,h2,h3⟩:=h.sr s;exact ⟨l,h1,h2,h3.keep ⟨fun _ h=>h,fun _ _=>rfl⟩ fun _ _=>rfl⟩
   al:=fun s hs=>Al.keep h (h.al s hs) (fun _ _=>rfl) (fun q hq=>⟨h.bx s q hq,fun _ _=>rfl⟩) (fun _=>⟨Nat.le_refl _,fun _ _=>rfl⟩)
   stay:=h.stay.trans ⟨fun _ h=>h,fun _ _=>rfl⟩}
theorem ZiI {listed:Array Bool} {i:Nat} (h:i<listed.size) (b c:Bool):listed.getD i b=listed.getD i c:=by
 simp[Array.getD_eq_getD_getElem?,h]
theorem Zy0 (hT:Zad P T) (hG:∀e∈G,FnOk P e) {Q:Exit→Act→World→Prop} {κe:List Kd} {σe:List PV} {L:Nat} {V:Option (Nat×Value)} (hnd:∀o∈ops.toList,nd V o):∀(rest:List Itm) (n:Nat) (listed:Array Bool) (κ:List Kd) (σ:List PV) (a:Act) (w:World) (F:Nat→Prop) (fp:Nat→List Nat),
 rest.length=n→Rest ops rest listed→Ch T G ops rest κ σ κe σe→St w0 F0 X0 κ σ a.tmps w F fp→Iv V a→σ.length=L→
 (∀(a':Act) w' F' fp',St w0 F0 X0 κe σe a'.tmps w' F' fp'→Iv V a'→Q .normal a' w')→∀fuel,n≤fuel→wpAny P .any ops Q fuel listed a w:=by
 intro rest n
 induction n generalizing rest with
 | zero=>
  intro listed κ σ a w F fp hn hR hC hst hd hl hQ fuel hf
  have:rest=[]:=List.length_eq_zero_iff.1 hn
  subst this
  obtain ⟨rfl,rfl⟩:=hC
  have hnil:Region.ready .any ops listed=[]:=by
   cases hr:Region.ready .any ops listed with
   |nil=>rfl
   | cons i t=>
    have hm:i∈Region.ready .any ops listed:=by rw[hr];simp
    obtain ⟨h0,o,ho,_⟩:=mem_ready.1 hm
    have hlt:i<ops.size:=(Array.getElem?_eq_some_iff.1 ho).1
    obtain ⟨b,hb,_⟩:=(hR.un i hlt).1 h0
    simp at hb
  cases fuel with
  |zero=>exact ⟨hnil,hQ a w F fp hst hd⟩
  |succ fuel=>exact ⟨fun _=>hQ a w F fp hst hd,fun i hi'=>by rw[hnil] at hi';simp at hi'⟩
 | succ n ih=>
  intro listed κ σ a w F fp hn hR hC hst hd hl hQ fuel hf
  obtain ⟨fuel,rfl⟩:∃m,fuel=m+1:=⟨fuel - 1,by omega⟩
  refine ⟨fun hnil=> ?_,fun i hir=> ?_⟩
  ·
   exfalso
   cases rest with
   |nil=>simp at hn
   | cons b r=>
    have hb:=hR.at' b List.mem_cons_self
    have hlt:b.i<ops.size:=(Array.getElem?_eq_some_iff.1 hb).1
    have hm:b.i∈Region.ready .any ops listed:=by
     refine mem_ready.2 ⟨(hR.un b.i hlt).2 ⟨b,List.mem_cons_self,rfl⟩,b.o,hb,fun e he hbd=> ?_⟩
     have hlt':=hR.ed b List.mem_cons_self e he hbd
     have hes:e.on<ops.size:=by omega
     cases hL:listed.getD e.on false with
     |true=>rfl
     | false=>
      obtain ⟨c,hc,hce⟩:=(hR.un e.on hes).1 (by rw[ZiI (by rw[hR.sz];exact hes) true false];exact hL)
      rcases List.mem_cons.1 hc with rfl|hc
      ·omega
      ·have:=(List.pairwise_cons.1 hR.pw).1 c hc
       omega
    rw[hnil] at hm
    simp at hm
  ·obtain ⟨h0,o,ho,hall⟩:=mem_ready.1 hir
   have hlt:i<ops.size:=(Array.getElem?_eq_some_iff.1 ho).1
   obtain ⟨b,hb,rfl⟩:=(hR.un i hlt).1 h0
   obtain ⟨l,r,rfl⟩:=List.append_of_mem hb
   have hbo:b.o=o:=by have:=hR.at' b hb;rw[ho] at this;cases this;rfl
   subst hbo
   have hpw:=hR.pw
   rw[List.pairwise_append] at hpw
   obtain ⟨pl,pr,plr⟩:=hpw
   have hap:∀c∈l,c.apart b=true:=fun c hc=>by
    obtain ⟨hci,h1|hwt⟩:=plr c hc b List.mem_cons_self
    ·exact h1
    ·exfalso
     have hcs:c.i<ops.size:=by omega
     have h3:=(hR.un c.i hcs).2 ⟨c,by simp[hc],rfl⟩
     have hdn:Down ops fun i=>listed.getD i false=true∨i=b.i:=fun j o' ho' hj e he hbd=>by
      rcases hj with hj|rfl
      ·exact .inl (hR.dc j o' ho' hj e he hbd)
      ·rw[ho] at ho';cases ho';exact .inl (hall e he hbd)
     rcases hwt _ hdn (.inr rfl) with h2|h2
     ·rw[ZiI (by rw[hR.sz];exact hcs) false true,h3] at h2
      cases h2
     ·omega
   obtain ⟨κ',f,g1,g2,_,_,_,g5⟩:=Ch.front l κ σ hC hap
   have hR':Rest ops (l++r) (listed.setIfInBounds b.i true):=by
    have sub:∀c,c∈l++r→c∈l++b::r:=fun c hc=>by
     rcases List.mem_append.1 hc with hc|hc
     ·exact List.mem_append_left _ hc
     ·exact List.mem_append_right _ (List.mem_cons_of_mem _ hc)
    have pb:=List.pairwise_cons.1 pr
    refine ⟨fun c hc=>hR.at' c (sub c hc),fun j hj=> ?_,by simp[hR.sz], ?_,fun j o' ho' hj e he hbd=> ?_,fun c hc=>hR.ed c (sub c hc)⟩
    ·by_cases hjb:b.i=j
     ·subst hjb
      constructor
      ·intro hL
       rw[ZiI (by simp[hR.sz];exact hj) true false] at hL
       have:(listed.setIfInBounds b.i true).getD b.i false=true:=by
        have hs:b.i<listed.size:=by rw[hR.sz];exact hj
        simp[Array.getD_eq_getD_getElem?,hs]
       rw[this] at hL;cases hL
      ·rintro ⟨c,hc,hce⟩
       exfalso
       rcases List.mem_append.1 hc with hc|hc
       ·have:=(plr c hc b List.mem_cons_self).1;omega
       ·have:=(pb.1 c hc).1;omega
     ·rw [getD_set_ne true hjb,hR.un j hj]
      constructor
      ·rintro ⟨c,hc,hce⟩
       refine ⟨c, ?_,hce⟩
       rcases List.mem_append.1 hc with hc|hc
       ·exact List.mem_append_left _ hc
       ·rcases List.mem_cons.1 hc with rfl|hc
        ·exact absurd hce hjb
        ·exact List.mem_append_right _ hc
      ·rintro ⟨c,hc,hce⟩
       exact ⟨c,sub c hc,hce⟩
    ·rw[List.pairwise_append]
     exact ⟨pl,pb.2,fun c hc d hd'=>plr c hc d (List.mem_cons_of_mem _ hd')⟩
    ·by_cases hjb:b.i=j
     ·subst hjb
      rw[ho] at ho';cases ho'
      exact getD_set_true (hall e he hbd)
     ·replace hj:(listed.setIfInBounds b.i true).getD j false=true:=hj
      rw[getD_set_ne false hjb] at hj
      exact getD_set_true (hR.dc j o' ho' hj e he hbd)
   unfold wpOp
   rw[ho]
   dsimp only
   refine Zum hT hG g1.step g2 hst fun v w' F' fp' hst'=> ?_
   exact ih (l++r) (listed.setIfInBounds b.i true) κ' _ (a.put b.o.dst v) w' F' fp' (by simp at hn⊢;omega) hR' g5 hst' (hd.put (hnd _ (Array.mem_toList_iff.2 (Array.mem_of_getElem? ho))) v) (by simp[hl]) hQ fuel (by omega)
theorem SD.spec :∀(l:List Oper) (i:Nat) (κ:List Kd) (ds:List StepD) (κe:List Kd),SD T G ops l i κ ds κe→ds.length=l.length∧∀(j:Nat) (d:StepD),ds[j]?=some d→d.i=i+j∧l[j]?=some d.o∧(∀s∈d.E.wr,s∈d.wr)
 |[],i,κ,ds,κe,h=>by obtain ⟨rfl,_⟩:=h;simp
 | o::l,i,κ,ds,κe,h=>by
  obtain ⟨d,l',κ',rfl,e1,e2,e3,e4,e5,_,_,e6⟩:=h
  obtain ⟨h1,h2⟩:=SD.spec l (i+1) κ' l' κe e6
  refine ⟨by simp[h1],fun j d' hj=> ?_⟩
  cases j with
  |zero=>simp at hj;subst hj;exact ⟨e1,by simp[e2],e3⟩
  | succ j=>
   obtain ⟨g1,g2,g3⟩:=h2 j d' (by simpa using hj)
   exact ⟨by omega,by simpa using g2,g3⟩
theorem Zr9 (hT:Zad P T) (hG:∀e∈G,FnOk P e) (hm:P.follows .mixedOrders=true) {id:Nat} {κ:List Kd} {σ:List PV} {k:List StepD→List Kd→List PV→Option R} {r:R} (h:ZwA T G ops κ (fun l κe=>runV l σ (k l κe))=some r)
 {a:Act} {w:World} {F:Nat→Prop} {fp:Nat→List Nat} (hst:St w0 F0 X0 κ σ a.tmps w F fp) {V:Option (Nat×Value)} (hd:Iv V a) (hnd:∀o∈ops.toList,nd V o) {Q:Exit→Act→World→Prop}
 (hQ:∀l κe σe (a':Act) w' F' fp',St w0 F0 X0 κe σe a'.tmps w' F' fp'→Off σ σe (l.map (·.E.tgt))→Iv V a'→k l κe σe=some r→Q .normal a' w'):(Code.region id ops true).wp P Q a w:=by
 unfold ZwA at h
 obtain ⟨_,_,_,h⟩:=ZiG _ _ _ _ _ h
 simp only[ZoX,ZfI] at h
 generalize hκ0:ZAH κ _=κ0 at h
 obtain ⟨ds,κe,hSD,h⟩:=ZiG _ _ _ _ _ h
 split at h
 case isFalse=>cases h
 rename_i hc
 simp only[Bool.and_eq_true] at hc
 obtain ⟨⟨⟨c1,c2⟩,c3⟩,c4⟩:=hc
 have hsp:=SD.spec _ _ _ _ _ hSD
 obtain ⟨xs,σe,hxl,hCh,hk⟩:=Zrq _ _ _ _ _ σ _ r hSD h fun d hd=>List.all_eq_true.1 c4 d hd
 have hst0:St w0 F0 X0 κ0 σ a.tmps w F fp:=hst.weak c1 rfl fun s _=>rfl
 have hst1:St w0 F0 X0 κ0 σ a.tmps {w with drawn:=w.drawn+1} F fp:=hst0.drewn
 have hz:∀(j:Nat) (b:Itm),(List.zipWith StepD.itm ds xs)[j]?=some b→∃d x,ds[j]?=some d∧b=d.itm x:=fun j b hb=>by
  rw[List.getElem?_zipWith] at hb
  split at hb
  ·rename_i d x h1 h2;cases hb;exact ⟨d,x,h1,rfl⟩
  ·cases hb
 have hoff:Off σ σe (ds.map (·.E.tgt)):=by
  have key:∀(ds:List StepD) (xs:List PV) (κ:List Kd) (σ:List PV),xs.length=ds.length→Ch T G ops (List.zipWith StepD.itm ds xs) κ σ κe σe→Off σ σe (ds.map (·.E.tgt)):=by
   intro ds
   induction ds with
   |nil=>intro xs κ σ hl hc;cases xs<;>simp at hl;obtain ⟨_,rfl⟩:=hc;exact Off.refl _ _
   | cons d r ih=>
    intro xs κ σ hl hc
    cases xs with
    |nil=>simp at hl
    | cons x xs=>
     obtain ⟨κ',f,_,_,_,_,_,hr⟩:=hc
     have:=ih xs κ' _ (by simpa using hl) hr
     refine ⟨this.1.trans (by simp),fun s hs=> ?_⟩
     simp only[List.map_cons,List.mem_cons,not_or] at hs
     rw[this.2 s hs.2,ZgF,if_neg]
     intro hc';exact hs.1 hc'.1
  exact key _ _ _ _ hxl hCh
 refine wp_region_any hm (Zy0 hT hG hnd (κe:=κe) (σe:=σe) (L:=σ.length) (List.zipWith StepD.itm ds xs) ops.size (Array.replicate ops.size false) κ0 σ a _ F fp ?_ ?_ hCh hst1 hd rfl (fun a' w' F' fp' h1 h2=>hQ ds κe σe a' w' F' fp' h1 hoff h2 hk) ops.size (Nat.le_refl _))
 ·rw[List.length_zipWith,hxl,Nat.min_self,hsp.1];simp
 ·have hlen:(List.zipWith StepD.itm ds xs).length=ops.size:=by rw[List.length_zipWith,hxl,Nat.min_self,hsp.1];simp
  have hidx:∀(j:Nat) (b:Itm),(List.zipWith StepD.itm ds xs)[j]?=some b→b.i=j∧ops[b.i]?=some b.o:=fun j b hb=>by
   obtain ⟨d,x,h1,rfl⟩:=hz j b hb
   obtain ⟨g1,g2,_⟩:=hsp.2 j d h1
   have e:d.i=j:=by omega
   refine ⟨e, ?_⟩
   show ops[d.i]?=some d.o
   rw[e]
   simpa using g2
  refine ⟨fun b hb=> ?_,fun i hi=> ?_,by simp, ?_,fun j o' ho' hj=>(by
   have hlt:j<ops.size:=(Array.getElem?_eq_some_iff.1 ho').1
   simp[Array.getD_eq_getD_getElem?,hlt] at hj),fun b hb e he hbd=> ?_⟩
  ·obtain ⟨j,hj⟩:=List.getElem?_of_mem hb
   exact (hidx j b hj).2
  ·constructor
   ·intro _
    have hi':i<(List.zipWith StepD.itm ds xs).length:=by omega
    exact ⟨_,List.getElem_mem hi',(hidx i _ (List.getElem?_eq_getElem hi')).1⟩
   ·intro _
    simp[Array.getD_eq_getD_getElem?,hi]
  ·rw [List.pairwise_iff_getElem]
   intro i j hi hj hij
   have h1:=hidx i _ (List.getElem?_eq_getElem hi)
   have h2:=hidx j _ (List.getElem?_eq_getElem hj)
   obtain ⟨d1,x1,q1,e1⟩:=hz i _ (List.getElem?_eq_getElem hi)
   obtain ⟨d2,x2,q2,e2⟩:=hz j _ (List.getElem?_eq_getElem hj)
   have hlt:(List.zipWith StepD.itm ds xs)[i].i<(List.zipWith StepD.itm ds xs)[j].i:=by omega
   refine ⟨hlt, ?_⟩
   rw[e1,e2]
   have key:∀(A:List (List Nat)) (ds:List StepD) (i j:Nat) (d1 d2:StepD),Zsr A ds=true→i<j→ds[i]?=some d1→ds[j]?=some d2→(ZAI d1 d2||(A.getD d2.i []).contains d1.i)=true:=by
    intro A ds
    induction ds with
    |nil=>intro i j d1 d2 _ _ hh;simp at hh
    | cons a r ih=>
     intro i j d1 d2 hp hij g1 g2
     unfold Zsr at hp
     simp only[Bool.and_eq_true] at hp
     cases i with
     | zero=>
      simp at g1;subst g1
      obtain ⟨j,rfl⟩:∃m,j=m+1:=⟨j - 1,by omega⟩
      exact List.all_eq_true.1 hp.1 d2 (List.mem_of_getElem? (by simpa using g2))
     | succ i=>
      obtain ⟨j,rfl⟩:∃m,j=m+1:=⟨j - 1,by omega⟩
      exact ih i j d1 d2 hp.2 (by omega) (by simpa using g1) (by simpa using g2)
   have:=key _ ds i j d1 d2 c2 hij q1 q2
   unfold ZAI at this
   rcases Bool.or_eq_true_iff.1 this with this|this
   ·exact .inl this
   ·right
    rw[ZxS] at this
    exact ZBA ops.toList [] (fun k=>by simp) (fun j a ha=>by simp at ha) d2.i d1.i (by simpa using this)
  ·obtain ⟨j,hj⟩:=List.getElem?_of_mem hb
   obtain ⟨d,x,q1,rfl⟩:=hz j _ hj
   have:=List.all_eq_true.1 c3 d (List.mem_of_getElem? q1)
   have:=Array.all_eq_true_iff_forall_mem.1 this e he
   have h3:e.on<d.i:=by simpa[hbd] using this
   exact h3
end
def Ctl.ex :Ctl→Exit
 |.normal=>.normal
 |.exit id=>.exit id
 |.ret=>.ret
section
variable {R :Type} {P:Program} {T:Tab} {G:List Ent}
variable {w0 :World} {F0:Nat→Prop} {X0:List Nat} {H:ZnI} {V:Option (Nat×Value)}
def Zhl (s:Nat):Code→Bool
 |.region _ ops _=>ops.toList.all fun o=>decide (o.dst≠some s)
 |.seq a b=>Zhl s a&&Zhl s b
 |.cond _ a b=>Zhl s a&&Zhl s b
 |.block _ c=>Zhl s c
 |.loop c=>Zhl s c
 |.skip=>true
 |.exit _=>true
 |.ret=>true
 |_=>false
def ndC (V:Option (Nat×Value)) (c:Code):Prop:=∀s v,V=some (s,v)→Zhl s c=true
theorem ndC.ops {id:Nat} {ops:Array Oper} {d:Bool} (h:ndC V (.region id ops d)):∀o∈ops.toList,nd V o:=fun o ho s v hs=>by
 have:=List.all_eq_true.1 (h s v hs) o ho
 simpa using this
theorem ndC.seq {a b:Code} (h:ndC V (.seq a b)):ndC V a∧ndC V b:=⟨fun s v hs=>(Bool.and_eq_true_iff.1 (h s v hs)).1,fun s v hs=>(Bool.and_eq_true_iff.1 (h s v hs)).2⟩
theorem ndC.cond {x:Operand} {a b:Code} (h:ndC V (.cond x a b)):ndC V a∧ndC V b:=⟨fun s v hs=>(Bool.and_eq_true_iff.1 (h s v hs)).1,fun s v hs=>(Bool.and_eq_true_iff.1 (h s v hs)).2⟩
theorem ndC.block {id:Nat} {c:Code} (h:ndC V (.block id c)):ndC V c:=fun s v hs=>h s v hs
theorem ndC.loop {c:Code} (h:ndC V (.loop c)):ndC V c:=fun s v hs=>h s v hs
def Outs (V:Option (Nat×Value)) (w0:World) (F0:Nat→Prop) (X0:List Nat) (σ0:List PV) (K:Ctl→List Kd→List Nat→List PV→Option R) (r:R) (Q:Exit→Act→World→Prop):Prop:=
 ∀(c:Ctl) (κ':List Kd) (W':List Nat) (σ':List PV) (a':Act) (w':World) (F':Nat→Prop) (fp':Nat→List Nat),St w0 F0 X0 κ' σ' a'.tmps w' F' fp'→Off σ0 σ' W'→Iv V a'→K c κ' W' σ'=some r→Q c.ex a' w'
theorem ZmQ {κj:List Kd} {Wj:List Nat} {k:List PV→Option R} {κ':List Kd} {W':List Nat} {σ':List PV} {r:R} (h:ZgE κj Wj k κ' W' σ'=some r):Zit κ' κj=true∧subW W' Wj=true∧k (ZwB σ' (ZbI κj Wj))=some r:=by
 unfold ZgE at h
 split at h
 ·rename_i hc
  simp only[Bool.and_eq_true] at hc
  exact ⟨hc.1,hc.2,h⟩
 ·cases h
theorem Off.trans {σ0 σ1 σ2:List PV} {W W':List Nat} (h:Off σ0 σ1 W) (h':Off σ1 σ2 W'):Off σ0 σ2 (W++W'):=
 ⟨h'.1.trans h.1,fun s hs=>by simp only[List.mem_append,not_or] at hs;exact (h'.2 s hs.2).trans (h.2 s hs.1)⟩
theorem Off.mono {σ0 σ:List PV} {W W':List Nat} (h:Off σ0 σ W) (hs:∀s∈W,s∈W'):Off σ0 σ W':=⟨h.1,fun s hn=>h.2 s fun hc=>hn (hs s hc)⟩
theorem ZkN (hT:Zad P T) (hG:∀e∈G,FnOk P e) (hm:P.follows .mixedOrders=true):∀(c:Code) (p:Nat) (κ:List Kd) (W:List Nat) (σ σ0:List PV) (K:Ctl→List Kd→List Nat→List PV→Option R) (r:R) (a:Act) (w:World) (F:Nat→Prop) (fp:Nat→List Nat) (Q:Exit→Act→World→Prop),
 Zhp T G H p c κ W σ K=some r→St w0 F0 X0 κ σ a.tmps w F fp→Off σ0 σ W→Iv V a→ndC V c→Outs V w0 F0 X0 σ0 K r Q→c.wp P Q a w:=by
 intro c
 induction c with
 |skip=>intro p κ W σ σ0 K r a w F fp Q he h ho hd hnd hK;exact wp_skip (hK .normal κ W σ a w F fp h ho hd he)
 | region id ops draw=>
  intro p κ W σ σ0 K r a w F fp Q he h ho hd hnd hK
  cases draw
  ·unfold Zhp at he
   rw[ZoY] at he
   exact wp_region_list (Zl2 hT hG ops.toList κ W σ a w F fp he h ho hd hnd.ops fun κ' W' σ' a' w' F' fp' h1 h2 h3 h4=>hK .normal κ' W' σ' a' w' F' fp' h1 h2 h3 h4)
  ·unfold Zhp at he
   refine Zr9 hT hG hm (k:=fun l κe=>K .normal κe (l.map (·.E.tgt)++W)) (by simpa only[ZoX] using he) h hd hnd.ops fun l κe σe a' w' F' fp' h1 h2 h3 h4=> ?_
   exact hK .normal κe _ σe a' w' F' fp' h1 ((ho.trans h2).mono fun s hs=>by simp only[List.mem_append] at hs⊢;exact hs.symm) h3 h4
 | seq x y ihx ihy=>
  intro p κ W σ σ0 K r a w F fp Q he h ho hd hnd hK
  refine wp_seq (ihx (2 * p) κ W σ σ0 _ r a w F fp _ he h ho hd hnd.seq.1 fun c κ' W' σ' a' w' F' fp' h1 h2 h3 h4=> ?_)
  cases c with
  |normal=>exact ihy (2 * p+1) κ' W' σ' σ0 K r a' w' F' fp' Q h4 h1 h2 h3 hnd.seq.2 hK
  |exit id=>exact hK (.exit id) κ' W' σ' a' w' F' fp' h1 h2 h3 (by simpa[Zho] using h4)
  |ret=>exact hK .ret κ' W' σ' a' w' F' fp' h1 h2 h3 (by simpa[Zho] using h4)
 | cond c x y ihx ihy=>
  intro p κ W σ σ0 K r a w F fp Q he h ho hd hnd hK
  unfold Zhp at he
  split at he
  case isFalse=>cases he
  rename_i hv
  obtain ⟨t,ht,he⟩:=Option.bind_eq_some_iff.1 he
  have hvr:=rdV h hv
  rw[ZAR ht] at hvr
  refine wp_cond (t:=t) hvr.bool_eq ?_
  split at he
  ·
   rename_i j _
   rw[ZeQ] at he
   simp only[Zed] at he
   have key:∀(z:Code) (q:Nat),(∀(κ:List Kd) (W:List Nat) (σ σ0:List PV) (K:Ctl→List Kd→List Nat→List PV→Option R) (r:R) (a:Act) (w:World) (F:Nat→Prop) (fp:Nat→List Nat) (Q:Exit→Act→World→Prop),
    Zhp T G H q z κ W σ K=some r→St w0 F0 X0 κ σ a.tmps w F fp→Off σ0 σ W→Iv V a→ndC V z→Outs V w0 F0 X0 σ0 K r Q→z.wp P Q a w)→ndC V z→
    Zhp T G H q z κ [] σ (Zho W K (ZgE j.1 j.2 fun J=>K .normal j.1 (W++j.2) (ZaW J σ 0 (ZbI j.1 j.2))))=some r→z.wp P Q a w:=by
    intro z q ihz hndz hez
    refine ihz κ [] σ σ _ r a w F fp Q hez h (Off.refl _ _) hd hndz fun c κ' W' σ' a' w' F' fp' h1 h2 h3 h4=> ?_
    cases c with
    | normal=>
     rw[ZkB] at h4
     obtain ⟨j1,j2,j3⟩:=ZmQ h4
     exact hK .normal j.1 (W++j.2) _ a' w' F' fp' (h1.join j1 j2 h2) (Zhr ho _ _ 0 _ (fun s hs=>List.mem_append_left _ hs) (fun s hs=>List.mem_append_right _ (ZkX _ _ s hs))) h3 j3
    |exit id=>exact hK (.exit id) κ' (W++W') σ' a' w' F' fp' h1 (ho.trans h2) h3 h4
    |ret=>exact hK .ret κ' (W++W') σ' a' w' F' fp' h1 (ho.trans h2) h3 h4
   cases t
   ·exact key y _ (ihy (2 * p+1)) hnd.cond.2 (by simpa using he)
   ·exact key x _ (ihx (2 * p)) hnd.cond.1 (by simpa using he)
  ·cases t
   ·exact ihy (2 * p+1) κ W σ σ0 K r a w F fp Q (by simpa using he) h ho hd hnd.cond.2 hK
   ·exact ihx (2 * p) κ W σ σ0 K r a w F fp Q (by simpa using he) h ho hd hnd.cond.1 hK
 | block id c ih=>
  intro p κ W σ σ0 K r a w F fp Q he h ho hd hnd hK
  refine wp_block ?_
  unfold Zhp at he
  split at he
  ·refine ih (2 * p) κ W σ σ0 _ r a w F fp _ he h ho hd hnd.block fun c κ' W' σ' a' w' F' fp' h1 h2 h3 h4=> ?_
   cases c with
   |normal=>exact hK .normal κ' W' σ' a' w' F' fp' h1 h2 h3 h4
   | exit i=>
    show Exit.inBlock id Q (.exit i) a' w'
    change (if i=id then K .normal κ' W' σ' else K (.exit i) κ' W' σ')=some r at h4
    by_cases e:i=id
    ·rw[if_pos e] at h4
     simp only[Exit.inBlock,e,if_true]
     exact hK .normal κ' W' σ' a' w' F' fp' h1 h2 h3 h4
    ·rw[if_neg e] at h4
     simp only[Exit.inBlock,e,if_false]
     exact hK (.exit i) κ' W' σ' a' w' F' fp' h1 h2 h3 h4
   |ret=>exact hK .ret κ' W' σ' a' w' F' fp' h1 h2 h3 h4
  ·rename_i j _
   rw[ZeQ] at he
   simp only[Zed] at he
   have join:∀(κ':List Kd) (W':List Nat) (σ':List PV) (a':Act) (w':World) (F':Nat→Prop) (fp':Nat→List Nat),St w0 F0 X0 κ' σ' a'.tmps w' F' fp'→Off σ σ' W'→Iv V a'→ZgE j.1 j.2 (fun J=>K .normal j.1 (W++j.2) (ZaW J σ 0 (ZbI j.1 j.2))) κ' W' σ'=some r→Q .normal a' w':=by
    intro κ' W' σ' a' w' F' fp' h1 h2 h3 h4
    obtain ⟨j1,j2,j3⟩:=ZmQ h4
    exact hK .normal j.1 (W++j.2) _ a' w' F' fp' (h1.join j1 j2 h2) (Zhr ho _ _ 0 _ (fun s hs=>List.mem_append_left _ hs) (fun s hs=>List.mem_append_right _ (ZkX _ _ s hs))) h3 j3
   refine ih (2 * p) κ [] σ σ _ r a w F fp _ he h (Off.refl _ _) hd hnd.block fun c κ' W' σ' a' w' F' fp' h1 h2 h3 h4=> ?_
   cases c with
   |normal=>exact join κ' W' σ' a' w' F' fp' h1 h2 h3 h4
   | exit i=>
    show Exit.inBlock id Q (.exit i) a' w'
    change (if i=id then ZgE j.1 j.2 _ κ' W' σ' else K (.exit i) κ' (W++W') σ')=some r at h4
    by_cases e:i=id
    ·rw[if_pos e] at h4
     simp only[Exit.inBlock,e,if_true]
     exact join κ' W' σ' a' w' F' fp' h1 h2 h3 h4
    ·rw[if_neg e] at h4
     simp only[Exit.inBlock,e,if_false]
     exact hK (.exit i) κ' (W++W') σ' a' w' F' fp' h1 (ho.trans h2) h3 h4
   |ret=>exact hK .ret κ' (W++W') σ' a' w' F' fp' h1 (ho.trans h2) h3 h4
 | loop c ih=>
  intro p κ W σ σ0 K r a w F fp Q he h ho hd hnd hK
  unfold Zhp at he
  split at he
  ·cases he
  rename_i L _
  split at he
  case isFalse=>cases he
  rename_i hw
  simp only[Zed] at he
  rw[ZiU] at he
  have rounds:∀(n:Nat) (J:List PV) (a:Act) (w:World) (F:Nat→Prop) (fp:Nat→List Nat),ZkW (fun again J=>Zhp T G H (2 * p) c L.1 [] (ZaW J σ 0 (ZbI L.1 L.2)) (Zho (W++L.2) K (ZgE L.1 L.2 again))) n J=some r→
   St w0 F0 X0 L.1 (ZaW J σ 0 (ZbI L.1 L.2)) a.tmps w F fp→Iv V a→Code.rounds P c Q n a w:=by
   intro n
   induction n with
   |zero=>intro J a w F fp hr;cases hr
   | succ n ihn=>
    intro J a w F fp hr hst hd
    rw[rounds_succ]
    unfold ZkW at hr
    have hoff:Off σ0 (ZaW J σ 0 (ZbI L.1 L.2)) (W++L.2):=Zhr ho J _ 0 _ (fun s hs=>List.mem_append_left _ hs) (fun s hs=>List.mem_append_right _ (ZkX _ _ s hs))
    refine ih (2 * p) L.1 [] _ (ZaW J σ 0 (ZbI L.1 L.2)) _ r a w F fp _ hr hst (Off.refl _ _) hd hnd.loop fun c' κ' W' σ' a' w' F' fp' h1 h2 h3 h4=> ?_
    cases c' with
    | normal=>
     rw[ZkB] at h4
     obtain ⟨j1,j2,j3⟩:=ZmQ h4
     refine ihn _ a' w' F' fp' j3 ?_ h3
     have hj:=h1.join j1 j2 h2
     refine hj.weak ?_ (by rw[Zax,Zax,Zax]) fun s _=> ?_
     ·unfold Zit
      have hb:ZAF L.1=true:=by
       unfold Zit at j1
       simp only[Bool.and_eq_true] at j1
       exact j1.2
      have hz:∀(l:List Kd),(List.zipWith Zg2 l l).all id=true:=by
       intro l
       induction l with
       |nil=>rfl
       | cons k r ih=>
        simp only[List.zipWith_cons_cons,List.all_cons,Bool.and_eq_true,id]
        refine ⟨?_,ih⟩
        have wc:∀c,ZlY c c=true:=fun c=>by cases c<;>simp[ZlY]
        unfold Zg2
        split
        ·split
         ·rfl
         ·exact wc _
        ·simp only[decide_true,Bool.true_and,Bool.and_true]
         rename_i ks
         have hk:∀(ks:List CK),(List.zipWith ZlY ks ks).all id=true:=by
          intro ks
          induction ks with
          |nil=>rfl
          |cons k r ih=>simp only[List.zipWith_cons_cons,List.all_cons,Bool.and_eq_true,id];exact ⟨wc k,ih⟩
         exact hk ks
        ·simp
      rw[hz L.1,hb]
      simp
     ·by_cases hsl:s<σ.length
      ·rw[Zhq _ σ' _ σ 0 (fun k hk=>by rw[Nat.zero_add];exact Zo0 σ' _ k hk) s hsl]
       rw[Zhq _ σ' _ _ 0 (fun k hk=>by rw[Nat.zero_add];exact Zo0 σ' _ k hk) s (by rw[Zax];exact hsl)]
       split
       ·rfl
       ·rename_i hn
        have:=(Zhr (Off.refl σ (ZbI L.1 L.2)) J (ZbI L.1 L.2) 0 (ZbI L.1 L.2) (fun _ h=>h) (fun _ h=>h)).2 s hn
        exact this.symm
      ·have e1:∀(σ1:List PV),σ1.length=σ.length→vl σ1 s=.undef:=fun σ1 hl=>by unfold vl;rw[List.getD_eq_getElem?_getD,List.getElem?_eq_none (by omega)];rfl
       rw[e1 _ (by rw[Zax]),e1 _ (by rw[Zax,Zax])]
    |exit id=>exact hK (.exit id) κ' (W++L.2++W') σ' a' w' F' fp' h1 (hoff.trans h2) h3 h4
    |ret=>exact hK .ret κ' (W++L.2++W') σ' a' w' F' fp' h1 (hoff.trans h2) h3 h4
  refine wp_loop_rounds fuel (rounds fuel _ a w F fp he ?_ hd)
  exact h.join hw (W:=[]) (by simp[subW]) (Off.refl _ _)
 |rangeFunc f ps x y _ _=>intro p κ W σ σ0 K r a w F fp Q he;cases he
 |exit id=>intro p κ W σ σ0 K r a w F fp Q he h ho hd hnd hK;exact wp_exit (hK (.exit id) κ W σ a w F fp h ho hd he)
 |scope c ih=>intro p κ W σ σ0 K r a w F fp Q he;cases he
 |label l=>intro p κ W σ σ0 K r a w F fp Q he;cases he
 |goto l=>intro p κ W σ σ0 K r a w F fp Q he;cases he
 |ret=>intro p κ W σ σ0 K r a w F fp Q he h ho hd hnd hK;exact wp_ret (hK .ret κ W σ a w F fp h ho hd he)
 |refuse s=>intro p κ W σ σ0 K r a w F fp Q he;cases he
end
def ZlM (T:Tab) (κ:List Kd) (want:CK):ResultVar→Bool
 | .tmp t=>match want,kd κ t with
  |.val,.ck .val|.val,.ck .nil=>true
  |.own true _ _,.ck .nil=>true
  |.own a e sz,.ck c=>c=.own a e sz
  |_,_=>false
 | .cell t ty=>match want,kd κ t,T.lookup ty with
  |.val,.box _ ks,some ti=>ti.agg&&ks.length=ti.size&&ks.all ckV
  |_,_,_=>false
def resGh (κ:List Kd) (want:CK):ResultVar→List Gh
 | .tmp t=>match want,kd κ t with
  |.val,.ck (.own a e sz)=>[⟨t,none,true,a,e,sz⟩]
  |_,_=>[]
 | .cell t _=>match kd κ t with
  |.box _ ks=>(List.range ks.length).filterMap fun i=>match ks[i]? with|some (CK.own a e sz)=>some (⟨t,some i,true,a,e,sz⟩:Gh)|_=>none
  |_=>[]
def ZqB (σ:List PV):ResultVar→PV
 |.tmp t=>vl σ t
 |.cell t _=>vl σ t
def ZtP (σ:List PV):List ResultVar→List PV
 |[]=>[]
 |r::rs=>ZqB σ r::ZtP σ rs
theorem ZoB (σ:List PV):∀rs,ZtP σ rs=rs.map (ZqB σ)
 |[]=>rfl
 |r::rs=>by rw[ZtP,ZoB σ rs];rfl
def Zdv :ResultVar→Nat
 |.tmp t=>t
 |.cell t _=>t
def ZxT :Kd→List CK
 |.ck c=>[c]
 |.grp true ks=>ks
 |_=>[]
def ZiJ (rk:Kd) (l:List PV):Option PV:=
 match rk,l with
 |.ck _,[x]=>some x
 |.grp true _,l=>some (.tup l)
 |_,_=>none
def oneRk :Kd→Bool
 |.ck _=>true
 |_=>false
def retC (T:Tab) (rk:Kd) (rs:List ResultVar) (κ:List Kd) (σ:List PV):Option (List Kd×PV):=
 let ws:=ZxT rk
 if ws.length=rs.length∧(rs.map Zdv).Nodup∧(decide (ws.length=1)=oneRk rk) then
  match ZdT κ.length ((ws.zip rs).flatMap fun p=>resGh κ p.1 p.2) κ with
  |none=>none
  |some κ1=>if ((ws.zip rs).all fun p=>ZlM T κ1 p.1 p.2)=true then (ZiJ rk (ZtP σ rs)).map fun r=>(κ1,r) else none
 else none
def ZzY (κ:List Kd) (σ:List PV) (K:Kd):List ResultVar→Option PV
 |[.tmp t]=>if ((kd κ (bxq κ t)).isBox&&K.isBox&&Zg2 (kd κ (bxq κ t)) K&& !(vl σ t).isU)=true then some (vl σ (bxq κ t)) else none
 |_=>none
def resT (κ:List Kd):ResultVar→Option (Option Nat×List CK)
 |.cell t _=>match kd κ t with|.box _ ks=>some (some ks.length,ks)|_=>none
 |.tmp t=>match kd κ t with|.ck c=>some (none,[c])|_=>none
def ZtQ (κ:List Kd):List ResultVar→Option (List (Option Nat)×List CK)
 |[]=>some ([],[])
 |r::rs=>match resT κ r,ZtQ κ rs with|some (c,k),some (sh,ks)=>some (c::sh,k++ks)|_,_=>none
def oneT (σ:List PV):ResultVar→Bool
 |.tmp t=>(vl σ t).one
 |.cell _ _=>true
def Zwb (T:Tab) (κ:List Kd):ResultVar→Bool
 |.tmp _=>true
 |.cell t ty=>match kd κ t,T.lookup ty with|.box _ ks,some ti=>ti.agg&&decide (ks.length=ti.size)|_,_=>false
def one1 (x:PV):Option PV:=if x.one=true then some x else none
def ZxU (σ:List PV):List ResultVar→Option (List PV)
 |[]=>some []
 |.tmp t::rs=>(one1 (vl σ t)).bind fun x=>(ZxU σ rs).bind fun l=>some (x::l)
 |.cell t _::rs=>(ZxU σ rs).bind fun l=>some (vl σ t::l)
theorem ZoC (σ:List PV):∀(rs:List ResultVar) (l:List PV),ZxU σ rs=some l→rs.all (oneT σ)=true∧l=ZtP σ rs
 |[],l,h=>by cases h;exact ⟨rfl,rfl⟩
 | .tmp t::rs,l,h=>by
  obtain ⟨x,h1,h⟩:=Option.bind_eq_some_iff.1 h
  obtain ⟨l',h2,h⟩:=Option.bind_eq_some_iff.1 h
  cases h
  obtain ⟨a,rfl⟩:=ZoC σ rs l' h2
  unfold one1 at h1
  split at h1
  ·rename_i ho
   cases h1
   exact ⟨by rw[List.all_cons,Bool.and_eq_true];exact ⟨ho,a⟩,rfl⟩
  ·cases h1
 | .cell t _::rs,l,h=>by
  obtain ⟨l',h2,h⟩:=Option.bind_eq_some_iff.1 h
  cases h
  obtain ⟨a,rfl⟩:=ZoC σ rs l' h2
  exact ⟨by rw[List.all_cons,Bool.and_eq_true];exact ⟨rfl,a⟩,rfl⟩
def retT (T:Tab) (κ:List Kd) (σ:List PV) (sh:List (Option Nat)) (ks:List CK) (rs:List ResultVar):Option PV:=
 match ZtQ κ rs with
 |some (sh',ks')=>if rs.length≠1∧(rs.map Zdv).Nodup∧sh'=sh∧ks'.length=ks.length∧(List.zipWith ZlY ks' ks).all id=true∧rs.all (Zwb T κ)=true∧(rs.all fun rv=>match rv with|.tmp t=>decide (kd κ t≠.ck .none)|.cell _ _=>true)=true then (ZxU σ rs).bind fun l=>some (.tup l) else none
 |none=>none
def ZxV :List Kd→Bool
 |k::_=>k.isBox
 |[]=>false
def valRk :Kd→Bool
 |.ck .val=>true
 |.grp true ks=>ks.all (·=.val)
 |_=>false
def ZqC (T:Tab) (K0:Option Kd) (rk:Kd) (rs:List ResultVar):Knt PV
 |.exit _,_,_,_=>none
 | _,κ,_,σ=>
  match K0 with
  | none=>match rk with
   |.box _ _=>ZzY κ σ rk rs
   |.tgr sh ks=>retT T κ σ sh ks rs
   |_=>(retC T rk rs κ σ).map (·.2)
  |some K=>if valRk rk=true then (retC T rk rs κ σ).bind fun p=>if Zg2 (kd p.1 0) K=true then some (.tup [p.2,vl σ 0]) else none else none
def ZtR (ps:List Kd):Option Kd:=match ZxV ps with|true=>some (ps.headD (.ck .none))|false=>none
noncomputable def ZlN (T:Tab) (G:List Ent) (H:ZnI) (fn:Func) (ps:List Kd) (rk:Kd) (xs:List PV):Option PV:=
 match fn.body with
 |none=>none
 | some c=>
  if xs.length=ps.length∧(ps.all fun k=>k.dep.isNone)=true∧(!ZxV ps||Zhl 0 c)=true then
   fcL (ps++List.replicate (fn.ntmps - ps.length) (.ck .none)) fun κ=>fcS (xs++List.replicate (fn.ntmps - ps.length) .undef) fun σ=>Zhp T G H 1 c κ [] σ (ZqC T (ZtR ps) rk fn.results.toList)
  else none
section
variable {P :Program} {T:Tab} {G:List Ent}
theorem ArgsR.lens {w:World} {F:Nat→Prop} {ks:List Kd} {xs:List PV} {vs:List Value} (h:ArgsR w F ks xs vs):ks.length=xs.length∧vs.length=xs.length:=by
 induction h with
 |nil=>exact ⟨rfl,rfl⟩
 |cons _ _ _ ih=>simp[ih.1,ih.2]
theorem ArgsR.at {w:World} {F:Nat→Prop} {ks:List Kd} {xs:List PV} {vs:List Value} (h:ArgsR w F ks xs vs):∀i,i<xs.length→SR w F (ks.getD i (.ck .none)) (xs.getD i .undef) (vs.getD i Go.undef) []:=by
 induction h with
 |nil=>intro i hi;simp at hi
 | cons h hu ht ih=>
  intro i hi
  cases i with
  |zero=>simpa using h
  |succ i=>simpa using ih i (by simpa using hi)
theorem St.entryB {w:World} {F:Nat→Prop} {ps:List Kd} {xs:List PV} {vs:List Value} {n:Nat} {l0:List Nat} (hF:∀b,F b→b<w.heap.size) (hl:ps.length=xs.length∧vs.length=xs.length)
 (h:∀i,i<xs.length→SR w F (ps.getD i (.ck .none)) (xs.getD i .undef) (vs.getD i Go.undef) (if i=0 then l0 else [])) (hl0:xs=[]→l0=[]) (hn0:l0.Nodup) (hp0:∀b∈l0,b<w.heap.size∧¬F b) (hd:(ps.all fun k=>k.dep.isNone)=true):
 St w F l0 (ps++List.replicate n (.ck .none)) (xs++List.replicate n .undef) (vs.toArray++Array.replicate n Go.undef) w F (fun s=>if s=0 then l0 else []):=by
 have hk:∀s,kd (ps++List.replicate n (.ck .none)) s=if s<xs.length then ps.getD s (.ck .none) else .ck .none:=by
  intro s
  unfold kd
  rw[List.getD_eq_getElem?_getD,List.getElem?_append]
  by_cases hs:s<xs.length
  ·rw[if_pos (by omega),if_pos hs,List.getD_eq_getElem?_getD]
  ·rw[if_neg (by omega),if_neg hs,List.getElem?_replicate]
   split<;>rfl
 have hv:∀s,s<xs.length→vl (xs++List.replicate n .undef) s=xs.getD s .undef:=by
  intro s hs
  unfold vl
  rw[List.getD_eq_getElem?_getD,List.getElem?_append,if_pos hs,List.getD_eq_getElem?_getD]
 have ht:∀s,s<xs.length→tv (vs.toArray++Array.replicate n Go.undef) s=vs.getD s Go.undef:=by
  intro s hs
  unfold tv
  rw[Array.getD_eq_getD_getElem?,Array.getElem?_append,if_pos (by simp;omega),List.getD_eq_getElem?_getD]
  simp
 have hdep:∀s,(kd (ps++List.replicate n (.ck .none)) s).dep=none:=by
  intro s
  rw[hk]
  split
  ·rw[List.getD_eq_getElem?_getD]
   cases hp:ps[s]? with
   |none=>rfl
   |some k=>simpa using List.all_eq_true.1 hd k (List.mem_of_getElem? hp)
  ·rfl
 refine {lk:= ?_,ls:= ?_,sr:=fun s=> ?_,al:=fun s _=>Zey (hdep s) _ _,bx:=fun s q hq=> ?_,dj:=fun s t b hst hs ht=> ?_,pr:=fun s b hb=> ?_,fl:=hF,os:=rfl,tape:=rfl,output:=rfl,size:=Nat.le_refl _,kept:=fun _ _ _=>rfl,stay:=Stays.refl _ _,fnew:=fun b hb=>.inl hb}
 ·simp[hl.1,hl.2]
 ·simp[hl.2]
 ·rw[hk]
  by_cases hs:s<xs.length
  ·rw[if_pos hs,hv s hs,ht s hs]
   refine ⟨_, ?_,fun b hb=>hb,h s hs⟩
   split
   ·exact hn0
   ·exact List.nodup_nil
  ·rw[if_neg hs]
   exact ⟨[],List.nodup_nil,by simp,rfl⟩
 ·have:=Za1 hq;rw[hdep s] at this;cases this
 ·split at hs
  ·split at ht
   ·omega
   ·cases ht
  ·cases hs
 ·split at hb
  ·exact ⟨(hp0 b hb).1,(hp0 b hb).2,.inr hb⟩
  ·cases hb
theorem St.entry {w:World} {F:Nat→Prop} {ps:List Kd} {xs:List PV} {vs:List Value} {n:Nat} (hF:∀b,F b→b<w.heap.size) (h:ArgsR w F ps xs vs) (hd:(ps.all fun k=>k.dep.isNone)=true):
 St w F [] (ps++List.replicate n (.ck .none)) (xs++List.replicate n .undef) (vs.toArray++Array.replicate n Go.undef) w F (fun s=>if s=0 then [] else []):=
 St.entryB hF h.lens (fun i hi=>by have:=h.at i hi;split<;>exact this) (fun _=>rfl) List.nodup_nil (by simp) hd
def Zhm (tmps:Array Value):ResultVar→Sem Value
 |.tmp t=>pure (tmps.getD t undef)
 |.cell a t=>do loadVar t (←asAddr (tmps.getD a undef))
inductive ResR (P:Program) (tmps:Array Value) (w:World):List ResultVar→List Value→Prop
 |nil:ResR P tmps w [] []
 |cons {rv:ResultVar} {v:Value} {rs:List ResultVar} {vs:List Value} (h:(Zhm tmps rv).run P w=.ok v w) (ht:ResR P tmps w rs vs):ResR P tmps w (rv::rs) (v::vs)
theorem ResR.run {tmps:Array Value} {w:World} {rs:List ResultVar} {vs:List Value} (h:ResR P tmps w rs vs):(rs.mapM (Zhm tmps)).run P w=.ok vs w:=by
 induction h with
 |nil=>rfl
 |cons h ht ih=>simp[List.mapM_cons,h,ih]
theorem ZiK {fn:Func} {tmps:Array Value} {w:World} {vs:List Value} (h:ResR P tmps w fn.results.toList vs):(results fn tmps).run P w=.ok (if h:vs.toArray.size=1 then vs.toArray[0] else .tuple vs.toArray) w:=by
 have h1:=h.run
 have h2:(fn.results.mapM (Zhm tmps)).run P w=.ok vs.toArray w:=by
  have e:fn.results=fn.results.toList.toArray:=by simp
  rw[e,List.mapM_toArray]
  simp[h1]
 have e:results fn tmps=(do let vs←fn.results.mapM (Zhm tmps);pure (if h:vs.size=1 then vs[0] else .tuple vs)):=by
  unfold results
  congr 1
 rw[e]
 simp only[Sem.run_bind,h2,Result.andThen_ok]
 try rfl
theorem ZtS (hT:Zad P T) {w0:World} {F0:Nat→Prop} {X0:List Nat} {κ:List Kd} {σ:List PV} {tmps:Array Value} {w:World} {F:Nat→Prop} {fp:Nat→List Nat} (h:St w0 F0 X0 κ σ tmps w F fp) {want:CK} {rv:ResultVar} (hf:ZlM T κ want rv=true):
 ∃(v:Value) (l:List Nat),(Zhm tmps rv).run P w=.ok v w∧CR w F want (ZqB σ rv) v l∧l.Nodup∧∀b∈l,b∈fp (Zdv rv):=by
 cases rv with
 | tmp t=>
  obtain ⟨l,hn,hsub,hsr⟩:=h.sr t
  have hrun:(Zhm tmps (.tmp t)).run P w=.ok (tv tmps t) w:=rfl
  unfold ZlM at hf
  dsimp only at hf
  split at hf
  ·rename_i hk
   rw[hk] at hsr
   exact ⟨_,l,hrun,hsr,hn,hsub⟩
  ·rename_i hk
   rw[hk] at hsr
   obtain ⟨h1,h2⟩:=CR.vr (k:=.nil) hsr (.inr rfl)
   subst h2
   exact ⟨_,[],hrun,⟨h1,rfl⟩,List.nodup_nil,by simp⟩
  ·rename_i e sz hk
   rw[hk] at hsr
   obtain ⟨h1,h2,h3⟩:=hsr
   subst h3
   exact ⟨_,[],hrun,⟨[],h1,.inl ⟨h2,rfl,rfl⟩⟩,List.nodup_nil,by simp⟩
  ·rename_i a e sz c _ hk
   have hc:c=.own a e sz:=by simpa using hf
   rw[hc] at hk
   rw[hk] at hsr
   exact ⟨_,l,hrun,hsr,hn,hsub⟩
  ·cases hf
 | cell t ty=>
  unfold ZlM at hf
  dsimp only at hf
  split at hf
  case h_2=>cases hf
  rename_i TT ks ti hk hty
  simp only[Bool.and_eq_true,decide_eq_true_eq] at hf
  obtain ⟨⟨hagg,hlen⟩,hall⟩:=hf
  obtain ⟨ht⟩:=hT.ty hty
  obtain ⟨l,hn,hsub,hsr⟩:=h.sr t
  rw[hk] at hsr
  obtain ⟨b,cs,xs,fps,e1,e2,e3,e4,rfl⟩:=hsr
  have hlens:=e4.lens
  have hload:=Zl6 (P:=P) (w:=w) ht hagg (b:=b) (off:=0) cs.toList (by rw[hlens.2.1];omega) (fun j v hj=>by rw[Nat.zero_add,cell_of_row w b j cs TT (0,0) e3];simpa using hj)
  refine ⟨.agg cs,[], ?_,⟨?_,rfl⟩,List.nodup_nil,by simp⟩
  ·have e1':tmps.getD t undef=.pointer (some ⟨b,0,none⟩):=e1
   have h1:(Instr.loadAt ty (.pointer (some ⟨b,0,none⟩))).run P w=(loadVar ty ⟨b,0,none⟩).run P w:=by simp[Instr.loadAt,Instr.sureAddr]
   rw[h1] at hload
   simp[Zhm,e1',asAddr,hload]
  ·show VR w F (vl σ t) (.agg cs)
   rw[e2]
   refine VR.of_cells (by have:=hlens.2.1;simp at this;omega) fun i x hx=> ?_
   obtain ⟨k,v,f,g1,g2,g3,g4,g5⟩:=e4.at i x hx
   have hkv:ckV k=true:=List.all_eq_true.1 hall k (List.mem_of_getElem? g1)
   have:cs.getD i Go.undef=v:=by
    have:cs[i]?=some v:=by simpa using g2
    simp[Array.getD_eq_getD_getElem?,this]
   rw[this]
   exact ⟨g5 rfl,(ZjU g4 hkv).1⟩
theorem ZxW (hT:Zad P T) {w0:World} {F0:Nat→Prop} {X0:List Nat} {κ:List Kd} {σ:List PV} {tmps:Array Value} {w:World} {F:Nat→Prop} {fp:Nat→List Nat} (h:St w0 F0 X0 κ σ tmps w F fp):∀(ws:List CK) (rs:List ResultVar),ws.length=rs.length→(rs.map Zdv).Nodup→((ws.zip rs).all fun p=>ZlM T κ p.1 p.2)=true→
 ∃(vs:List Value) (fps:List (List Nat)),ResR P tmps w rs vs∧GrpR w F false ws (rs.map (ZqB σ)) vs fps∧fps.flatten.Nodup∧(∀b∈fps.flatten,∃rv∈rs,b∈fp (Zdv rv))
 |[],[],_,_,_=>⟨[],[],.nil,.nil,by simp,by simp⟩
 | k ::ws,rv::rs,hl,hn,hf=>by
  simp only[List.zip_cons_cons,List.all_cons,Bool.and_eq_true] at hf
  simp only[List.map_cons,List.nodup_cons] at hn
  obtain ⟨v,l,h1,h2,h3,h4⟩:=ZtS hT h hf.1
  obtain ⟨vs,fps,g1,g2,g3,g4⟩:=ZxW hT h ws rs (by simpa using hl) hn.2 hf.2
  refine ⟨v::vs,l::fps,.cons h1 g1,.cons h2 (fun hc=>by cases hc) g2, ?_,fun b hb=> ?_⟩
  ·simp only[List.flatten_cons]
   refine List.nodup_append.2 ⟨h3,g3,fun x hx y hy e=> ?_⟩
   subst e
   obtain ⟨rv',hm,hb⟩:=g4 x hy
   refine h.dj (Zdv rv) (Zdv rv') x (fun e=>hn.1 ?_) (h4 x hx) hb
   rw[e];exact List.mem_map.2 ⟨rv',hm,rfl⟩
  ·simp only[List.flatten_cons,List.mem_append] at hb
   rcases hb with hb|hb
   ·exact ⟨rv,List.mem_cons_self,h4 b hb⟩
   ·obtain ⟨rv',hm,hb⟩:=g4 b hb
    exact ⟨rv',List.mem_cons_of_mem _ hm,hb⟩
 |[],_::_,hl,_,_=>by simp at hl
 |_::_,[],hl,_,_=>by simp at hl
theorem ZkO (hT:Zad P T) {fn:Func} {w0:World} {F0:Nat→Prop} {X0:List Nat} {κ κ1:List Kd} {σ:List PV} {tmps:Array Value} {w:World} {F:Nat→Prop} {fp:Nat→List Nat} {rk:Kd} {r:PV} (h:St w0 F0 X0 κ σ tmps w F fp) (hr:retC T rk fn.results.toList κ σ=some (κ1,r)):
 ∃(v:Value) (F1:Nat→Prop) (fp1:Nat→List Nat) (l:List Nat),St w0 F0 X0 κ1 σ tmps w F1 fp1∧(results fn tmps).run P w=.ok v w∧l.Nodup∧SR w F1 rk r v l∧∀b∈l,∃s,b∈fp1 s:=by
 unfold retC at hr
 dsimp only at hr
 rw[ZoB] at hr
 split at hr
 case isFalse=>cases hr
 rename_i hws
 split at hr
 ·cases hr
 rename_i κ2 hgh
 split at hr
 case isFalse=>cases hr
 rename_i hfit
 obtain ⟨r',h4,hr⟩:=Option.map_eq_some_iff.1 hr
 simp only[Prod.mk.injEq] at hr
 obtain ⟨rfl,rfl⟩:=hr
 obtain ⟨F1,fp1,g1,g2,g3,g4⟩:=Zg3 _ κ κ2 F fp h hgh
 obtain ⟨vs',fps,m1,m2,m3,m4⟩:=ZxW hT g1 (ZxT rk) fn.results.toList hws.1 hws.2.1 hfit
 have hlens:=m2.lens
 have hone:=hws.2.2
 refine ⟨_,F1,fp1,fps.flatten,g1,ZiK m1,m3, ?_,fun b hb=>by obtain ⟨rv,_,hb⟩:=m4 b hb;exact ⟨_,hb⟩⟩
 have key:∀(l:List PV),fn.results.toList.map (ZqB σ)=l→ZiJ rk l=some r'→GrpR w F1 false (ZxT rk) l vs' fps→SR w F1 rk r' (if h:vs'.toArray.size=1 then vs'.toArray[0] else .tuple vs'.toArray) fps.flatten:=by
  intro l hl h4 m2
  cases rk with
  | ck c=>
   cases l with
   |nil=>simp[ZiJ] at h4
   | cons x t=>
    cases t with
    | nil=>
     simp only[ZiJ,Option.some.injEq] at h4
     subst h4
     have m2':GrpR w F1 false [c] [x] vs' fps:=m2
     cases m2' with
     | cons hcr ho ht=>
      cases ht
      have hcr':SR w F1 (.ck c) x _ _:=hcr
      simpa using hcr'
    |cons _ _=>simp[ZiJ] at h4
  | grp b ks=>
   cases b with
   |false=>simp[ZiJ] at h4
   | true=>
    simp only[ZiJ,Option.some.injEq] at h4
    subst h4
    have m2':GrpR w F1 false ks l vs' fps:=m2
    have hlen1:vs'.toArray.size≠1:=by
     have h1:ks.length≠1:=fun e=>by simp[oneRk,ZxT,e] at hone
     have h2:ks.length=l.length:=m2'.lens.1
     have h3:vs'.length=l.length:=m2'.lens.2.1
     simp only[List.size_toArray]
     omega
    rw[dif_neg hlen1]
    exact ⟨vs'.toArray,_,fps,rfl,rfl,by simpa using m2',rfl⟩
  |_=>simp[ZiJ] at h4
 exact key _ rfl h4 m2
theorem ZnE {fn:Func} {w0:World} {F0:Nat→Prop} {X0:List Nat} {κ:List Kd} {σ:List PV} {tmps:Array Value} {w:World} {F:Nat→Prop} {fp:Nat→List Nat} {rk:Kd} {r:PV} (h:St w0 F0 X0 κ σ tmps w F fp) (hr:ZzY κ σ rk fn.results.toList=some r):
 ∃(v:Value) (l:List Nat),(results fn tmps).run P w=.ok v w∧l.Nodup∧SR w F rk r v l∧∀b∈l,∃s,b∈fp s:=by
 unfold ZzY at hr
 split at hr
 case h_2=>cases hr
 rename_i t hrs
 split at hr
 case isFalse=>cases hr
 rename_i hc
 cases hr
 simp only[Bool.and_eq_true,Bool.not_eq_true'] at hc
 obtain ⟨⟨⟨hb,hK⟩,hwk⟩,hu⟩:=hc
 have hv:tv tmps (bxq κ t)=tv tmps t:=by
  unfold bxq
  split
  ·rename_i q' hk
   have hal:=h.al t (fun e=>by rw[e] at hu;cases hu)
   rw[hk] at hal
   exact hal
  ·rfl
 obtain ⟨l,h1,h2,h3⟩:=h.sr (bxq κ t)
 obtain ⟨l',g1,g2,g3⟩:=ZiR hwk h1 h3
 refine ⟨_,l',ZiK (fn:=fn) (vs:=[tv tmps t]) (by rw[hrs];exact .cons rfl .nil),g1, ?_,fun b hb=>⟨_,h2 b (g2 b hb)⟩⟩
 rw[hv] at g3
 simpa using g3
theorem Zwc (x:PV) (xs:List PV):ZeR (x::xs)=x.cells++ZeR xs:=rfl
theorem Zwd (v:Value) (vs:List Value):Zfd (v::vs)=v.cells.toList++Zfd vs:=rfl
theorem CR.cells1 {w:World} {F:Nat→Prop} {k:CK} {x:PV} {v:Value} {l:List Nat} (h:CR w F k x v l) (hx:x.one=true) (hk:k≠.none):v.cells= #[v]:=by
 cases k with
 |none=>exact absurd rfl hk
 |val=>exact h.1.oneCell hx
 |nil=>obtain ⟨_,rfl,_⟩:=h;rfl
 | own app e sz=>
  obtain ⟨l0,rfl,hr⟩:=h
  obtain ⟨A,c,rfl⟩:=hr.slice_eq
  rfl
theorem ZnF (hT:Zad P T) {w0:World} {F0:Nat→Prop} {X0:List Nat} {κ:List Kd} {σ:List PV} {tmps:Array Value} {w:World} {F:Nat→Prop} {fp:Nat→List Nat} (h:St w0 F0 X0 κ σ tmps w F fp):∀(rs:List ResultVar) (sh:List (Option Nat)) (ks:List CK),(rs.map Zdv).Nodup→ZtQ κ rs=some (sh,ks)→rs.all (Zwb T κ)=true→rs.all (oneT σ)=true→(∀rv∈rs,∀t,rv=.tmp t→kd κ t≠.ck .none)→
 ∃(vs:List Value) (fps:List (List Nat)),ResR P tmps w rs vs∧vs.length=rs.length∧ZqM sh (rs.map (ZqB σ)) vs∧GrpR w F true ks (ZeR (rs.map (ZqB σ))) (Zfd vs) fps∧fps.flatten.Nodup∧∀b∈fps.flatten,∃rv∈rs,b∈fp (Zdv rv)
 | [],sh,ks,_,hs,_,_,_=>by
  simp only[ZtQ,Option.some.injEq,Prod.mk.injEq] at hs
  obtain ⟨rfl,rfl⟩:=hs
  exact ⟨[],[],.nil,rfl,trivial,.nil,by simp,by simp⟩
 | rv ::rs,sh,ks,hn,hs,hc,ho,hnn=>by
  simp only[ZtQ] at hs
  split at hs
  case h_2=>cases hs
  rename_i c k sh1 ks1 h1 h2
  simp only[Option.some.injEq,Prod.mk.injEq] at hs
  obtain ⟨rfl,rfl⟩:=hs
  simp only[List.map_cons,List.nodup_cons] at hn
  simp only[List.all_cons,Bool.and_eq_true] at hc ho
  obtain ⟨vs,fps,g1,g2,g3,g4,g5,g6⟩:=ZnF hT h rs sh1 ks1 hn.2 h2 hc.2 ho.2 (fun rv' hm=>hnn rv' (List.mem_cons_of_mem _ hm))
  have one:∃(v:Value) (fp1:List (List Nat)),(Zhm tmps rv).run P w=.ok v w∧ZqM (c::sh1) (ZqB σ rv::rs.map (ZqB σ)) (v::vs)∧GrpR w F true k (ZqB σ rv).cells v.cells.toList fp1∧fp1.flatten.Nodup∧∀b∈fp1.flatten,b∈fp (Zdv rv):=by
   cases rv with
   | tmp t=>
    simp only[resT] at h1
    split at h1
    case h_2=>cases h1
    rename_i ck hk
    simp only[Option.some.injEq,Prod.mk.injEq] at h1
    obtain ⟨rfl,rfl⟩:=h1
    obtain ⟨l,m1,m2,m3⟩:=h.sr t
    rw[hk] at m3
    have hone:(vl σ t).one=true:=ho.1
    have hne:ck≠.none:=fun e=>hnn _ List.mem_cons_self t rfl (by rw[hk,e])
    have hcl:=CR.cells1 m3 hone hne
    refine ⟨tv tmps t,[l],rfl,⟨hone,hcl,g3⟩, ?_,by simpa using m1,fun b hb=>m2 b (by simpa using hb)⟩
    show GrpR w F true [ck] (vl σ t).cells (tv tmps t).cells.toList [l]
    rw[hcl,ZmV hone]
    exact .cons m3 (fun _=>hone) .nil
   | cell t ty=>
    simp only[resT] at h1
    split at h1
    case h_2=>cases h1
    rename_i TT kk hk
    simp only[Option.some.injEq,Prod.mk.injEq] at h1
    obtain ⟨rfl,rfl⟩:=h1
    have hct:=hc.1
    simp only[Zwb,hk] at hct
    split at hct
    case h_2=>cases hct
    rename_i ks0 ti e0 hty
    cases e0
    simp only[Bool.and_eq_true,decide_eq_true_eq] at hct
    obtain ⟨ht⟩:=hT.ty hty
    obtain ⟨l,m1,m2,m3⟩:=h.sr t
    rw[hk] at m3
    obtain ⟨b,cs,xs,fps1,e1,e2,e3,e4,rfl⟩:=m3
    have hlens:=e4.lens
    have hload:=Zl6 (P:=P) (w:=w) ht hct.1 (b:=b) (off:=0) cs.toList (by rw[hlens.2.1];omega) (fun j v hj=>by rw[Nat.zero_add,cell_of_row w b j cs TT (0,0) e3];simpa using hj)
    have e1':tmps.getD t undef=.pointer (some ⟨b,0,none⟩):=e1
    refine ⟨.agg cs,fps1, ?_,⟨⟨xs,cs,e2,rfl,by omega,by have:=hlens.2.1;simp at this;omega⟩,g3⟩, ?_,(List.nodup_cons.1 m1).2,fun c hc=>m2 c (List.mem_cons_of_mem _ hc)⟩
    ·have h1:(Instr.loadAt ty (.pointer (some ⟨b,0,none⟩))).run P w=(loadVar ty ⟨b,0,none⟩).run P w:=by simp[Instr.loadAt,Instr.sureAddr]
     rw[h1] at hload
     simp[Zhm,e1',asAddr,hload]
    ·show GrpR w F true kk (vl σ t).cells (Value.agg cs).cells.toList fps1
     rw[e2]
     exact e4
  obtain ⟨v,fp1,m1,m2,m3,m4,m5⟩:=one
  refine ⟨v::vs,fp1++fps,.cons m1 g1,by simp[g2],m2, ?_, ?_,fun b hb=> ?_⟩
  ·simp only[List.map_cons,Zwc,Zwd]
   exact m3.append g4
  ·rw[List.flatten_append]
   refine List.nodup_append.2 ⟨m4,g5,fun x hx y hy e=> ?_⟩
   subst e
   obtain ⟨rv',hm,hb⟩:=g6 x hy
   refine h.dj (Zdv rv) (Zdv rv') x (fun e=>hn.1 ?_) (m5 x hx) hb
   rw[e];exact List.mem_map.2 ⟨rv',hm,rfl⟩
  ·rw[List.flatten_append,List.mem_append] at hb
   rcases hb with hb|hb
   ·exact ⟨rv,List.mem_cons_self,m5 b hb⟩
   ·obtain ⟨rv',hm,hb⟩:=g6 b hb
    exact ⟨rv',List.mem_cons_of_mem _ hm,hb⟩
theorem ZoD (hT:Zad P T) {fn:Func} {w0:World} {F0:Nat→Prop} {X0:List Nat} {κ:List Kd} {σ:List PV} {tmps:Array Value} {w:World} {F:Nat→Prop} {fp:Nat→List Nat} {sh:List (Option Nat)} {ks:List CK} {r:PV} (h:St w0 F0 X0 κ σ tmps w F fp) (hr:retT T κ σ sh ks fn.results.toList=some r):
 ∃(v:Value) (l:List Nat),(results fn tmps).run P w=.ok v w∧l.Nodup∧SR w F (.tgr sh ks) r v l∧∀b∈l,∃s,b∈fp s:=by
 unfold retT at hr
 split at hr
 case h_2=>cases hr
 rename_i sh' ks' hs
 split at hr
 case isFalse=>cases hr
 rename_i hc
 obtain ⟨c1,c2,rfl,c4,c5,c6,c8⟩:=hc
 obtain ⟨l1,hl1,hr⟩:=Option.bind_eq_some_iff.1 hr
 cases hr
 obtain ⟨c7,rfl⟩:=ZoC _ _ _ hl1
 rw[ZoB]
 obtain ⟨vs,fps,g1,g2,g3,g4,g5,g6⟩:=ZnF hT h _ _ _ c2 hs c6 c7 (fun rv hm t e hk=>by
  have:=List.all_eq_true.1 c8 rv hm
  subst e
  simp[hk] at this)
 obtain ⟨fps',m1,m2,m3⟩:=weakG c4 c5 g5 g4
 have hsz:vs.toArray.size≠1:=by simp only[List.size_toArray];omega
 refine ⟨_,fps'.flatten,ZiK g1,m1, ?_,fun b hb=>by obtain ⟨rv,_,hb⟩:=g6 b (m2 b hb);exact ⟨_,hb⟩⟩
 rw[dif_neg hsz]
 exact ⟨vs.toArray,_,fps',rfl,rfl,by simpa using g3,by simpa using m3,rfl⟩
theorem Zwe {w:World} {F:Nat→Prop} {ps:List Kd} {xs:List PV} {vs:List Value} (h:ArgsR w F ps xs vs):ZxV ps=false:=by
 cases h with
 |nil=>rfl
 | @cons k x v ks xs vs h hu ht=>
  cases k with
  |box T ks=>obtain ⟨b,cs,ys,fps,_,_,_,_,h5⟩:=h;cases h5
  |_=>rfl
theorem SR.valRk {w:World} {F:Nat→Prop} {rk:Kd} {x:PV} {v:Value} {l:List Nat} (hv:valRk rk=true) (h:SR w F rk x v l):l=[]:=by
 unfold Go.Proofs.YtpceleehbpnchaaGreat.valRk at hv
 split at hv
 ·exact h.2
 ·rename_i ks
  obtain ⟨cs,xs,fps,_,_,hg,rfl⟩:=h
  have key:∀{ks:List CK} {xs:List PV} {vs:List Value} {fps:List (List Nat)},GrpR w F (!true) ks xs vs fps→(ks.all fun k=>decide (k=.val))=true→fps.flatten=[]:=by
   intro ks xs vs fps hg
   induction hg with
   |nil=>intro _;rfl
   | cons hc _ _ ih=>
    intro ha
    simp only[List.all_cons,Bool.and_eq_true,decide_eq_true_eq] at ha
    obtain ⟨rfl,ha⟩:=ha
    rw[List.flatten_cons,ih ha,hc.2]
    rfl
  exact key hg hv
 ·cases hv
theorem fn_ok {H:ZnI} (hT:Zad P T) (hG:∀e∈G,FnOk P e) (hm:P.follows .mixedOrders=true) {f:FuncId} {fn:Func} (hf:P.funcs[f]?=some fn) (hname:(fn.name== "runtime.NumGoroutine")=false) (hb:fn.body≠none) (ps:List Kd) (rk:Kd) (hrk:rk.dep=none∧rk≠.ck .none):
 FnOk P ⟨f,ps,rk,false,ZlN T G H fn ps rk⟩:=by
 refine ⟨fun args w=> ?_,hrk.1,fun w F xs vs r hF hargs hr=> ?_,fun _ _ _ _ hc=>absurd hc hrk.2,fun T0 ks rest hps w F x0 v0 l0 xs vs r y hF hn0 hp0 hx0 hargs hr=> ?_,fun t0 sz0 rest hps _ w F l v0 l0 xs vs r hF hn0 hp0 hx0 hargs hr=> ?_⟩
 ·have h1:fn.name≠ "runtime.NumGoroutine":=by simpa using hname
  simp[callFunc,hf,h1,hb]
 ·unfold ZlN at hr
  cases hc:fn.body with
  |none=>exact absurd hc hb
  | some c=>
   rw[hc] at hr
   dsimp only at hr
   split at hr
   case isFalse=>cases hr
   rename_i hlp
   simp only[ZfI,Zed] at hr
   have hhb:=Zwe hargs
   have hl:=hargs.lens
   refine calls_of_wp hf hc ?_
   have hst:=St.entry (n:=fn.ntmps - ps.length) hF hargs hlp.2.1
   have hsz:vs.toArray.size=ps.length:=by simp;omega
   have hsz':fn.ntmps - vs.toArray.size=fn.ntmps - ps.length:=by rw[hsz]
   rw[hsz']
   have h0:ZtR ps=none:=by unfold ZtR;rw[hhb]
   rw[h0] at hr
   refine ZkN (V:=none) hT hG hm c 1 _ [] _ _ (ZqC T none rk fn.results.toList) r _ w F _ _ hr hst (Off.refl _ _) ⟨rfl,fun _ _ hc=>by cases hc⟩ (fun _ _ hc=>by cases hc) ?_
   intro ctl κ' W' σ' a' w' F' fp' h1 h2 h3 h4
   have key:ZqC T none rk fn.results.toList .ret κ' W' σ'=some r→a'.defers=[]∧∃v,(results fn a'.tmps).run P w'=.ok v w'∧∃(v':Value) (F':Nat→Prop) (l:List Nat),Ending.returned v=.returned v'∧Adds w F w' F'∧l.Nodup∧SR w' F' rk r v' l∧(∀b∈l,w.heap.size≤b∧b<w'.heap.size∧¬F' b)∧(false=true→r.sc=true):=by
    intro h4
    have adds:∀{κ1:List Kd} {F1:Nat→Prop} {fp1:Nat→List Nat},St w F [] κ1 σ' a'.tmps w' F1 fp1→Adds w F w' F1:=fun g1=>
     ⟨g1.os,g1.tape,g1.output,g1.size,fun b hb=>g1.kept b hb (by simp),g1.stay.sub,fun b hb=>by rcases g1.fnew b hb with h|h|h;exact .inl h;exact .inr h;simp at h,g1.fl⟩
    have fresh:∀{κ1:List Kd} {F1:Nat→Prop} {fp1:Nat→List Nat} {l:List Nat},St w F [] κ1 σ' a'.tmps w' F1 fp1→(∀b∈l,∃s,b∈fp1 s)→∀b∈l,w.heap.size≤b∧b<w'.heap.size∧¬F1 b:=fun g1 hl b hb=>by
     obtain ⟨s,hb⟩:=hl b hb
     obtain ⟨k1,k2,k3⟩:=g1.pr _ b hb
     rcases k3 with k3|k3
     ·exact ⟨k3,k1,k2⟩
     ·simp at k3
    unfold ZqC at h4
    dsimp only at h4
    split at h4
    ·obtain ⟨v,l,g1,g2,g3,g4⟩:=ZnE (P:=P) h1 h4
     exact ⟨h3.1,v,g1,v,_,l,rfl,adds h1,g2,g3,fresh h1 g4,fun h=>by cases h⟩
    ·obtain ⟨v,l,g1,g2,g3,g4⟩:=ZoD hT h1 h4
     exact ⟨h3.1,v,g1,v,_,l,rfl,adds h1,g2,g3,fresh h1 g4,fun h=>by cases h⟩
    ·obtain ⟨p,hp,h4⟩:=Option.map_eq_some_iff.1 h4
     obtain ⟨κ1,r'⟩:=p
     dsimp only at h4
     subst h4
     obtain ⟨v,F1,fp1,l,g1,g2,g3,g4,g5⟩:=ZkO hT h1 hp
     exact ⟨h3.1,v,g2,v,F1,l,rfl,adds g1,g3,g4,fresh g1 g5,fun h=>by cases h⟩
   cases ctl with
   |normal=>exact key h4
   |exit id=>cases h4
   |ret=>exact key h4
 ·dsimp only at hps
  subst hps
  dsimp only at hr
  unfold ZlN at hr
  cases hc:fn.body with
  |none=>exact absurd hc hb
  | some c=>
   rw[hc] at hr
   dsimp only at hr
   split at hr
   case isFalse=>cases hr
   rename_i hlp
   simp only[ZfI,Zed] at hr
   have hl:=hargs.lens
   refine calls_of_wp hf hc ?_
   have hst:=St.entryB (n:=fn.ntmps - (Kd.box T0 ks::rest).length) (ps:=.box T0 ks::rest) (xs:=x0::xs) (vs:=v0::vs) (l0:=l0) hF (by simp[hl.1,hl.2]) (fun i hi=>by
    cases i with
    |zero=>simpa using hx0
    |succ i=>have:=hargs.at i (by simpa using hi);simpa using this) (fun h=>by cases h) hn0 hp0 hlp.2.1
   have hsz:(v0::vs).toArray.size=(Kd.box T0 ks::rest).length:=by simp;omega
   have hsz':fn.ntmps - (v0::vs).toArray.size=fn.ntmps - (Kd.box T0 ks::rest).length:=by rw[hsz]
   rw[hsz']
   have hnc:Zhl 0 c=true:=by simpa[ZxV,Kd.isBox] using hlp.2.2
   have h0:ZtR (.box T0 ks::rest)=some (.box T0 ks):=rfl
   rw[h0] at hr
   refine ZkN (V:=some (0,v0)) hT hG hm c 1 _ [] _ _ (ZqC T (some (.box T0 ks)) rk fn.results.toList) _ _ w F _ _ hr hst (Off.refl _ _) ⟨rfl,fun s v hc=> ?_⟩ (fun s v hc=>by cases hc;exact hnc) ?_
   ·cases hc
    show tv ((v0::vs).toArray++_) 0=v0
    simp[tv,Array.getD_eq_getD_getElem?,Array.getElem?_append]
   intro ctl κ' W' σ' a' w' F' fp' h1 h2 h3 h4
   have key:ZqC T (some (.box T0 ks)) rk fn.results.toList .ret κ' W' σ'=some (.tup [r,y])→a'.defers=[]∧∃v,(results fn a'.tmps).run P w'=.ok v w'∧ZAu w F l0 T0 ks rk v0 r y (.returned v) w':=by
    intro h4
    unfold ZqC at h4
    dsimp only at h4
    split at h4
    case isFalse=>cases h4
    rename_i hvr
    obtain ⟨p,hp,h4⟩:=Option.bind_eq_some_iff.1 h4
    obtain ⟨κ1,r'⟩:=p
    dsimp only at h4
    split at h4
    case isFalse=>cases h4
    rename_i hwk
    simp only[Option.some.injEq,PV.tup.injEq,List.cons.injEq,and_true] at h4
    obtain ⟨rfl,rfl⟩:=h4
    obtain ⟨v,F1,fp1,l,g1,g2,g3,g4,g5⟩:=ZkO hT h1 hp
    have hl0:=g4.valRk hvr
    subst hl0
    obtain ⟨l1,q1,q2,q3⟩:=g1.sr 0
    obtain ⟨l2,p1,p2,p3⟩:=ZiR hwk q1 q3
    have e0:tv a'.tmps 0=v0:=h3.2 0 v0 rfl
    rw[e0] at p3
    refine ⟨h3.1,v,g2,v,F1,l2,rfl,⟨g1.os,g1.tape,g1.output,g1.size⟩,fun b hb hn=>g1.kept b hb hn,g1.stay.sub,fun b hb=>g1.fnew b hb,g1.fl,p1,p3,fun b hb=> ?_,g4⟩
    obtain ⟨k1,k2,k3⟩:=g1.pr 0 b (q2 b (p2 b hb))
    exact ⟨k3.symm,k1,k2⟩
   cases ctl with
   |normal=>exact key h4
   |exit id=>cases h4
   |ret=>exact key h4
 ·dsimp only at hps
  subst hps
  dsimp only at hr
  unfold ZlN at hr
  cases hc:fn.body with
  |none=>exact absurd hc hb
  | some c=>
   rw[hc] at hr
   dsimp only at hr
   split at hr
   case isFalse=>cases hr
   rename_i hlp
   simp only[ZfI,Zed] at hr
   have hl:=hargs.lens
   refine calls_of_wp hf hc ?_
   have hst:=St.entryB (n:=fn.ntmps - (Kd.ck (.own true t0 sz0)::rest).length) (ps:=.ck (.own true t0 sz0)::rest) (xs:=.lst l::xs) (vs:=v0::vs) (l0:=l0) hF (by simp[hl.1,hl.2]) (fun i hi=>by
    cases i with
    |zero=>exact ⟨l,rfl,by simpa using hx0⟩
    |succ i=>have:=hargs.at i (by simpa using hi);simpa using this) (fun h=>by cases h) hn0 hp0 hlp.2.1
   have hsz:(v0::vs).toArray.size=(Kd.ck (.own true t0 sz0)::rest).length:=by simp;omega
   have hsz':fn.ntmps - (v0::vs).toArray.size=fn.ntmps - (Kd.ck (.own true t0 sz0)::rest).length:=by rw[hsz]
   rw[hsz']
   have h0:ZtR (.ck (.own true t0 sz0)::rest)=none:=rfl
   rw[h0] at hr
   refine ZkN (V:=none) hT hG hm c 1 _ [] _ _ (ZqC T none rk fn.results.toList) r _ w F _ _ hr hst (Off.refl _ _) ⟨rfl,fun _ _ hc=>by cases hc⟩ (fun _ _ hc=>by cases hc) ?_
   intro ctl κ' W' σ' a' w' F' fp' h1 h2 h3 h4
   have key:ZqC T none rk fn.results.toList .ret κ' W' σ'=some r→a'.defers=[]∧∃v,(results fn a'.tmps).run P w'=.ok v w'∧ZAv w F l0 rk r (.returned v) w':=by
    intro h4
    have fin:∀{κ1:List Kd} {F1:Nat→Prop} {fp1:Nat→List Nat} {lr:List Nat} {v:Value},St w F l0 κ1 σ' a'.tmps w' F1 fp1→lr.Nodup→SR w' F1 rk r v lr→(∀b∈lr,∃s,b∈fp1 s)→ZAv w F l0 rk r (.returned v) w':=fun g1 hn hr' hl=>
     ⟨_,_,_,rfl,⟨g1.os,g1.tape,g1.output,g1.size⟩,fun b hb hn=>g1.kept b hb hn,g1.stay.sub,fun b hb=>g1.fnew b hb,g1.fl,hn,hr',fun b hb=>by
      obtain ⟨s,hb⟩:=hl b hb
      obtain ⟨k1,k2,k3⟩:=g1.pr _ b hb
      exact ⟨k3.symm,k1,k2⟩⟩
    unfold ZqC at h4
    dsimp only at h4
    split at h4
    ·obtain ⟨v,lr,g1,g2,g3,g4⟩:=ZnE (P:=P) h1 h4
     exact ⟨h3.1,v,g1,fin h1 g2 g3 g4⟩
    ·obtain ⟨v,lr,g1,g2,g3,g4⟩:=ZoD hT h1 h4
     exact ⟨h3.1,v,g1,fin h1 g2 g3 g4⟩
    ·obtain ⟨p,hp,h4⟩:=Option.map_eq_some_iff.1 h4
     obtain ⟨κ1,r'⟩:=p
     dsimp only at h4
     subst h4
     obtain ⟨v,F1,fp1,lr,g1,g2,g3,g4,g5⟩:=ZkO hT h1 hp
     exact ⟨h3.1,v,g2,fin g1 g3 g4 g5⟩
   cases ctl with
   |normal=>exact key h4
   |exit id=>cases h4
   |ret=>exact key h4
def Zf (sc:Bool) (m:Option PV):Option PV:=match sc with|true=>m.bind fun r=>if r.sc=true then some r else none|false=>m
theorem fn_okS {H:ZnI} {sc:Bool} (hT:Zad P T) (hG:∀e∈G,FnOk P e) (hm:P.follows .mixedOrders=true) {f:FuncId} {fn:Func} (hf:P.funcs[f]?=some fn) (hname:(fn.name== "runtime.NumGoroutine")=false) (hb:fn.body.isSome=true) (ps:List Kd) (rk:Kd) (hrk:rk.dep=none∧rk≠.ck .none):
 FnOk P ⟨f,ps,rk,sc,fun xs=>Zf sc (ZlN T G H fn ps rk xs)⟩:=by
 have h:=fn_ok (H:=H) hT hG hm hf hname (fun e=>by rw[e] at hb;cases hb) ps rk hrk
 refine ⟨h.body,h.dep,fun w F xs vs r hF hargs hr=> ?_,fun _ _ _ _ hc=>absurd hc hrk.2,fun T0 ks rest hps w F x0 v0 l0 xs vs r y hF hn0 hp0 hx0 hargs hr=>h.ipb T0 ks rest hps w F x0 v0 l0 xs vs r y hF hn0 hp0 hx0 hargs ?_,fun t0 sz0 rest hps hr0 w F l v0 l0 xs vs r hF hn0 hp0 hx0 hargs hr=>h.mvc t0 sz0 rest hps hr0 w F l v0 l0 xs vs r hF hn0 hp0 hx0 hargs ?_⟩
 ·cases sc
  ·refine (h.call w F xs vs r hF hargs hr).mono fun en w' hp=> ?_
   obtain ⟨v,F',l,h1,h2,h3,h4,h5,_⟩:=hp
   exact ⟨v,F',l,h1,h2,h3,h4,h5,fun hc=>by cases hc⟩
  ·obtain ⟨r',hr',hr2⟩:=Option.bind_eq_some_iff.1 (show ((ZlN T G H fn ps rk xs).bind fun r=>if r.sc=true then some r else none)=some r from hr)
   split at hr2
   case isFalse=>cases hr2
   rename_i hsc
   cases hr2
   refine (h.call w F xs vs r hF hargs hr').mono fun en w' hp=> ?_
   obtain ⟨v,F',l,h1,h2,h3,h4,h5,_⟩:=hp
   exact ⟨v,F',l,h1,h2,h3,h4,h5,fun _=>hsc⟩
 ·cases sc
  ·exact hr
  ·obtain ⟨r',hr',hr2⟩:=Option.bind_eq_some_iff.1 (show ((ZlN T G H fn ps rk (x0::xs)).bind fun r=>if r.sc=true then some r else none)=some (.tup [r,y]) from hr)
   split at hr2
   case isFalse=>cases hr2
   cases hr2
   exact hr'
 ·cases sc
  ·exact hr
  ·obtain ⟨r',hr',hr2⟩:=Option.bind_eq_some_iff.1 (show ((ZlN T G H fn ps rk (.lst l::xs)).bind fun r=>if r.sc=true then some r else none)=some r from hr)
   split at hr2
   case isFalse=>cases hr2
   cases hr2
   exact hr'
def mvT (T:Tab) (l:List TypeId):Tab:=T++T.filter fun p=>l.contains p.1
theorem ZDx (h:Zad P T) (l:List TypeId):Zad P (mvT T l):=by
 intro t i hl
 refine h t i ?_
 unfold mvT at hl
 have key:∀(A B:Tab),(∀p∈B,∃q∈A,q.1=p.1)→(A++B).lookup t=some i→A.lookup t=some i:=by
  intro A B hB hl
  have e:∀A:Tab,(A++B).lookup t=match A.lookup t with|some x=>some x|none=>B.lookup t:=by
   intro A
   induction A with
   |nil=>rfl
   | cons p r ih=>
    simp only[List.cons_append,List.lookup]
    split
    ·rfl
    ·exact ih
  rw[e] at hl
  cases hA:A.lookup t with
  |some x=>rw[hA] at hl;exact hl
  | none=>
   rw[hA] at hl
   exfalso
   have hmem:∃p∈B,p.1=t:=by
    clear e hB
    induction B with
    |nil=>cases hl
    | cons p r ih=>
     simp only[List.lookup] at hl
     split at hl
     ·rename_i he;exact ⟨p,List.mem_cons_self,(eq_of_beq he).symm⟩
     ·obtain ⟨q,hq,he⟩:=ih hl;exact ⟨q,List.mem_cons_of_mem _ hq,he⟩
   obtain ⟨p,hp,hpt⟩:=hmem
   obtain ⟨q,hq,hqp⟩:=hB p hp
   have:∀A:Tab,q∈A→A.lookup t≠none:=by
    intro A
    induction A with
    |nil=>intro h;cases h
    | cons p' r ih=>
     intro hm hn
     simp only[List.lookup] at hn
     split at hn
     ·cases hn
     ·rename_i hne
      rcases List.mem_cons.1 hm with rfl|hm
      ·rw[hqp,hpt] at hne;simp at hne
      ·exact ih hm hn
   exact this A hq hA
 exact key T _ (fun p hp=>⟨p,(List.mem_filter.1 hp).1,rfl⟩) hl
abbrev kv :Kd:=.ck .val
abbrev ko :Kd:=.ck .none
noncomputable def mkE (T:Tab) (sc:Bool) (f:FuncId) (fn:Func) (ps:List Kd) (rk:Kd) (G:List Ent) (H:ZnI):Ent:=⟨f,ps,rk,sc,fun xs=>Zf sc (ZlN T G H fn ps rk xs)⟩
theorem gn :∀e∈([]:List Ent),FnOk P e:=by intro e he;cases he
theorem gc {e:Ent} {l:List Ent} (h:FnOk P e) (t:∀e∈l,FnOk P e):∀e'∈e::l,FnOk P e':=by
 intro e' he
 rcases List.mem_cons.1 he with rfl|he
 ·exact h
 ·exact t e' he
theorem Zh {T:Tab} {sc:Bool} {f:FuncId} {fn:Func} {ps:List Kd} {rk:Kd} {G:List Ent} {H:ZnI} (hT:Zad P T) (hm:P.follows .mixedOrders=true) (hG:∀e∈G,FnOk P e) (hf:P.funcs[f]?=some fn)
 (hb:(!(fn.name== "runtime.NumGoroutine")&&fn.body.isSome)=true) (hrk:rk.dep=none∧rk≠.ck .none):FnOk P (mkE T sc f fn ps rk G H):=by
 rw[Bool.and_eq_true,Bool.not_eq_true'] at hb
 exact fn_okS hT hG hm hf hb.1 hb.2 ps rk hrk
inductive VRl (w:World) (F:Nat→Prop):List PV→List Value→Prop
 |nil:VRl w F [] []
 |cons {x:PV} {v:Value} {xs:List PV} {vs:List Value} (h:VR w F x v) (t:VRl w F xs vs):VRl w F (x::xs) (v::vs)
theorem ZlO {w:World} {F:Nat→Prop}:∀{n:Nat} {xs:List PV} {vs:List Value},ArgsR w F (List.replicate n (.ck .val)) xs vs→VRl w F xs vs
 |0,_,_,h=>by cases h;exact .nil
 | n+1,_,_,h=>by
  cases h with
  |cons h _ t=>exact .cons h.1 (ZlO t)
theorem libOk {f:FuncId} {fn:Func} (hf:P.funcs[f]?=some fn) (hname:(fn.name== "runtime.NumGoroutine")=false) (hb:fn.body.isSome=true) (n:Nat) (spec:List PV→Option PV)
 (H:∀(w:World) (F:Nat→Prop) (xs:List PV) (vs:List Value) (r:PV),VRl w F xs vs→spec xs=some r→r.sc=true∧∃v,(∀w' F',VR w' F' r v)∧Calls P f vs.toArray w fun e w'=>e=.returned v∧Below w.heap.size w w'):
 FnOk P ⟨f,List.replicate n (.ck .val),.ck .val,true,spec⟩:=by
 refine ⟨fun args w=> ?_,rfl,fun w F xs vs r hF hargs hr=> ?_,fun _ _ _ _ hc=>(by cases hc),fun _ _ _ hc=>(by cases n<;>cases hc),fun _ _ _ hc=>(by cases n<;>cases hc)⟩
 ·have h1:fn.name≠ "runtime.NumGoroutine":=by simpa using hname
  have h2:fn.body≠none:=fun e=>by rw[e] at hb;cases hb
  simp[callFunc,hf,h1,h2]
 ·obtain ⟨hsc,v,hv,hc⟩:=H w F xs vs r (ZlO hargs) hr
  refine hc.mono fun en w' hp=> ?_
  obtain ⟨rfl,hb⟩:=hp
  exact ⟨v,F,[],rfl,⟨hb.os,hb.tape,hb.output,hb.size,hb.block,fun _ h=>h,fun _ h=>.inl h,fun b h=>Nat.lt_of_lt_of_le (hF b h) hb.size⟩,List.nodup_nil,⟨hv _ _,rfl⟩,by simp,fun _=>hsc⟩
end
theorem ZgB {α:Type} [DecidableEq α] (a b:α):(a==b)=decide (a=b):=by rw[Bool.eq_iff_iff];simp
abbrev pI (n:Int):PV:=.int .i64 n
abbrev pB (b:Bool):PV:=.bool b
abbrev pU (b:UInt8):PV:=.int .u8 (b.toNat:Int)
theorem ZaP {R α:Type} (enc:α→List PV) (m:α→Nat) (g:α→Option R) (f:(List PV→Option R)→List PV→Option R)
 (h:∀again a,(∀a',m a'<m a→again (enc a')=g a')→f again (enc a)=g a):∀(n:Nat) (a:α),m a<n→Zm f n (enc a)=g a:=by
 intro n
 induction n with
 |zero=>intro a ha;omega
 | succ n ih=>
  intro a ha
  rw[ZiU]
  show f (ZkW f n) (enc a)=g a
  refine h _ a fun a' ha'=> ?_
  have:=ih a' (by omega)
  rw[ZiU] at this
  exact this
theorem ZnG (m:Option PV):Zf true m=m.bind fun r=>if r.sc=true then some r else none:=(Eq.refl _).trans (Eq.refl _)
theorem ZlP (m:Option PV):Zf false m=m:=(Eq.refl _).trans (Eq.refl _)
theorem nth_0 (x:PV) (l:List PV):nth (x::l) 0=x:=(Eq.refl _).trans (Eq.refl _)
theorem nth_s (x:PV) (l:List PV) (n:Nat):nth (x::l) (n+1)=nth l n:=(Eq.refl _).trans (Eq.refl _)
theorem ZtT (sl:Option Nat) (k:Kd) (l:List PV) (y:PV):Zg ⟨.ck .val,k,sl⟩ ⟨.lst l,y⟩=some l:=(Eq.refl _).trans (Eq.refl _)
theorem Zaw {n:Int} (h: -9223372036854775808≤n) (h':n≤9223372036854775807):IntKind.i64.wrap n=n:=by rw[IntKind.wrap_i64];omega
theorem Zol {l:List PV} {k:IntKind} {i:Nat} {x:PV} (h:l[i]?=some x):Zk (.lst l) (.int k i)=some x:=by simp[Zk,h]
theorem Zq {s:List UInt8} {k:IntKind} {i:Nat} {b:UInt8} (h:s[i]?=some b):Zao (.str s) (.int k i)=some (pU b):=by simp[Zao,h]
theorem b_add (td:TD) (k:IntKind) (a b:Int):Zd .add td (.int k a) (.int k b)=some (.int k (k.wrap (a+b))):=by simp[Zd,Zdx,ZiV]
theorem b_sub (td:TD) (k:IntKind) (a b:Int):Zd .sub td (.int k a) (.int k b)=some (.int k (k.wrap (a - b))):=by simp[Zd,Zdx,ZiV]
theorem b_mul (td:TD) (k:IntKind) (a b:Int):Zd .mul td (.int k a) (.int k b)=some (.int k (k.wrap (a * b))):=by simp[Zd,Zdx,ZiV]
theorem ZxX (td:TD) (k:IntKind) (a b:Int):Zd .eql td (.int k a) (.int k b)=some (.bool (decide (a=b))):=by simp[Zd,Zdx,ZiV,ZgB]
theorem b_neq (td:TD) (k:IntKind) (a b:Int):Zd .neq td (.int k a) (.int k b)=some (.bool (!decide (a=b))):=by simp[Zd,Zdx,ZiV,bne,ZgB]
theorem b_lss (td:TD) (k:IntKind) (a b:Int):Zd .lss td (.int k a) (.int k b)=some (.bool (decide (a<b))):=by simp[Zd,Zdx,ZiV]
theorem b_leq (td:TD) (k:IntKind) (a b:Int):Zd .leq td (.int k a) (.int k b)=some (.bool (decide (a≤b))):=by simp[Zd,Zdx,ZiV]
theorem b_gtr (td:TD) (k:IntKind) (a b:Int):Zd .gtr td (.int k a) (.int k b)=some (.bool (decide (b<a))):=by simp[Zd,Zdx,ZiV]
theorem b_geq (td:TD) (k:IntKind) (a b:Int):Zd .geq td (.int k a) (.int k b)=some (.bool (decide (b≤a))):=by simp[Zd,Zdx,ZiV]
theorem ZzZ (td:TD) (a b:List UInt8):Zd .eql td (.str a) (.str b)=some (.bool (decide (a=b))):=by
 have h:(a==b)=decide (a=b):=by rw[Bool.eq_iff_iff];simp
 show some (PV.bool (a==b))=_
 rw[h]
theorem Zz0 (td:TD) (a b:List UInt8):Zd .neq td (.str a) (.str b)=some (.bool (!decide (a=b))):=by
 have h:(a==b)=decide (a=b):=by rw[Bool.eq_iff_iff];simp
 show some (PV.bool (!(a==b)))=_
 rw[h]
theorem Zz1 (td:TD) (a b:List UInt8):Zd .lss td (.str a) (.str b)=some (.bool (Op.bytesLess a b)):=(Eq.refl _).trans (Eq.refl _)
theorem Zz2 (a b:Bool):Zd .eql .bool (.bool a) (.bool b)=some (.bool (a==b)):=(Eq.refl _).trans (Eq.refl _)
theorem Zz3 (a b:Bool):Zd .neq .bool (.bool a) (.bool b)=some (.bool (!(a==b))):=(Eq.refl _).trans (Eq.refl _)
theorem u_not (b:Bool):unV .not (.bool b)=some (.bool (!b)):=(Eq.refl _).trans (Eq.refl _)
theorem asB_b (b:Bool):asB (.bool b)=some b:=(Eq.refl _).trans (Eq.refl _)
theorem gd_tt (m:Option PV):gdV (.bool true) true m=m:=(Eq.refl _).trans (Eq.refl _)
theorem gd_ff (m:Option PV):gdV (.bool false) false m=m:=(Eq.refl _).trans (Eq.refl _)
theorem gd_tf (m:Option PV):gdV (.bool true) false m=some .undef:=(Eq.refl _).trans (Eq.refl _)
theorem gd_ft (m:Option PV):gdV (.bool false) true m=some .undef:=(Eq.refl _).trans (Eq.refl _)
theorem gd_u (b:Bool) (m:Option PV):gdV .undef b m=some .undef:=(Eq.refl _).trans (Eq.refl _)
theorem Zsa (b:Bool):(PV.bool b).sc=true:=(Eq.refl _).trans (Eq.refl _)
theorem Zz4 (k:IntKind) (n:Int):(PV.int k n).sc=true:=(Eq.refl _).trans (Eq.refl _)
theorem Zz5 (s:List UInt8):(PV.str s).sc=true:=(Eq.refl _).trans (Eq.refl _)
theorem Zz6 (l:List PV):(PV.tup l).sc=l.all PV.sc1:=(Eq.refl _).trans (Eq.refl _)
theorem ZtU (b:Bool):(PV.bool b).sc1=true:=(Eq.refl _).trans (Eq.refl _)
theorem ZxY (k:IntKind) (n:Int):(PV.int k n).sc1=true:=(Eq.refl _).trans (Eq.refl _)
theorem ZxZ (s:List UInt8):(PV.str s).sc1=true:=(Eq.refl _).trans (Eq.refl _)
theorem ZtV (s:List UInt8):ZaL (.str s)=some (.int .i64 (s.length:Int)):=(Eq.refl _).trans (Eq.refl _)
theorem obs {α β:Type} (a:α) (f:α→Option β):(some a).bind f=f a:=(Eq.refl _).trans (Eq.refl _)
theorem oms {α β:Type} (a:α) (f:α→β):(some a).map f=some (f a):=(Eq.refl _).trans (Eq.refl _)
def rgo {R α:Type} (step:Nat→α→Option (Option R)) (e:Option R):Nat→List α→Option R
 |_,[]=>e
 |k,x::r=>match step k x with|some z=>z|none=>rgo step e (k+1) r
theorem Zsb {R α:Type} (l:List α) (step:Nat→α→Option (Option R)) (e:Option R) (f:(List PV→Option R)→List PV→Option R) (hl:l.length≤9223372036854775807)
 (h1:∀again k x,l[k]?=some x→f again [pI (Int.ofNat k)]=match step k x with|some z=>z|none=>again [pI (Int.ofNat (k+1))])
 (h2:∀again,f again [pI (Int.ofNat l.length)]=e):Zm f 18446744073709551616 [pI (Int.ofNat 0)]=rgo step e 0 l:=by
 have key:=ZaP (R:=R) (fun k:{k:Nat // k≤l.length}=>[pI (Int.ofNat k.1)]) (fun k=>l.length+1 - k.1) (fun k=>rgo step e k.1 (l.drop k.1)) f (fun again k ih=> ?_) 18446744073709551616 ⟨0,Nat.zero_le _⟩ (by simp only;omega)
 ·exact key
 ·obtain ⟨k,hkl⟩:=k
  dsimp only at ih⊢
  by_cases hk:k<l.length
  ·have hx:l[k]?=some l[k]:=List.getElem?_eq_getElem hk
   rw[h1 again k _ hx,List.drop_eq_getElem_cons hk]
   unfold rgo
   cases step k l[k] with
   |some z=>rfl
   | none=>
    show again _=rgo step e (k+1) (l.drop (k+1))
    exact ih ⟨k+1,hk⟩ (by simp only;omega)
  ·obtain rfl:k=l.length:=by omega
   rw[h2,List.drop_length]
   rfl
def ZM {α:Type} (good:Nat→α→Bool):Nat→List α→Bool
 |_,[]=>true
 |k,x::r=>good k x&&ZM good (k+1) r
theorem Zx0 {R α:Type} (good:Nat→α→Bool) (z e:Option R):∀(l:List α) (k:Nat),rgo (fun k x=>if good k x=true then none else some z) e k l=if ZM good k l=true then e else z
 |[],k=>by simp[rgo,ZM]
 | x::r,k=>by
  unfold rgo ZM
  cases good k x
  ·simp
  ·simp[Zx0 good z e r (k+1)]
theorem ZN {R α:Type} (l:List α) (good:Nat→α→Bool) (z e:Option R) (f:(List PV→Option R)→List PV→Option R) (hl:l.length≤9223372036854775807)
 (h1:∀again k x,l[k]?=some x→f again [pI (Int.ofNat k)]=if good k x=true then again [pI (Int.ofNat (k+1))] else z)
 (h2:∀again,f again [pI (Int.ofNat l.length)]=e):Zm f 18446744073709551616 [pI (Int.ofNat 0)]=if ZM good 0 l=true then e else z:=by
 rw[Zsb l (fun k x=>if good k x=true then none else some z) e f hl (fun again k x hx=> ?_) h2,Zx0]
 rw[h1 again k x hx]
 cases good k x<;>simp
theorem Zx1 (s:List UInt8):Zc 1 (.str s)=some [.str s]:=(Eq.refl _).trans (Eq.refl _)
theorem Zx2 (k:IntKind) (n:Int):Zc 1 (.int k n)=some [.int k n]:=(Eq.refl _).trans (Eq.refl _)
theorem ZtW (b:Bool):Zc 1 (.bool b)=some [.bool b]:=(Eq.refl _).trans (Eq.refl _)
theorem Zx3 (l:List PV):Zc 1 (.lst l)=some [.lst l]:=(Eq.refl _).trans (Eq.refl _)
theorem cw2 (a b:PV):Zc 2 (.agg [a,b])=some [a,b]:=(Eq.refl _).trans (Eq.refl _)
theorem cw3 (a b c:PV):Zc 3 (.agg [a,b,c])=some [a,b,c]:=(Eq.refl _).trans (Eq.refl _)
theorem cw4 (a b c d:PV):Zc 4 (.agg [a,b,c,d])=some [a,b,c,d]:=(Eq.refl _).trans (Eq.refl _)
theorem cw5 (a b c d e:PV):Zc 5 (.agg [a,b,c,d,e])=some [a,b,c,d,e]:=(Eq.refl _).trans (Eq.refl _)
theorem Zrr (l:List PV):PV.cells (.agg l)=l:=(Eq.refl _).trans (Eq.refl _)
theorem Zz7 {R:Type} (l:List PV) (x:Option R):Za [.agg l] x=x:=(Eq.refl _).trans (Eq.refl _)
theorem Zx4 {R:Type} (b:Bool) (x:Option R):Za [.bool b] x=x:=(Eq.refl _).trans (Eq.refl _)
theorem Zz8 {R:Type} (k:IntKind) (n:Int) (x:Option R):Za [.int k n] x=x:=(Eq.refl _).trans (Eq.refl _)
theorem pv_f0 (n:Nat) (a:PV) (l:List PV):Zb false 0 n (a::l)=some a:=(Eq.refl _).trans (Eq.refl _)
theorem pv_f1 (n:Nat) (a b:PV) (l:List PV):Zb false 1 n (a::b::l)=some b:=(Eq.refl _).trans (Eq.refl _)
theorem pv_f2 (n:Nat) (a b c:PV) (l:List PV):Zb false 2 n (a::b::c::l)=some c:=(Eq.refl _).trans (Eq.refl _)
theorem pv_f3 (n:Nat) (a b c d:PV) (l:List PV):Zb false 3 n (a::b::c::d::l)=some d:=(Eq.refl _).trans (Eq.refl _)
theorem pv_f4 (n:Nat) (a b c d e:PV) (l:List PV):Zb false 4 n (a::b::c::d::e::l)=some e:=(Eq.refl _).trans (Eq.refl _)
theorem ZK (a b:PV):Zb true 0 2 [a,b]=some (.agg [a,b]):=(Eq.refl _).trans (Eq.refl _)
theorem ZR (a b c:PV):Zb true 0 3 [a,b,c]=some (.agg [a,b,c]):=(Eq.refl _).trans (Eq.refl _)
theorem Zx5 (a b c d:PV):Zb true 0 4 [a,b,c,d]=some (.agg [a,b,c,d]):=(Eq.refl _).trans (Eq.refl _)
theorem Zz9 (T:TypeId) (ks:List CK) (k:Kd) (s:Option Nat) (v p:PV):Zfi (SV.mk (.box T ks) k s) (DV.mk v p)=v.cells:=(Eq.refl _).trans (Eq.refl _)
theorem ZAa (q o:Nat) (k:Kd) (s:Option Nat) (v p:PV):Zfi (SV.mk (.bxf q o) k s) (DV.mk v p)=p.cells:=(Eq.refl _).trans (Eq.refl _)
theorem sp2 (l a b:PV) (m:PV):splice [l,m] 0 [a,b]=[a,b]:=(Eq.refl _).trans (Eq.refl _)
theorem sp4 (a b c d a' b' c' d':PV):splice [a,b,c,d] 0 [a',b',c',d']=[a',b',c',d']:=(Eq.refl _).trans (Eq.refl _)
theorem zm (z:ZC) (l:List ZC):List.map (fun a=>ZC.pv a) (z::l)=z.pv::List.map (fun a=>ZC.pv a) l:=(Eq.refl _).trans (Eq.refl _)
theorem zn :List.map (fun a=>ZC.pv a) []=[]:=(Eq.refl _).trans (Eq.refl _)
theorem Zj {α:Type} {enc:α→PV} {l:List α} {k:IntKind} {i:Nat} {x:α} (h:l[i]?=some x):Zk (.lst (l.map enc)) (.int k (Int.ofNat i))=some (enc x):=Zol (by rw[List.getElem?_map,h];rfl)
theorem Zom {α:Type} {enc:α→PV} {n:Nat} {l:List α} {k:IntKind} {i:Nat} (hw:∀x,Zal n (enc x)=true) (h:i≤l.length):ZlS n (.lst (l.map enc)) none (some (.int k (Int.ofNat i)))=some (.lst ((l.take i).map enc)):=by
 have h2:(l.map enc).all (Zal n)=true:=by simp[hw]
 have h3:(0:Int)≤Int.ofNat i∧(Int.ofNat i:Int)≤((l.map enc).length:Int):=by constructor<;>simp<;>omega
 simp only[ZlS,ZlR,ZqF,if_pos h3,Option.bind_some,if_pos h2]
 simp[List.map_take]
theorem ZAb (a:Bool) (e:TypeId) (s:Nat) (k:Kd) (sl:Option Nat) (l:List PV) (y:PV):Zg ⟨.ck (.own a e s),k,sl⟩ ⟨.lst l,y⟩=some l:=(Eq.refl _).trans (Eq.refl _)
theorem ZAc (k:Kd) (sl:Option Nat) (l:List PV) (y:PV):Zg ⟨.ck .nil,k,sl⟩ ⟨.lst l,y⟩=some l:=(Eq.refl _).trans (Eq.refl _)
theorem ZAd (q:Nat) (a:Bool) (e:TypeId) (s:Nat) (sl:Option Nat) (l:List PV) (y:PV):Zg ⟨.ali (.slot q),.ck (.own a e s),sl⟩ ⟨y,.lst l⟩=some l:=(Eq.refl _).trans (Eq.refl _)
def ZAe :CK→Bool
 |.own _ _ _=>true
 |_=>false
theorem Zx6 (l:List PV):ZiT (.lst l)=some l:=(Eq.refl _).trans (Eq.refl _)
theorem Zx7 (q off:Nat) (T:TypeId) (ks:List CK) (sl:Option Nat) (xs:List PV) (y:PV) (h:ZAe ((ks[off]?).getD .none)=true):Zg ⟨.ali (.cell q off),.box T ks,sl⟩ ⟨y,.agg xs⟩=(xs[off]?).bind ZiT:=by
 have hc:(Kd.box T ks).cell off=(ks[off]?).getD .none:=rfl
 show (match (Kd.box T ks).cell off with|.own _ _ _=>(PV.cells (.agg xs))[off]?.bind fun y=>(match y with|.lst l=>some l|_=>none)|_=>none)=_
 rw[hc]
 revert h
 cases (ks[off]?).getD .none with
 | own a e s=>
  intro _
  show (xs[off]?.bind fun y=>match y with|.lst l=>some l|_=>none)=_
  cases xs[off]? with
  |none=>rfl
  |some y=>cases y<;>rfl
 |_=>intro h;cases h
theorem Zx8 (q sz o:Nat) (a:Bool) (e:TypeId) (s:Nat) (sl:Option Nat) (v:PV) (l:List PV):Zhu ⟨.elm (.slot q) sz o,.ck (.own a e s),sl⟩ ⟨v,.lst l⟩=some l:=(Eq.refl _).trans (Eq.refl _)
theorem Zx9 (q off sz o:Nat) (T:TypeId) (ks:List CK) (sl:Option Nat) (v:PV) (xs:List PV) (h:ZAe ((ks[off]?).getD .none)=true):Zhu ⟨.elm (.cell q off) sz o,.box T ks,sl⟩ ⟨v,.agg xs⟩=(xs[off]?).bind ZiT:=by
 have hc:(Kd.box T ks).cell off=(ks[off]?).getD .none:=rfl
 show (match (Kd.box T ks).cell off with|.own _ _ _=>(PV.cells (.agg xs))[off]?.bind fun y=>(match y with|.lst l=>some l|_=>none)|_=>none)=_
 rw[hc]
 revert h
 cases (ks[off]?).getD .none with
 | own a e s=>
  intro _
  show (xs[off]?.bind fun y=>match y with|.lst l=>some l|_=>none)=_
  cases xs[off]? with
  |none=>rfl
  |some y=>cases y<;>rfl
 |_=>intro h;cases h
theorem ZAf (a:SV) (k:IntKind) (i:Int) (y:PV):Zcl a ⟨.int k i,y⟩=(Zhu a ⟨.int k i,y⟩).bind fun l=>l[i.toNat]?:=(Eq.refl _).trans (Eq.refl _)
theorem ZAg (a x:SV) (f:List PV→PV→PV→Option PV) (k:IntKind) (i:Int) (y:PV) (dx:DV):Zcs a x f ⟨.int k i,y⟩ dx=(Zhu a ⟨.int k i,y⟩).bind fun l=>(l[i.toNat]?).bind fun el=>(f el.cells el dx.v).map fun el'=>.lst (l.set i.toNat el'):=(Eq.refl _).trans (Eq.refl _)
theorem dv_v (v p:PV):DV.v ⟨v,p⟩=v:=(Eq.refl _).trans (Eq.refl _)
theorem dv_p (v p:PV):DV.pv ⟨v,p⟩=p:=(Eq.refl _).trans (Eq.refl _)
theorem Zya (n:Nat):Int.toNat (n:Int)=n:=Int.toNat_natCast n
theorem ZbG {l:List PV} {k:Nat} (h:k<l.length):ZaM l (.int .i64 (k:Int))=some (.int .i64 (k:Int)):=by
 unfold ZaM
 simp only
 rw[if_pos (by omega)]
 simp
def PV.w (n:Nat) (x:PV):Prop:=match x with|.agg l=>l.length=n|.undef|.tup _=>False|_=>n=1
theorem cw_w {n:Nat} {x:PV} (h:x.w n):Zc n x=some x.cells∧x.cells.length=n:=by
 cases x<;>simp only[PV.w] at h<;>simp_all [Zc,PV.cells]
theorem Zwf {α:Type} (l s:List α) (h:l.length=s.length):splice l 0 s=s:=by simp[splice,←h]
theorem se_all {n:Nat} {el x:PV} (he:el.w n) (hx:x.w n) (hk:(∃l,el=.agg l)↔∃l,x=.agg l):ZaB 0 n el.cells el x=some x:=by
 obtain ⟨e1,e2⟩:=cw_w hx
 obtain ⟨e3,e4⟩:=cw_w he
 unfold ZaB
 rw[e1]
 simp only[Option.bind_some,Nat.zero_add]
 rw[if_pos (by omega),Zwf _ _ (by omega)]
 cases el with
 | agg l=>
  obtain ⟨l',rfl⟩:=hk.1 ⟨l,rfl⟩
  rfl
 | _=>
  cases x with
  |agg l'=>obtain ⟨l,h⟩:=hk.2 ⟨l',rfl⟩;cases h
  |undef=>simp[PV.w] at hx
  |tup l=>simp[PV.w] at hx
  |_=>rfl
theorem ZtX (te:TI) (n:Nat) (h:n≤4294967296):ZgZ te (.int .i64 (n:Int))=some (.lst (List.replicate n (Zbb te))):=by
 unfold ZgZ
 simp only
 rw[if_pos (by omega)]
 simp
theorem ift {α:Type} {h:Decidable True} (a b:α):(@ite α True h a b)=a:=@if_true _ h a b
theorem iff' {α:Type} {h:Decidable False} (a b:α):(@ite α False h a b)=b:=@if_false _ h a b
theorem lmap {α β:Type} (f:α→β) (l:List α):(l.map f).length=l.length:=List.length_map f
theorem sp_n {α:Type} (off:Nat) (s:List α):splice [] off s=s:=by simp[splice]
theorem sp_0n {α:Type} (l:List α):splice l 0 []=l:=by simp[splice]
theorem sp_0 {α:Type} (a x:α) (l s:List α):splice (a::l) 0 (x::s)=x::splice l 0 s:=by simp[splice]
theorem sp_s {α:Type} (a:α) (l s:List α) (n:Nat):splice (a::l) (n+1) s=a::splice l n s:=by
 unfold splice
 rw[show n+1+s.length=(n+s.length)+1 by omega]
 simp
theorem ls_0 {α:Type} (a x:α) (l:List α):(a::l).set 0 x=x::l:=(Eq.refl _).trans (Eq.refl _)
theorem ls_s {α:Type} (a x:α) (l:List α) (n:Nat):(a::l).set (n+1) x=a::l.set n x:=(Eq.refl _).trans (Eq.refl _)
theorem lg_0 {α:Type} (a:α) (l:List α):(a::l)[0]?=some a:=(Eq.refl _).trans (Eq.refl _)
theorem lg_s {α:Type} (a:α) (l:List α) (n:Nat):(a::l)[n+1]?=l[n]?:=(Eq.refl _).trans (Eq.refl _)
theorem ogs {α:Type} (a d:α):(some a).getD d=a:=(Eq.refl _).trans (Eq.refl _)
theorem ZAh (a:Bool) (e:TypeId) (s:Nat):ZAe (.own a e s)=true:=(Eq.refl _).trans (Eq.refl _)
theorem ZAi (p:Place) (k:Kd) (sl:Option Nat) (y:PV) (l:List PV):ZaY ⟨.ali p,k,sl⟩ ⟨y,.tup l⟩=l:=(Eq.refl _).trans (Eq.refl _)
theorem Zyb (p:Place) (k:Kd) (sl:Option Nat) (y:PV) (l:List PV):ZaY ⟨.ali p,k,sl⟩ ⟨y,.agg l⟩=l:=(Eq.refl _).trans (Eq.refl _)
theorem ZAj (t:Bool) (ks:List CK) (k:Kd) (sl:Option Nat) (y:PV) (l:List PV):ZaY ⟨.grp t ks,k,sl⟩ ⟨.tup l,y⟩=l:=(Eq.refl _).trans (Eq.refl _)
theorem Zyc (t:Bool) (ks:List CK) (k:Kd) (sl:Option Nat) (y:PV) (l:List PV):ZaY ⟨.grp t ks,k,sl⟩ ⟨.agg l,y⟩=l:=(Eq.refl _).trans (Eq.refl _)
theorem pv_t1 (a:PV):Zb true 0 1 [a]=some (.agg [a]):=(Eq.refl _).trans (Eq.refl _)
theorem pv_t5 (a b c d e:PV):Zb true 0 5 [a,b,c,d,e]=some (.agg [a,b,c,d,e]):=(Eq.refl _).trans (Eq.refl _)
theorem pv_t6 (a b c d e f:PV):Zb true 0 6 [a,b,c,d,e,f]=some (.agg [a,b,c,d,e,f]):=(Eq.refl _).trans (Eq.refl _)
theorem pv_t7 (a b c d e f g:PV):Zb true 0 7 [a,b,c,d,e,f,g]=some (.agg [a,b,c,d,e,f,g]):=(Eq.refl _).trans (Eq.refl _)
theorem pv_f5 (n:Nat) (a b c d e f:PV) (l:List PV):Zb false 5 n (a::b::c::d::e::f::l)=some f:=(Eq.refl _).trans (Eq.refl _)
theorem pv_f6 (n:Nat) (a b c d e f g:PV) (l:List PV):Zb false 6 n (a::b::c::d::e::f::g::l)=some g:=(Eq.refl _).trans (Eq.refl _)
theorem cw6 (a b c d e f:PV):Zc 6 (.agg [a,b,c,d,e,f])=some [a,b,c,d,e,f]:=(Eq.refl _).trans (Eq.refl _)
theorem cw7 (a b c d e f g:PV):Zc 7 (.agg [a,b,c,d,e,f,g])=some [a,b,c,d,e,f,g]:=(Eq.refl _).trans (Eq.refl _)
theorem c_str (s:List UInt8):PV.cells (.str s)=[.str s]:=(Eq.refl _).trans (Eq.refl _)
theorem c_int (k:IntKind) (n:Int):PV.cells (.int k n)=[.int k n]:=(Eq.refl _).trans (Eq.refl _)
theorem ZAk (b:Bool):PV.cells (.bool b)=[.bool b]:=(Eq.refl _).trans (Eq.refl _)
theorem c_lst (l:List PV):PV.cells (.lst l)=[.lst l]:=(Eq.refl _).trans (Eq.refl _)
theorem ZAl {R:Type} (s:List UInt8) (x:Option R):Za [.str s] x=x:=(Eq.refl _).trans (Eq.refl _)
theorem ZAm {R:Type} (l:List PV) (x:Option R):Za [.lst l] x=x:=(Eq.refl _).trans (Eq.refl _)
theorem ZiL {R:Type} (l:List PV) (x:Option R):Za [.tup l] x=x:=(Eq.refl _).trans (Eq.refl _)
theorem ZAn :ZC.pv .str=.str []:=(Eq.refl _).trans (Eq.refl _)
theorem ZAo (k:IntKind):ZC.pv (.int k)=.int k 0:=(Eq.refl _).trans (Eq.refl _)
theorem Zyd :ZC.pv .bool=.bool false:=(Eq.refl _).trans (Eq.refl _)
theorem ZAp :ZC.pv .nil=.lst []:=(Eq.refl _).trans (Eq.refl _)
theorem ZbH {td:TD} {a b:List UInt8} (h:a.length+b.length≤9223372036854775807):Zd .add td (.str a) (.str b)=some (.str (a++b)):=by
 show Zyq .add a b=_
 unfold Zyq
 simp only
 rw[if_pos h]
theorem Zrs {s:List UInt8} {k:IntKind} {i:Nat} (h:i≤s.length):Ziy (.str s) none (some (.int k (i:Int)))=some (.str (s.take i)):=by
 have h1:(0:Int)≤(i:Int)∧(i:Int)≤(s.length:Int):=by omega
 simp[Ziy,ZlR,ZqF,h1]
theorem Zrt {s:List UInt8} {k:IntKind} {i:Nat} (h:i≤s.length):Ziy (.str s) (some (.int k (i:Int))) none=some (.str (s.drop i)):=by
 have h1:(0:Int)≤(i:Int)∧(i:Int)≤(s.length:Int):=by omega
 simp[Ziy,ZlR,ZqF,h]
theorem ZAq (b:UInt8):ZmW (pU b)=some b:=by
 have h:=b.toNat_lt
 have h1:(0:Int)≤(b.toNat:Int)∧(b.toNat:Int)<256:=by omega
 simp only[ZmW,if_pos h1]
 simp
theorem ZiM :∀l:List UInt8,Zex (l.map pU)=some l
 |[]=>rfl
 | b::r=>by
  show ((ZmW (pU b)).bind fun x=>(Zex (r.map pU)).bind fun l=>some (x::l))=_
  rw[ZAq,ZiM r]
  rfl
theorem Zru (b:UInt8):Zex [.int .u8 (b.toNat:Int)]=some [b]:=ZiM [b]
theorem Zye {R:Type} (body:(List PV→Option R)→Option R) (k:List PV→Option R):ZaT body k=body k:=ZeQ body k
def Z5 {R α β:Type} (step:β→Nat→α→Sum β (Option R)) (e:β→Option R):Nat→β→List α→Option R
 |_,b,[]=>e b
 |k,b,x::r=>match step b k x with|.inl b'=>Z5 step e (k+1) b' r|.inr z=>z
theorem ZaI {R α β:Type} (l:List α) (J:β→Nat→List PV) (Inv:Nat→β→Prop) (step:β→Nat→α→Sum β (Option R)) (e:β→Option R) (f:(List PV→Option R)→List PV→Option R) (hl:l.length≤9223372036854775807)
 (hs:∀b k x b',Inv k b→l[k]?=some x→step b k x=.inl b'→Inv (k+1) b')
 (h1:∀again b k x,Inv k b→l[k]?=some x→f again (J b k)=match step b k x with|.inl b'=>again (J b' (k+1))|.inr z=>z)
 (h2:∀again b,Inv l.length b→f again (J b l.length)=e b) {b:β} (hb:Inv 0 b):Zm f 18446744073709551616 (J b 0)=Z5 step e 0 b l:=by
 have key:=ZaP (R:=R) (fun q:{q:β×Nat // Inv q.2 q.1∧q.2≤l.length}=>J q.1.1 q.1.2) (fun q=>l.length+1 - q.1.2) (fun q=>Z5 step e q.1.2 q.1.1 (l.drop q.1.2)) f (fun again q ih=> ?_) 18446744073709551616 ⟨(b,0),hb,Nat.zero_le _⟩ (by simp only;omega)
 ·exact key
 ·obtain ⟨⟨b,k⟩,hi,hk⟩:=q
  dsimp only at ih hi hk⊢
  by_cases hlt:k<l.length
  ·have hx:l[k]?=some l[k]:=List.getElem?_eq_getElem hlt
   rw[h1 again b k _ hi hx,List.drop_eq_getElem_cons hlt]
   unfold Z5
   cases hst:step b k l[k] with
   |inl b'=>exact ih ⟨(b',k+1),hs _ _ _ _ hi hx hst,hlt⟩ (by simp only;omega)
   |inr z=>rfl
  ·obtain rfl:k=l.length:=by omega
   rw[h2 again b hi,List.drop_length]
   rfl
theorem Zrv {α:Type} (good:Nat→α→Bool):∀(l:List α) (j:Nat),ZM good j l=false→∃m x,l[m]?=some x∧good (j+m) x=false∧∀i y,i<m→l[i]?=some y→good (j+i) y=true
 |[],j,h=>by simp[ZM] at h
 | x ::r,j,h=>by
  unfold ZM at h
  cases hg:good j x
  ·exact ⟨0,x,rfl,hg,fun i y hi=>by omega⟩
  ·rw[hg,Bool.true_and] at h
   obtain ⟨m,y,h1,h2,h3⟩:=Zrv good r (j+1) h
   refine ⟨m+1,y,by simpa using h1,by rw[←h2];congr 1;omega,fun i z hi hz=> ?_⟩
   cases i with
   |zero=>simp at hz;subst hz;exact hg
   | succ i=>
    have:=h3 i z (by omega) (by simpa using hz)
    rw[←this];congr 1;omega
theorem ZjP {R α:Type} (l:List α) (good:Nat→α→Bool) (z e:Option R) (f:(List PV→Option R)→List PV→Option R) (hl:l.length≤9223372036854775807)
 (h1:∀again k x,l[k]?=some x→f again [pI (Int.ofNat k)]=if good k x=true then again [pI (Int.ofNat (k+1))] else z)
 (h2:ZM good 0 l=true→∀again,f again [pI (Int.ofNat l.length)]=e):Zm f 18446744073709551616 [pI (Int.ofNat 0)]=if ZM good 0 l=true then e else z:=by
 cases hall:ZM good 0 l
 ·obtain ⟨m,x,b1,b2,b3⟩:=Zrv good l 0 hall
  rw[Nat.zero_add] at b2
  have hm:=(List.getElem?_eq_some_iff.1 b1).1
  rw[if_neg (by simp)]
  refine ZaP (R:=R) (fun k:{k:Nat // k≤m}=>[pI (Int.ofNat k.1)]) (fun k=>m+1 - k.1) (fun _=>z) f (fun again k ih=> ?_) 18446744073709551616 ⟨0,Nat.zero_le _⟩ (by simp only;omega)
  obtain ⟨k,hk⟩:=k
  dsimp only at ih⊢
  by_cases c:k<m
  ·have hx:l[k]?=some (l[k]'(by omega)):=List.getElem?_eq_getElem (by omega)
   have:=b3 k _ c hx
   rw[Nat.zero_add] at this
   rw[h1 again k _ hx,if_pos this]
   exact ih ⟨k+1,c⟩ (by simp only;omega)
  ·obtain rfl:k=m:=by omega
   rw[h1 again k x b1,b2]
   simp
 ·rw[ZN l good z e f hl h1 (h2 hall),hall]
theorem cut_drop {α:Type} {enc:α→PV} {n:Nat} {l:List α} {k:IntKind} {i:Nat} (hw:∀x,Zal n (enc x)=true) (h:i≤l.length):ZlS n (.lst (l.map enc)) (some (.int k (Int.ofNat i))) none=some (.lst ((l.drop i).map enc)):=by
 have h2:(l.map enc).all (Zal n)=true:=by simp[hw]
 have h3:(0:Int)≤Int.ofNat i∧(Int.ofNat i:Int)≤((l.map enc).length:Int):=by constructor<;>simp<;>omega
 simp only[ZlS,ZlR,ZqF,Option.bind_some,if_pos h3,if_pos h2]
 rw[show (Int.ofNat i).toNat=i from rfl,List.take_length,List.map_drop]
def ZaK (m:Option PV) (l:Int) (S:Prop):Prop:=∃r:Int,m=some (pI r)∧r≤l∧(0≤r→S)
theorem ZaK.neg {l:Int} {S:Prop} (h:0≤l):ZaK (some (pI (Int.negSucc 0))) l S:=⟨Int.negSucc 0,rfl,by omega,fun h=>absurd h (by decide)⟩
theorem ZaK.pos {l r:Int} {S:Prop} (h:r≤l) (hs:S):ZaK (some (pI r)) l S:=⟨r,rfl,h,fun _=>hs⟩
theorem ZaK.sc {m:Option PV} {l:Int} {S:Prop} (h:ZaK m l S):ZaK (m.bind fun r=>if r.sc=true then some r else none) l S:=by
 obtain ⟨r,rfl,h1,h2⟩:=h
 exact ⟨r,rfl,h1,h2⟩
theorem ZaK.mono {m:Option PV} {l l':Int} {S S':Prop} (h:ZaK m l S) (hl:l≤l') (hs:S→S'):ZaK m l' S':=by
 obtain ⟨r,e,h1,h2⟩:=h
 exact ⟨r,e,by omega,fun h=>hs (h2 h)⟩
theorem Zwg {R:Type} (f:(List PV→Option R)→List PV→Option R) (n:Nat) (J:List PV):Zm f (n+1) J=f (fun J=>Zm f n J) J:=by
 rw[ZiU]
 show f (ZkW f n) J=_
 congr 1
 funext J
 rw[ZiU]
theorem ZBC {α:Type} (xs:List α) (S:α→Prop) (f:(List PV→Option PV)→List PV→Option PV)
 (h1:∀again k x l,xs[k]?=some x→0≤l→l≤1048576→∃r:Int,r≤l∧(0≤r→S x)∧f again [pI l,pI (Int.ofNat k)]=if r<0 then some (pI (Int.negSucc 0)) else again [pI r,pI (Int.ofNat (k+1))])
 (h2:∀again l,f again [pI l,pI (Int.ofNat xs.length)]=some (pI l)):∀(n k:Nat) (m:Nat) (l:Int),xs.length - k<m→m≤n→k≤xs.length→0≤l→l≤1048576→ZaK (Zm f n [pI l,pI (Int.ofNat k)]) l (∀x∈xs.drop k,S x):=by
 intro n
 induction n with
 |zero=>intro k m l hm hn;omega
 | succ n ih=>
  intro k m l hm hn hk h0 hl
  rw[Zwg]
  by_cases hlt:k<xs.length
  ·have hx:xs[k]?=some xs[k]:=List.getElem?_eq_getElem hlt
   obtain ⟨r,e1,e2,e3⟩:=h1 (fun J=>Zm f n J) k _ l hx h0 hl
   rw[e3,List.drop_eq_getElem_cons hlt]
   by_cases hr:r<0
   ·rw[if_pos hr];exact ZaK.neg h0
   ·rw[if_neg hr]
    refine (ih (k+1) (m - 1) r (by omega) (by omega) hlt (by omega) (by omega)).mono e1 fun h x hx=> ?_
    rcases List.mem_cons.1 hx with rfl|hx
    ·exact e2 (by omega)
    ·exact h x hx
  ·obtain rfl:k=xs.length:=by omega
   rw[h2,List.drop_length]
   exact ZaK.pos (Int.le_refl _) (by simp)
theorem Zwh {α:Type} (xs:List α) (S:α→Prop) (f:(List PV→Option PV)→List PV→Option PV) (hx:xs.length≤9223372036854775807)
 (h1:∀again k x l,xs[k]?=some x→0≤l→l≤1048576→∃r:Int,r≤l∧(0≤r→S x)∧f again [pI l,pI (Int.ofNat k)]=if r<0 then some (pI (Int.negSucc 0)) else again [pI r,pI (Int.ofNat (k+1))])
 (h2:∀again l,f again [pI l,pI (Int.ofNat xs.length)]=some (pI l)) {l:Int} (h0:0≤l) (hl:l≤1048576):ZaK (Zm f 18446744073709551616 [pI l,pI (Int.ofNat 0)]) l (∀x∈xs,S x):=by
 have:=ZBC xs S f h1 h2 18446744073709551616 0 (xs.length+1) l (by omega) (by omega) (Nat.zero_le _) h0 hl
 simpa using this
theorem ZfE {α:Type}:∀(l:List α) (j:Nat),ZM (fun _ _=>true) j l=true
 |[],_=>rfl
 |_::r,j=>ZfE r (j+1)
theorem ZoE {α:Type} (xs:List α) (enc:α→PV) (n:Nat) (z:PV) (f:(List PV→Option PV)→List PV→Option PV) (hx:xs.length≤9223372036854775807) (hz:z.w n) (he:∀x,(enc x).w n) (hk:∀x,(∃l,z=.agg l)↔∃l,enc x=.agg l)
 (h1:∀again k x (row:List PV) el,xs[k]?=some x→row.length=xs.length→row[k]?=some el→ZaB 0 n el.cells el (enc x)=some (enc x)→f again [.lst row,pI (Int.ofNat k)]=again [.lst (row.set k (enc x)),pI (Int.ofNat (k+1))])
 (h2:∀again row,f again [.lst row,pI (Int.ofNat xs.length)]=some (.lst row)):Zm f 18446744073709551616 [.lst (List.replicate xs.length z),pI (Int.ofNat 0)]=some (.lst (xs.map enc)):=by
 have key:=ZaP (R:=PV) (fun k:{k:Nat // k≤xs.length}=>[.lst ((xs.take k.1).map enc++List.replicate (xs.length - k.1) z),pI (Int.ofNat k.1)]) (fun k=>xs.length+1 - k.1) (fun k=>some (.lst (xs.map enc))) f (fun again k ih=> ?_) 18446744073709551616 ⟨0,Nat.zero_le _⟩ (by simp only;omega)
 ·simpa using key
 ·obtain ⟨k,hkl⟩:=k
  dsimp only at ih⊢
  by_cases hlt:k<xs.length
  ·have hx:xs[k]?=some xs[k]:=List.getElem?_eq_getElem hlt
   have hlen:((xs.take k).map enc).length=k:=by simp;omega
   have hr:List.replicate (xs.length - k) z=z::List.replicate (xs.length - (k+1)) z:=by
    rw[show xs.length - k=(xs.length - (k+1))+1 by omega];rfl
   rw[h1 again k _ _ z hx (by simp;omega) (by rw[List.getElem?_append_right (by omega),hlen,hr];simp) (se_all hz (he _) (hk _))]
   have e:(List.map enc (xs.take k)++List.replicate (xs.length - k) z).set k (enc xs[k])=(xs.take (k+1)).map enc++List.replicate (xs.length - (k+1)) z:=by
    rw[List.set_append,if_neg (by omega),hlen,hr,Nat.sub_self,List.set_cons_zero,List.take_succ_eq_append_getElem hlt,List.map_append,List.append_assoc]
    rfl
   rw[e]
   exact ih ⟨k+1,hlt⟩ (by simp only;omega)
  ·obtain rfl:k=xs.length:=by omega
   rw[h2]
   simp
theorem EVS :type_of% (And.intro @obs (And.intro @oms (And.intro @ZnG (And.intro @ZlP (And.intro @nth_0 (And.intro @nth_s (And.intro @b_add (And.intro @b_sub (And.intro @b_mul (And.intro @ZxX (And.intro @b_neq (And.intro @b_lss (And.intro @b_leq (And.intro @b_gtr (And.intro @b_geq (And.intro @ZzZ (And.intro @Zz0 (And.intro @Zz1 (And.intro @Zz2 (And.intro @Zz3 (And.intro @u_not (And.intro @asB_b (And.intro @gd_tt (And.intro @gd_ff (And.intro @gd_tf (And.intro @gd_ft (And.intro @gd_u (And.intro @Zsa (And.intro @Zz4 (And.intro @Zz5 (And.intro @Zz6 (And.intro @ZtU (And.intro @ZxY (And.intro @ZxZ (And.intro @ZtV (And.intro @decide_true (And.intro @decide_false (And.intro @Bool.true_and (And.intro @Bool.false_and (And.intro @Bool.and_true (And.intro @Bool.and_false (And.intro @Bool.not_true (And.intro @Bool.not_false (And.intro @Bool.true_or (And.intro @Bool.false_or (And.intro @Bool.or_true (And.intro @Bool.or_false (And.intro @ift (And.intro @iff' (And.intro @Bool.false_eq_true (And.intro @Int.ofNat_eq_natCast (And.intro @Int.natCast_one (And.intro @Int.natCast_zero (And.intro @Int.cast_ofNat_Int (And.intro @Zx1 (And.intro @Zx2 (And.intro @ZtW (And.intro @Zx3 (And.intro @cw2 (And.intro @cw3 (And.intro @cw4 (And.intro @cw5 (And.intro @Zrr (And.intro @Zz7 (And.intro @Zx4 (And.intro @Zz8 (And.intro @pv_f0 (And.intro @pv_f1 (And.intro @pv_f2 (And.intro @pv_f3 (And.intro @pv_f4 (And.intro @ZK (And.intro @ZR (And.intro @Zx5 (And.intro @Zz9 (And.intro @ZAa (And.intro @sp2 (And.intro @sp4 (And.intro @zm (And.intro @zn (And.intro @ZtT (And.intro @lmap (And.intro @ZAb (And.intro @ZAc (And.intro @ZAd (And.intro @Zx7 (And.intro @Zx6 (And.intro @Zx8 (And.intro @Zx9 (And.intro @ZAf (And.intro @ZAg (And.intro @dv_v (And.intro @dv_p (And.intro @Zya (And.intro @sp_n (And.intro @sp_0n (And.intro @sp_0 (And.intro @sp_s (And.intro @ls_0 (And.intro @ls_s (And.intro @lg_0 (And.intro @lg_s (And.intro @ogs (And.intro @ZAh (And.intro @ZAi (And.intro @Zyb (And.intro @ZAj (And.intro @Zyc (And.intro @pv_t1 (And.intro @pv_t5 (And.intro @pv_t6 (And.intro @pv_t7 (And.intro @pv_f5 (And.intro @pv_f6 (And.intro @cw6 (And.intro @cw7 (And.intro @c_str (And.intro @c_int (And.intro @ZAk (And.intro @c_lst (And.intro @ZAl (And.intro @ZAm (And.intro @ZiL (And.intro @ZAn (And.intro @ZAo (And.intro @Zyd (And.intro @ZAp (And.intro @Zru (@Zye))))))))))))))))))))))))))))))))))))))))))))))))))))))))))))))))))))))))))))))))))))))))))))))))))))))))))))))))))))))))))))))))):=And.intro @obs (And.intro @oms (And.intro @ZnG (And.intro @ZlP (And.intro @nth_0 (And.intro @nth_s (And.intro @b_add (And.intro @b_sub (And.intro @b_mul (And.intro @ZxX (And.intro @b_neq (And.intro @b_lss (And.intro @b_leq (And.intro @b_gtr (And.intro @b_geq (And.intro @ZzZ (And.intro @Zz0 (And.intro @Zz1 (And.intro @Zz2 (And.intro @Zz3 (And.intro @u_not (And.intro @asB_b (And.intro @gd_tt (And.intro @gd_ff (And.intro @gd_tf (And.intro @gd_ft (And.intro @gd_u (And.intro @Zsa (And.intro @Zz4 (And.intro @Zz5 (And.intro @Zz6 (And.intro @ZtU (And.intro @ZxY (And.intro @ZxZ (And.intro @ZtV (And.intro @decide_true (And.intro @decide_false (And.intro @Bool.true_and (And.intro @Bool.false_and (And.intro @Bool.and_true (And.intro @Bool.and_false (And.intro @Bool.not_true (And.intro @Bool.not_false (And.intro @Bool.true_or (And.intro @Bool.false_or (And.intro @Bool.or_true (And.intro @Bool.or_false (And.intro @ift (And.intro @iff' (And.intro @Bool.false_eq_true (And.intro @Int.ofNat_eq_natCast (And.intro @Int.natCast_one (And.intro @Int.natCast_zero (And.intro @Int.cast_ofNat_Int (And.intro @Zx1 (And.intro @Zx2 (And.intro @ZtW (And.intro @Zx3 (And.intro @cw2 (And.intro @cw3 (And.intro @cw4 (And.intro @cw5 (And.intro @Zrr (And.intro @Zz7 (And.intro @Zx4 (And.intro @Zz8 (And.intro @pv_f0 (And.intro @pv_f1 (And.intro @pv_f2 (And.intro @pv_f3 (And.intro @pv_f4 (And.intro @ZK (And.intro @ZR (And.intro @Zx5 (And.intro @Zz9 (And.intro @ZAa (And.intro @sp2 (And.intro @sp4 (And.intro @zm (And.intro @zn (And.intro @ZtT (And.intro @lmap (And.intro @ZAb (And.intro @ZAc (And.intro @ZAd (And.intro @Zx7 (And.intro @Zx6 (And.intro @Zx8 (And.intro @Zx9 (And.intro @ZAf (And.intro @ZAg (And.intro @dv_v (And.intro @dv_p (And.intro @Zya (And.intro @sp_n (And.intro @sp_0n (And.intro @sp_0 (And.intro @sp_s (And.intro @ls_0 (And.intro @ls_s (And.intro @lg_0 (And.intro @lg_s (And.intro @ogs (And.intro @ZAh (And.intro @ZAi (And.intro @Zyb (And.intro @ZAj (And.intro @Zyc (And.intro @pv_t1 (And.intro @pv_t5 (And.intro @pv_t6 (And.intro @pv_t7 (And.intro @pv_f5 (And.intro @pv_f6 (And.intro @cw6 (And.intro @cw7 (And.intro @c_str (And.intro @c_int (And.intro @ZAk (And.intro @c_lst (And.intro @ZAl (And.intro @ZAm (And.intro @ZiL (And.intro @ZAn (And.intro @ZAo (And.intro @Zyd (And.intro @ZAp (And.intro @Zru (@Zye))))))))))))))))))))))))))))))))))))))))))))))))))))))))))))))))))))))))))))))))))))))))))))))))))))))))))))))))))))))))))))))))
end Go.Proofs.YtpceleehbpnchaaGreat
