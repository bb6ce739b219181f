import Derived.Test.YtjjobbamoeaogaaDoorIr1
import Derived.Laws.Small
import Derived.Laws.StructEq
import Derived.Lib.AppendZeros
namespace Go.Proofs.YtjjobbamoeaogaaDoor
open Go.RowKit
set_option linter.unusedVariables false
set_option linter.unusedSimpArgs false
def SV.grpS (s:SV):Option (Nat×List CK):=
 match s.k,s.slot with
 |.grp false ks,some sl=>some (sl,ks)
 |_,_=>none
def Zkw (T:Tab) (flds:List (Nat×TypeId)):List Nat→List SV→List CK→Option (List CK)
 |[],[],ks=>some ks
 | i :: is,s::ss,ks=>
  match flds[i]? with
  |none=>none
  | some (off,ft)=>
   match T.lookup ft with
   |none=>none
   | some fi=>
    if off+fi.size≤ks.length then
     if s.isV then Zkw T flds is ss (splice ks off (if s.k=.ck .nil∧fi.size=1 then [.nil] else List.replicate fi.size .val))
     else match s.grpS with
      |some (_,ks')=>if ks'.length=fi.size∧(ks'.all fun k=>k≠.none)=true then Zkw T flds is ss (splice ks off ks') else none
      | none=>match Z8 s,ZaJ s with
       |some (some (app,e,sz)),some _=>if fi.size=1 then Zkw T flds is ss (splice ks off [.own app e sz]) else none
       |_,_=>none
    else none
 |_,_,_=>none
def Zkx (T:Tab) (flds:List (Nat×TypeId)):List Nat→List SV→List DV→List PV→Option (List PV)
 |[],[],[],xs=>some xs
 | i ::is,s::ss,d::ds,xs=>
  match flds[i]? with
  |none=>none
  | some (off,ft)=>
   match T.lookup ft with
   |none=>none
   | some fi=>if s.isV then (Zd fi.size d.v).bind fun cl=>Zkx T flds is ss ds (splice xs off cl)
    else match s.grpS with
     |some _=>Zkx T flds is ss ds (splice xs off d.v.cells)
     |none=>(Zh s d).bind fun l=>Zkx T flds is ss ds (splice xs off [.lst l])
 |_,_,_,_=>none
def Zeu :List SV→List Gh
 |[]=>[]
 | s::ss=>
  if s.isV then Zeu ss else
  match s.grpS with
  |some (sl,ks)=>ZcA sl 0 ks++Zeu ss
  | none=>match Z8 s,ZaJ s with
   |some (some (app,e,sz)),some (q,i)=>⟨q,i,false,app,e,sz⟩::Zeu ss
   |_,_=>Zeu ss
def Zf9 :List SV→List Nat
 |[]=>[]
 | s::ss=>
  if s.isV then Zf9 ss else
  match s.grpS with
  |some (sl,ks)=>sl::Zf9 ss
  | none=>match Z8 s,ZaJ s with
   |some (some _),some (q,i)=>q::Zf9 ss
   |_,_=>Zf9 ss
def ZlN :List Nat→Bool
 |[]=>true
 |a::r=> !r.contains a&&ZlN r
theorem Zk3 :∀{l:List Nat},ZlN l=true→l.Nodup
 |[],_=>List.nodup_nil
 | a::r,h=>by
  simp only[ZlN,Bool.and_eq_true,Bool.not_eq_true',List.contains_eq_mem,decide_eq_false_iff_not] at h
  exact List.nodup_cons.2 ⟨h.1,Zk3 h.2⟩
def Zjo {R:Type} (T:Tab) (gd:Bool) (d:Nat) (t:TypeId) (is:List Nat) (svs:List SV):Option (Eff R):=
 match T.lookup t with
 |none=>none
 | some ti=>
  if ti.desc=.struct∧(ti.flds.all fun p=>(T.lookup p.2).isSome)=true∧ZlN (Zf9 svs)=true then
   match Zkw T ti.flds is svs (ti.zero.map ZC.ck) with
   |none=>none
   | some ks=>if (ks.all fun k=>k=.val||(gd&&ckV k))=true∧(Zeu svs).map (·.s)=[] then some (Zj d (.ck .val) fun ds kk=>((Zkx T ti.flds is svs ds (ti.zero.map ZC.pv)).map .agg).bind kk)
    else some {gh:=Zeu svs,tgt:=d,put:=true,k:=.grp false ks,cut:=.no,dyn:=fun ds kk=>((Zkx T ti.flds is svs ds (ti.zero.map ZC.pv)).map .agg).bind kk}
  else none
section
variable {R :Type} {P:Program} {T:Tab} {o:Oper} {κ κ1:List Kd} {E:Eff R}
variable {w0 :World} {F0:Nat→Prop} {X0:List Nat} {σ:List PV} {a:Act} {w:World} {F F1:Nat→Prop} {fp fp1:Nat→List Nat}
theorem Ziw :∀(vs:List Value) (cs:Array Value) (k j:Nat),k+j+vs.length≤cs.size→((vs.zipIdx j).foldl (fun cs (x:Value×Nat)=>cs.setIfInBounds (k+x.2) x.1) cs)=(splice cs.toList (k+j) vs).toArray
 |[],cs,k,j,h=>by simp[splice]
 | v::r,cs,k,j,h=>by
  simp only[List.zipIdx_cons,List.foldl_cons]
  rw[Ziw r _ k (j+1) (by simp at h⊢;omega)]
  have e:=list_seg_step cs.toList (k+j) v r (by simp at h⊢;omega)
  congr 1
  simpa[splice,Array.toList_setIfInBounds,Nat.add_assoc] using e
theorem Zqy {place:Nat→Option (Nat×Nat)} {cells:Array Value} {i off size:Nat} {v:Value} {rest:List (Nat×Value)} (hp:place i=some (off,size)) (h1:v.cells.size=size) (h2:off+size≤cells.size):
 Instr.fill place cells ((i,v)::rest)=Instr.fill place (splice cells.toList off v.cells.toList).toArray rest:=by
 subst h1
 have hf:(v.cells.zipIdx.foldl (fun cs (x:Value×Nat)=>cs.setIfInBounds (off+x.2) x.1) cells)=(splice cells.toList off v.cells.toList).toArray:=by
  have:=Ziw v.cells.toList cells off 0 (by simpa using h2)
  rw[←Array.foldl_toList,Array.toList_zipIdx]
  simpa using this
 have n1:¬(v.cells.size≠v.cells.size∨off+v.cells.size>cells.size):=by omega
 simp only[Instr.fill,hp]
 rw[if_neg (by simpa using n1)]
 congr 1
def ZiX (gh:List Gh) (σ:List PV) (τ:Array Value) (w:World) (own:Nat→Prop):Prop:=
 ∀g∈gh,∃(x:PV) (v:Value) (l:List PV) (lb:List Nat) (F1:Nat→Prop),GhV g σ τ w x v∧Zal w F1 g.app g.e g.sz l v lb∧∀b∈lb,own b
theorem GrpS.own (h:St w0 F0 X0 κ σ a.tmps w F fp) {x:Operand} {s:Nat} {ks:List CK} (hg:(sv κ x).grpS=some (s,ks)):
 ∃ (cs:Array Value) (xs:List PV) (fps:List (List Nat)),x=.tmp s∧kd κ s=.grp false ks∧a.eval x=.agg cs∧(dv κ σ x).v=.agg xs∧GrpR w F true ks xs cs.toList fps∧fps.flatten.Nodup∧(∀b∈fps.flatten,b∈fp s)∧
  ∀own:Nat→Prop,ZiX (ZcA s 0 ks) σ a.tmps w own→∀b∈fps.flatten,own b:=by
 unfold SV.grpS at hg
 split at hg
 case h_2=>cases hg
 rename_i ks' sl hk hs
 cases hg
 obtain rfl:=Zav hs
 have hks:kd κ s=.grp false ks:=hk
 obtain ⟨lb,hn,hsub,hsr⟩:=h.sr s
 rw[hks] at hsr
 obtain ⟨cs,xs,fps,ev,ex,hgrp,rfl⟩:=hsr
 simp only[Bool.false_eq_true,if_false] at ev ex
 refine ⟨cs,xs,fps,rfl,hks,ev,ex,hgrp,hn,hsub,fun own ho=> ?_⟩
 refine Zc4 hgrp (own:=own) fun i app e sz x' v' lb' k1 k2 k3 k4 b hbb=> ?_
 have hm:=Zez (s:=s) ks 0 i k1
 rw[Nat.zero_add] at hm
 obtain ⟨y',v'',l',lb'',F1,m1,m3,m5⟩:=ho _ hm
 have hvv:v''=v':=by
  rcases m1 with ⟨b',xs',t1,t2,t3,t4⟩|⟨tt,cs',xs',t1,t2,t3,t4,_⟩|⟨cs',xs',t1,_⟩
  ·simp only at t1;rw[ev] at t1;cases t1
  ·simp only at t1
   rw[ev] at t1
   cases tt<;>simp at t1
   subst t1
   have:cs[i]?=some v':=by simpa using k3
   rw[this] at t2
   exact (Option.some.inj t2).symm
  ·simp only at t1;rw[ev] at t1;cases t1
 subst hvv
 obtain ⟨l0,rfl,hr0⟩:=k4
 have:=hr0.lb_eq m3
 subst this
 exact m5 b hbb
theorem bld_ok (hT:TabOk P T) (h:St w0 F0 X0 κ σ a.tmps w F fp) {flds:List (Nat×TypeId)} {place:Nat→Option (Nat×Nat)} (hpl:∀i off ft fi,flds[i]?=some (off,ft)→T.lookup ft=some fi→place i=some (off,fi.size)) {own:Nat→Prop}:
 ∀ (is:List Nat) (args:List Operand) (ks ks':List CK) (xs xs':List PV) (cs:Array Value) (fps:List (List Nat)) (Q:List Nat),(∀x∈args,ZaM κ σ x)→ZiX (Zeu (args.map (sv κ))) σ a.tmps w own→Zkw T flds is (args.map (sv κ)) ks=some ks'→Zkx T flds is (args.map (sv κ)) (args.map (dv κ σ)) xs=some xs'→
  GrpR w F true ks xs cs.toList fps→fps.flatten.Nodup→(∀b∈fps.flatten,∃q∈Q,b∈fp q)→(Q++Zf9 (args.map (sv κ))).Nodup→
  ∃(cs':Array Value) (fps':List (List Nat)),Instr.fill place cs (is.zip (args.map a.eval))=some cs'∧GrpR w F true ks' xs' cs'.toList fps'∧fps'.flatten.Nodup∧cs'.size=cs.size∧∀b∈fps'.flatten,b∈fps.flatten∨own b:=by
 intro is
 induction is with
 | nil=>
  intro args ks ks' xs xs' cs fps Q _ _ hk hv hg hn hq _
  cases args with
  |nil=>simp[Zkw] at hk;simp[Zkx] at hv;subst hk hv;exact ⟨cs,fps,rfl,hg,hn,rfl,fun b hb=>.inl hb⟩
  |cons x r=>simp[Zkw] at hk
 | cons i is ih=>
  intro args ks ks' xs xs' cs fps Q hl hgv hk hv hg hn hq hnd
  cases args with
  |nil=>simp[Zkw] at hk
  | cons x args=>
   simp only[List.map_cons,Zkw] at hk
   simp only[List.map_cons,Zkx] at hv
   have hlx:=hl x List.mem_cons_self
   have hl':∀z∈args,ZaM κ σ z:=fun z hz=>hl z (List.mem_cons_of_mem _ hz)
   split at hk
   ·cases hk
   rename_i off ft hfl
   rw[hfl] at hv
   dsimp only at hv
   split at hk
   ·cases hk
   rename_i fi hfi
   rw[hfi] at hv
   dsimp only at hv
   split at hk
   case isFalse=>cases hk
   rename_i hle
   have hlens:=hg.lens
   have hcsz:cs.size=ks.length:=by have:=hlens.2.1;simp at this;omega
   have step:∀(kk:List CK) (cl:List PV) (fk:List (List Nat)) (Q':List Nat),GrpR w F true kk cl (a.eval x).cells.toList fk→(a.eval x).cells.size=fi.size→fk.flatten.Nodup→(∀b∈fk.flatten,b∉fps.flatten)→(∀b∈fk.flatten,own b∧∃q∈Q',b∈fp q)→(∀q∈Q,q∈Q')→(Q'++Zf9 (args.map (sv κ))).Nodup→ZiX (Zeu (args.map (sv κ))) σ a.tmps w own→
    Zkw T flds is (args.map (sv κ)) (splice ks off kk)=some ks'→Zkx T flds is (args.map (sv κ)) (args.map (dv κ σ)) (splice xs off cl)=some xs'→
    ∃(cs':Array Value) (fps':List (List Nat)),Instr.fill place cs ((i::is).zip ((x::args).map a.eval))=some cs'∧GrpR w F true ks' xs' cs'.toList fps'∧fps'.flatten.Nodup∧cs'.size=cs.size∧∀b∈fps'.flatten,b∈fps.flatten∨own b:=by
    intro kk cl fk Q' hgk hsz hnk hdk hok hQ hnd' hgv' hk' hv'
    have hsp:=hg.splice off hgk
    obtain ⟨cs',fps',g1,g2,g3,g4,g5⟩:=ih args _ ks' _ xs' (splice cs.toList off (a.eval x).cells.toList).toArray _ Q' hl' hgv' hk' hv' (by simpa using hsp) (Zhm hn hnk hdk) (fun b hb=>by
     rcases ZeS hb with hb|hb
     ·obtain ⟨q,hq1,hq2⟩:=hq b hb;exact ⟨q,hQ q hq1,hq2⟩
     ·exact (hok b hb).2) hnd'
    refine ⟨cs',fps', ?_,g2,g3, ?_,fun b hb=> ?_⟩
    ·simp only[List.map_cons,List.zip_cons_cons]
     rw[Zqy (hpl i off ft fi hfl hfi) hsz (by rw[hcsz];exact hle)]
     exact g1
    ·rw[g4]
     simp only[List.size_toArray]
     rw[Z3 (by simp;omega)]
     simp
    ·rcases g5 b hb with hb|hb
     ·rcases ZeS hb with hb|hb
      ·exact .inl hb
      ·exact .inr (hok b hb).1
     ·exact .inr hb
   by_cases hxv:(sv κ x).isV=true
   ·rw [if_pos hxv] at hk hv
    obtain ⟨cl,hcl,hv⟩:=Option.bind_eq_some_iff.1 hv
    obtain ⟨rfl,c1,c2,c3⟩:=Za8 hcl
    have hvr:=rdS h hxv
    obtain ⟨v1,v2⟩:=hvr.cells c3
    have hsz:(a.eval x).cells.size=fi.size:=by rw[←v1];exact c2
    have hkk:∃kk:List CK,(if (sv κ x).k=.ck .nil∧fi.size=1 then [CK.nil] else List.replicate fi.size .val)=kk∧GrpR w F true kk (dv κ σ x).v.cells (a.eval x).cells.toList (List.replicate fi.size []):=by
     refine ⟨_,rfl, ?_⟩
     split
     ·rename_i hnl
      obtain ⟨l,_,hsr⟩:=h.at' x (by rw[hnl.1];simp)
      rw[hnl.1] at hsr
      obtain ⟨s1,s2,s3⟩:=hsr
      rw[hnl.2,s1,s2]
      exact .cons ⟨rfl,rfl,rfl⟩ (fun _=>rfl) .nil
     ·have hgrp:=Zhk (w:=w) (F:=F) (one:=true) (dv κ σ x).v.cells (a.eval x).cells.toList (by rw[PV.length_cells];simpa using v1) (fun i z hz=>by
       obtain ⟨e1,e2⟩:=v2 i z hz
       refine ⟨e1, ?_⟩
       have:(a.eval x).cells.toList.getD i Go.undef=(a.eval x).cells.getD i Go.undef:=by simp[List.getD,Array.getD_eq_getD_getElem?]
       rw[this];exact e2)
      rw[c1] at hgrp
      exact hgrp
    obtain ⟨kk,hkk,hgk⟩:=hkk
    rw[hkk] at hk
    have hfl0:(List.replicate fi.size ([]:List Nat)).flatten=[]:=Zao _
    have hG:Zeu ((x::args).map (sv κ))=Zeu (args.map (sv κ)):=by simp[Zeu,hxv]
    have hS:Zf9 ((x::args).map (sv κ))=Zf9 (args.map (sv κ)):=by simp[Zf9,hxv]
    rw[hG] at hgv
    rw[hS] at hnd
    exact step kk _ _ Q hgk hsz (by rw[hfl0];exact List.nodup_nil) (by rw[hfl0];simp) (by rw[hfl0];simp) (fun _ h=>h) hnd hgv hk hv
   ·rw [if_neg hxv] at hk hv
    have hxv':(sv κ x).isV=false:=by simpa using hxv
    cases hgs:(sv κ x).grpS with
    | some p=>
     obtain ⟨s,kk⟩:=p
     rw[hgs] at hk hv
     dsimp only at hk hv
     split at hk
     case isFalse=>cases hk
     rename_i hkl
     have hG:Zeu ((x::args).map (sv κ))=ZcA s 0 kk++Zeu (args.map (sv κ)):=by simp[Zeu,hxv',hgs]
     have hS:Zf9 ((x::args).map (sv κ))=s::Zf9 (args.map (sv κ)):=by simp[Zf9,hxv',hgs]
     rw[hG] at hgv
     rw[hS] at hnd
     obtain ⟨cs1,xs1,fps1,e1,e2,e3,e4,e5,e6,e7,e8⟩:=GrpS.own h hgs
     have hsQ:s∉Q:=fun hc=>(List.nodup_append.1 hnd).2.2 s hc s List.mem_cons_self rfl
     have hl5:=e5.lens
     have hc1:(a.eval x).cells=cs1:=by rw[e3];rfl
     refine step kk _ fps1 (Q++[s]) (by rw[hc1,e4];exact e5) (by rw[hc1];have:=hl5.2.1;simp at this;omega) e6 (fun b hb hc=> ?_) (fun b hb=>⟨e8 own (fun g hg=>hgv g (List.mem_append_left _ hg)) b hb,s,by simp,e7 b hb⟩) (fun q hq=>by simp[hq]) (by simpa using hnd) (fun g hg=>hgv g (List.mem_append_right _ hg)) hk hv
     obtain ⟨q2,hq2,hb2⟩:=hq b hc
     exact h.dj s q2 b (fun e=>hsQ (e▸hq2)) (e7 b hb) hb2
    | none=>
     rw[hgs] at hk hv
     dsimp only at hk hv
     split at hk
     case h_2=>cases hk
     rename_i app e sz p hK hA
     obtain ⟨q,ii⟩:=p
     split at hk
     case isFalse=>cases hk
     rename_i hs1
     obtain ⟨l,hl0,hv⟩:=Option.bind_eq_some_iff.1 hv
     obtain ⟨q',i',lb,r1,r2,r3,r4⟩:=ZbA h hlx (l:=l) hl0 hK
     rw[hA] at r1
     cases r1
     have hG:Zeu ((x::args).map (sv κ))=⟨q,ii,false,app,e,sz⟩::Zeu (args.map (sv κ)):=by simp[Zeu,hxv',hgs,hK,hA]
     have hS:Zf9 ((x::args).map (sv κ))=q::Zf9 (args.map (sv κ)):=by simp[Zf9,hxv',hgs,hK,hA]
     rw[hG] at hgv
     rw[hS] at hnd
     have hqQ:q∉Q:=fun hc=>(List.nodup_append.1 hnd).2.2 q hc q List.mem_cons_self rfl
     obtain ⟨A,c,hsl⟩:=r2.slice_eq
     have hcells:(a.eval x).cells= #[a.eval x]:=by rw[hsl];rfl
     obtain ⟨y',v0,l',lb',F1,n1,n3,n5⟩:=hgv _ List.mem_cons_self
     have hv0:=ZcZ h hlx hA n1
     subst hv0
     have hlb:=r2.lb_eq n3
     subst hlb
     have hlbn:([lb]:List (List Nat)).flatten=lb:=by simp
     refine step [.own app e sz] [.lst l] [lb] (Q++[q]) (by rw[hcells];exact .cons ⟨l,rfl,r2⟩ (fun _=>rfl) .nil) (by rw[hcells,hs1];rfl) (by rw[hlbn];exact r3) (by
      rw[hlbn]
      intro b hb hc
      obtain ⟨q2,hq2,hb2⟩:=hq b hc
      exact h.dj q q2 b (fun e=>hqQ (e▸hq2)) (r4 b hb) hb2) (by rw[hlbn];exact fun b hb=>⟨n5 b hb,q,by simp,r4 b hb⟩) (fun q hq=>by simp[hq]) (by simpa using hnd) (fun g hg=>hgv g (List.mem_cons_of_mem _ hg)) hk hv
theorem Zjp (hT:TabOk P T) (w:World):∀(l:List Field),(∀f∈l,(T.lookup f.type).isSome=true)→∃ps:List (Nat×Nat),(l.mapM fun (f:Field)=>(do pure (f.offset,←sizeOf f.type):Sem (Nat×Nat))).run P w=.ok ps w∧∀(i off:Nat) (ft:TypeId) (fi:TI),(l.map fun (f:Field)=>(f.offset,f.type))[i]?=some (off,ft)→T.lookup ft=some fi→ps[i]?=some (off,fi.size)
 |[],_=>⟨[],rfl,fun i off ft fi h=>by simp at h⟩
 | f::r,h=>by
  obtain ⟨ps,h1,h2⟩:=Zjp hT w r fun g hg=>h g (List.mem_cons_of_mem _ hg)
  obtain ⟨ti,hti⟩:=Option.isSome_iff_exists.1 (h f List.mem_cons_self)
  obtain ⟨ht⟩:=hT.ty hti
  have h3:=ht.run_sizeOf w
  refine ⟨(f.offset,ti.size)::ps,by rw[List.mapM_cons];simp only[Sem.run_bind,Sem.run_pure,h3,Result.andThen_ok,h1],fun i off ft fi hi hfi=> ?_⟩
  cases i with
  | zero=>
   simp at hi
   obtain ⟨rfl,rfl⟩:=hi
   rw[hti] at hfi
   cases hfi
   rfl
  |succ i=>simpa using h2 i off ft fi (by simpa using hi) hfi
theorem Zk4 {w:World} {F:Nat→Prop}:∀(vs:List Value),GrpR w F true (vs.map fun v=>(ZeQ v).ck) (vs.map fun v=>(ZeQ v).pv) vs (List.replicate vs.length [])
 |[]=>.nil
 |v::r=>.cons (Zsi v) (fun _=>ZjE _) (Zk4 r)
theorem Zm5 (hT:TabOk P T) {t:TypeId} {gd:Bool} {parts:Array (Nat×Operand)} {d:Nat} (hop:o.op=.build t parts) (hd:o.dst=some d) (hE:Zjo T gd d t (parts.toList.map (·.1)) (o.op.operands.toList.map (sv κ))=some E):ZN P o κ E:=by
 have hops:o.op.operands.toList=parts.toList.map (·.2):=by rw[hop];simp[Op.operands]
 unfold Zjo at hE
 split at hE
 case h_1=>cases hE
 rename_i ti hti
 obtain ⟨ht⟩:=hT.ty hti
 split at hE
 case isFalse=>cases hE
 rename_i hc
 obtain ⟨c1,c2,c3⟩:=hc
 split at hE
 case h_1=>cases hE
 rename_i ks hks
 have hstruct:∃fs,P.underlying t=some (.struct fs)∧ti.flds=fs.toList.map (fun f=>(f.offset,f.type)):=by
  have hdd:=ht.hd
  have hu:=ht.hdesc
  have hf:=ht.hflds
  rw[c1] at hdd
  cases hd2:ht.desc<;>rw[hd2] at hdd hf<;>simp[ZeR] at hdd
  rename_i fs
  exact ⟨fs,by rw[←hd2];exact hu,hf⟩
 obtain ⟨fs,hus,hflds⟩:=hstruct
 have main:∀(w0:World) (F0:Nat→Prop) (X0:List Nat) (σ:List PV) (a:Act) (w:World) (F:Nat→Prop) (fp:Nat→List Nat) (z:PV) (own:Nat→Prop),St w0 F0 X0 κ σ a.tmps w F fp→Z7 κ σ o.op.operands.toList=true→ZiX (Zeu (o.op.operands.toList.map (sv κ))) σ a.tmps w own→((Zkx T ti.flds (parts.toList.map (·.1)) (o.op.operands.toList.map (sv κ)) (o.op.operands.toList.map (dv κ σ)) (ti.zero.map ZC.pv)).map PV.agg)=some z→
  ∃(cs:Array Value) (xs:List PV) (fps:List (List Nat)),z=.agg xs∧(execOp a.eval o).run P w=.ok (.value (.agg cs)) w∧GrpR w F true ks xs cs.toList fps∧fps.flatten.Nodup∧∀b∈fps.flatten,own b:=by
  intro w0 F0 X0 σ a w F fp zz own h hlv hgv hzz
  obtain ⟨z,hz,rfl⟩:=Option.map_eq_some_iff.1 hzz
  obtain ⟨ps,hp1,hp2⟩:=Zjp hT w fs.toList (fun f hf=>by
   have:=List.all_eq_true.1 c2 (f.offset,f.type) (by rw[hflds];exact List.mem_map.2 ⟨f,hf,rfl⟩)
   exact this)
  have h0:ti.zero.map ZC.ck=ht.zv.cells.toList.map (fun v=>(ZeQ v).ck)∧ti.zero.map ZC.pv=ht.zv.cells.toList.map (fun v=>(ZeQ v).pv):=by rw[ht.hzero];simp
  rw[h0.1] at hks
  rw[h0.2] at hz
  rw[hops] at hks hz hlv hgv
  have hfl0:(List.replicate ht.zv.cells.toList.length ([]:List Nat)).flatten=[]:=Zao _
  obtain ⟨cs',fps',g1,g2,g3,g4,g5⟩:=bld_ok hT h (flds:=ti.flds) (place:=fun i=>ps.toArray[i]?) (fun i off ft fi h1 h2=>by rw[hflds] at h1;simpa using hp2 i off ft fi h1 h2) (parts.toList.map (·.1)) (parts.toList.map (·.2)) _ ks _ z ht.zv.cells _ [] (fun x hx=>Zc hlv hx) hgv hks hz (Zk4 _) (by rw[hfl0];exact List.nodup_nil) (by rw[hfl0];simp) (by rw[hops] at c3;simpa using Zk3 c3)
  refine ⟨cs',z,fps',rfl, ?_,g2,g3,fun b hb=> ?_⟩
  ·have hz1:=ht.run_zero w
   have hm:(fs.mapM fun (f:Field)=>(do pure (f.offset,←sizeOf f.type):Sem (Nat×Nat))).run P w=.ok ps.toArray w:=by
    have e:fs=fs.toList.toArray:=by simp
    rw[e,List.mapM_toArray]
    simp only[Sem.run_map,hp1]
    rfl
   have hparts:(parts.map fun (i,x)=>(i,a.eval x)).toList=(parts.toList.map (·.1)).zip ((parts.toList.map (·.2)).map a.eval):=by
    rw[Array.toList_map,List.map_map]
    generalize parts.toList=l
    induction l with
    |nil=>rfl
    |cons p r ih=>simp[ih]
   have hfill:Instr.fill (ps.toArray[·]?) ht.zv.cells (parts.map fun (i,x)=>(i,a.eval x)).toList=some cs':=by rw[hparts];exact g1
   have:(Instr.build t (parts.map fun (i,x)=>(i,a.eval x))).run P w=.ok (.agg cs') w:=by
    unfold Instr.build
    simp only[Sem.run_bind,hz1,Result.andThen,run_underlying hus]
    rw[hm]
    simp only
    rw[hfill]
    rfl
   simp[execOp,hop,this]
  ·rcases g5 b hb with hb|hb
   ·rw[hfl0] at hb;simp at hb
   ·exact hb
 split at hE
 ·rename_i hall
  obtain ⟨hall,hgn⟩:=hall
  cases hE
  refine ZaC hd rfl rfl rfl fun w0 F0 X0 σ a w F fp kk r h htt hlv hdy=> ?_
  obtain ⟨z,hz,hkk⟩:=Option.bind_eq_some_iff.1 hdy
  obtain ⟨cs,xs,fps,rfl,r1,r2,r3,r4⟩:=main w0 F0 X0 σ a w F fp z (fun _=>True) h hlv (by rw[List.map_eq_nil_iff.1 hgn];intro g hg;cases hg) hz
  refine ⟨_,_,r1,hkk,VR.of_cells (by have:=r2.lens.2.1;simp at this;omega) fun i y hy=> ?_⟩
  obtain ⟨k,v,f,m1,m2,m3,m4,m5⟩:=r2.at i y hy
  have hkv:ckV k=true:=by
   have h1:=List.all_eq_true.1 hall k (List.mem_of_getElem? m1)
   simp only[Bool.or_eq_true,decide_eq_true_eq,Bool.and_eq_true] at h1
   rcases h1 with rfl|h1
   ·rfl
   ·exact h1.2
  have:cs.getD i Go.undef=v:=by
   have:cs[i]?=some v:=by simpa using m2
   simp[Array.getD_eq_getD_getElem?,this]
  rw[this]
  exact ⟨m5 rfl,(Zcx m4 hkv).1⟩
 ·cases hE
  refine Zb5 hd rfl fun w0 F0 X0 κ1 σ a w F F1 fp fp1 kk r h h1 htt hg hF hallg hlv hdy=> ?_
  obtain ⟨z,hz,hkk⟩:=Option.bind_eq_some_iff.1 hdy
  obtain ⟨cs,xs,fps,rfl,r1,r2,r3,r4⟩:=main w0 F0 X0 σ a w F fp z (fun b=>b∈fp1 d) h hlv (fun g hg=>by
   obtain ⟨x,v,l,lb,m1,m2,m3,m4,m5⟩:=hallg g hg
   have hfz:g.fz=false:=by
    have : ∀(l:List SV),∀g∈Zeu l,g.fz=false:=by
     intro l
     induction l with
     |nil=>intro g hg;cases hg
     | cons s ss ih=>
      intro g hg
      unfold Zeu at hg
      split at hg
      ·exact ih g hg
      ·split at hg
       ·rcases List.mem_append.1 hg with hg|hg
        ·have key:∀(ks:List CK) (s i:Nat),∀g∈ZcA s i ks,g.fz=false:=by
          intro ks
          induction ks with
          |nil=>intro s i g hg;cases hg
          |cons k r ih=>intro s i g hg;cases k<;>simp only[ZcA] at hg<;>first|exact ih s (i+1) g hg|(rcases List.mem_cons.1 hg with rfl|hg;rfl;exact ih s (i+1) g hg)
         exact key _ _ _ g hg
        ·exact ih g hg
       ·split at hg
        ·rcases List.mem_cons.1 hg with rfl|hg
         ·rfl
         ·exact ih g hg
        ·exact ih g hg
    exact this _ g hg
   rw[hfz] at m5
   exact ⟨x,v,l,lb,F1,m1,m3,by simpa using m5⟩) hz
  have hst:Stays w F w F1:=⟨hF,fun _ _=>rfl⟩
  exact ⟨_,_,w,F1,fps.flatten,r1,hkk,rfl,rfl,rfl,Nat.le_refl _,fun _ _ _=>rfl,fun _ h=>h,fun _ h=>.inl h,h1.fl,r3,⟨cs,xs,fps,rfl,rfl,r2.keep hst fun _ _=>rfl,rfl⟩,fun b hb=>⟨.inr (r4 b hb),(h1.pr _ b (r4 b hb)).1,(h1.pr _ b (r4 b hb)).2.1⟩,fun _=>trivial,fun q hq=>by simp[Kd.bdep] at hq⟩
def ZlO {R:Type} (T:Tab) (d:Nat) (t:TypeId) (x:SV):Option (Eff R):=
 match x.grpS,T.lookup t with
 |some (s,ks),some ti=>if s≠d∧ks.length=ti.size then some {gh:=ZcA s 0 ks,tgt:=d,put:=true,k:=.box t ks,cut:=.no,dyn:=Zbl fun x=>some (.agg x.v.cells)} else none
 |_,_=>ZoV T d t x
theorem Zow (hT:TabOk P T) {t:TypeId} {x:Operand} {d:Nat} (hop:o.op=.box t x) (hd:o.dst=some d) (hE:ZlO T d t (sv κ x)=some E):ZN P o κ E:=by
 have hops:o.op.operands.toList=[x]:=by rw[hop];rfl
 unfold ZlO at hE
 split at hE
 case h_2=>exact ZqN hT hop hd hE
 rename_i s ks ti hgs hti
 obtain ⟨ht⟩:=hT.ty hti
 split at hE
 case isFalse=>cases hE
 rename_i hc
 cases hE
 refine Zb5 hd rfl fun w0 F0 X0 κ1 σ a w F F1 fp fp1 kk r h h1 htt hg hF hallg hlv hdy=> ?_
 rw[hops] at hdy
 have hkk:kk (.agg (dv κ σ x).v.cells)=some r:=hdy
 obtain ⟨cs,xs,fps,e1,e2,e3,e4,e5,e6,e7,e8⟩:=GrpS.own h hgs
 have hown:=e8 (fun b=>b∈fp1 d) (fun g hg=>by
  obtain ⟨y,v,l,lb,m1,m2,m3,m4,m5⟩:=hallg g hg
  have hfz:g.fz=false:=by
   have key:∀(ks:List CK) (s i:Nat),∀g∈ZcA s i ks,g.fz=false:=by
    intro ks
    induction ks with
    |nil=>intro s i g hg;cases hg
    |cons k r ih=>intro s i g hg;cases k<;>simp only[ZcA] at hg<;>first|exact ih s (i+1) g hg|(rcases List.mem_cons.1 hg with rfl|hg;rfl;exact ih s (i+1) g hg)
   exact key _ _ _ g hg
  rw[hfz] at m5
  exact ⟨y,v,l,lb,F1,m1,m3,by simpa using m5⟩)
 have hl5:=e5.lens
 have hcs:cs.size=ti.size:=by have:=hl5.2.1;simp at this;omega
 have hsz:=ht.run_sizeOf w
 have hrun:(execOp a.eval o).run P w=.ok (.value (.pointer (some ⟨w.heap.size,0,none⟩))) (w.alloc (.cells cs t (0,0))):=by
  simp[execOp,hop,Instr.box,newVar,newRow,e3,Value.cells]
 have hst:Stays w F (w.alloc (.cells cs t (0,0))) F1:=⟨hF,fun b hb=>Below.heap_alloc w _ b (h.fl b hb)⟩
 have hfresh:w.heap.size∉fps.flatten:=fun hc=>by have:=(h.pr s _ (e7 _ hc)).1;omega
 refine ⟨_,_,_,F1,w.heap.size::fps.flatten,hrun,hkk,rfl,rfl,rfl,by simp,fun b hb _=>Below.heap_alloc w _ b hb,fun _ h=>h,fun _ h=>.inl h,fun b hb=>by have:=h1.fl b hb;simp;omega,List.nodup_cons.2 ⟨hfresh,e6⟩,⟨w.heap.size,cs,xs,fps,rfl,by rw[e4];rfl,heap_alloc_new w _,e5.keep hst (fun b hb=>Below.heap_alloc w _ b (h.pr s b (e7 b hb)).1),rfl⟩,fun b hb=> ?_,fun _=>trivial,fun q hq=>by simp[Kd.bdep] at hq⟩
 rcases List.mem_cons.1 hb with rfl|hb
 ·exact ⟨.inl (Nat.le_refl _),by simp,fun hc=>by have:=h1.fl _ hc;omega⟩
 ·exact ⟨.inr (hown b hb),by have:=(h1.pr _ b (hown b hb)).1;simp;omega,(h1.pr _ b (hown b hb)).2.1⟩
end
def Zox :Operand→Operand→Bool
 |.tmp a,.tmp b=>a=b
 |.const (.int k a),.const (.int k' b)=>k=k'&&a=b
 |_,_=>false
theorem Zqz {x y:Operand} (h:Zox x y=true):x=y:=by
 unfold Zox at h
 split at h
 ·simpa using h
 ·simp only[Bool.and_eq_true,decide_eq_true_eq] at h;rw[h.1,h.2]
 ·cases h
def scEq :TD→PV→PV→Option Bool
 |.bool,.bool a,.bool b=>some (a==b)
 |.int _,.int k a,.int k' b=>if k=k' then some (a==b) else none
 |.str,.str a,.str b=>some (a==b)
 |_,_,_=>none
def Zjq :List (Nat×TD)→List PV→List PV→Option Bool
 |[],_,_=>some true
 |(o,td)::r,xs,ys=>(xs[o]?).bind fun x=>(ys[o]?).bind fun y=>(scEq td x y).bind fun b=>(Zjq r xs ys).map fun c=>b&&c
def Zm6 (T:Tab) (ti:TI):Option (List (Nat×TD)):=
 match ti.desc with
 |.struct=>if ti.eqf=true∧ti.flds.map (·.1)=List.range ti.flds.length then ti.flds.mapM fun p=>(T.lookup p.2).map fun i=>(p.1,i.desc) else none
 |_=>none
def eqV (how:Option (List (Nat×TD))) (td:TD) (x y:PV):Option Bool:=
 match how with
 | some l=>match x,y with
  |.agg xs,.agg ys=>if xs.length=l.length∧ys.length=l.length then Zjq l xs ys else none
  |_,_=>none
 |none=>scEq td x y
def nilV (x:PV) (b:Bool):Option PV:=match x with|.lst (_::_)=>some (.bool b)|_=>none
def Zoy {R:Type} (T:Tab) (d:Nat) (op:BinOp) (t:TypeId) (x y:SV):Option (Eff R):=
 match T.lookup t with
 | some i=>match i.desc with
  | .struct=>
   match Zm6 T i with
   |none=>none
   | some l=>if x.isV&&y.isV then match op with
    |.eql=>some (Zj d (.ck .val) (ZaV fun x y=>(eqV (some l) .struct x.v y.v).map .bool))
    |.neq=>some (Zj d (.ck .val) (ZaV fun x y=>(eqV (some l) .struct x.v y.v).map fun b=>.bool (!b)))
    |_=>none
   else none
  | .slice _=>if x.isV=true∧y.k=.ck .nil then match op with
   |.eql=>some (Zj d (.ck .val) (ZaV fun x _=>nilV x.v false))
   |.neq=>some (Zj d (.ck .val) (ZaV fun x _=>nilV x.v true))
   |_=>none
   else none
  |_=>ZoT T d op t x y
 |none=>none
section
variable {R :Type} {P:Program} {T:Tab} {o:Oper} {κ κ1:List Kd} {E:Eff R}
variable {w0 :World} {F0:Nat→Prop} {X0:List Nat} {σ:List PV} {a:Act} {w:World} {F F1:Nat→Prop} {fp fp1:Nat→List Nat}
theorem Zk5 {t:TypeId} {ti:TI} (ht:TyOk P t ti) (h:ti.desc=.bool):P.underlying t=some .bool:=by
 have hdd:=ht.hd
 have hu:=ht.hdesc
 rw[h] at hdd
 cases hd2:ht.desc<;>rw[hd2] at hdd<;>simp[ZeR] at hdd
 rw[←hd2];exact hu
theorem Zev {t:TypeId} {ti:TI} (ht:TyOk P t ti) {x y:PV} {b:Bool} {u v:Value} (h:scEq ti.desc x y=some b) (hx:VR w F x u) (hy:VR w F y v):(b=true↔u=v)∧(∀cs,u≠.agg cs)∧(∀cs,v≠.agg cs)∧(∀(d:Nat) (w':World),(Op.equalIn (d+1) t u v).run P w'=.ok b w')∧(∀n,Instr.sameBits n u u=true)∧ti.desc≠.struct∧∃d,P.underlying t=some d∧Instr.sameNow d u v=some b:=by
 unfold scEq at h
 split at h
 ·rename_i hd
  obtain rfl:=hx.bool_eq
  obtain rfl:=hy.bool_eq
  cases h
  have hu:=Zk5 ht hd
  exact ⟨by simp,by simp,by simp,fun d w'=>run_equalIn_bool' w' d t _ _ hu,fun n=>by simp[Instr.sameBits],by rw[hd];simp,_,hu,by simp[Instr.sameNow]⟩
 ·rename_i kt k a' k' b' hd
  obtain rfl:=hx.int_eq
  obtain rfl:=hy.int_eq
  have hu:=ZdF ht hd
  split at h
  ·rename_i hk
   subst hk
   cases h
   exact ⟨by simp,by simp,by simp,fun d w'=>run_equalIn_int w' d t _ _ _ _ hu,fun n=>by simp[Instr.sameBits],by rw[hd];simp,_,hu,by simp[Instr.sameNow]⟩
  ·cases h
 ·rename_i s s' hd
  obtain rfl:=hx.str_eq
  obtain rfl:=hy.str_eq
  cases h
  have hu:=Zhr ht hd
  have hb0:∀p q:List UInt8,((⟨p.toArray⟩:ByteArray)==⟨q.toArray⟩)=(p==q):=fun p q=>by
   show (p.toArray==q.toArray)=(p==q)
   simp
  have hbe:=hb0 s s'
  refine ⟨by simp,by simp,by simp,fun d w'=> ?_,fun n=>by simp[Instr.sameBits,hb0],by rw[hd];simp,_,hu,by simp[Instr.sameNow,hbe]⟩
  simp[Op.equalIn,run_underlying hu,hbe]
 ·cases h
theorem ZhR {t:TypeId} {ti:TI} (ht:TyOk P t ti) (hs:ti.desc≠.struct) {cs:Array Value} {off:Nat} {v:Value} (h:cs[off]?=some v) (w:World):(part t cs off).run P w=.ok v w:=by
 have h1:=ht.run_isAgg w
 have h2:ti.agg=false:=by unfold TI.agg;simpa using hs
 rw[h2] at h1
 simp[part,h1,h]
theorem Zjr (hT:TabOk P T) {us vs:Array Value} {xs ys:List PV} (hx:VR w F (.agg xs) (.agg us)) (hy:VR w F (.agg ys) (.agg vs)) (d:Nat) (w':World):∀(fs:List Field) (l:List (Nat×TD)) (b:Bool),((fs.map fun f=>(f.offset,f.type)).mapM fun p=>(T.lookup p.2).map fun i=>(p.1,i.desc))=some l→(∀f∈fs,f.name≠ "_")→Zjq l xs ys=some b→
 (Op.eqFields (d+1) us vs fs).run P w'=.ok b w'∧(b=true→∀f∈fs,us[f.offset]?=vs[f.offset]?)
 | [],l,b,hl,_,hb=>by
  simp at hl;subst hl
  simp[Zjq] at hb;subst hb
  exact ⟨by simp[Op.eqFields],by simp⟩
 | f ::r,l,b,hl,hn,hb=>by
  simp only[List.map_cons,List.mapM_cons,bind,Option.bind_eq_some_iff,pure,Option.some.injEq] at hl
  obtain ⟨p,hp,l',hl',rfl⟩:=hl
  obtain ⟨ti,hti,rfl⟩:=Option.map_eq_some_iff.1 hp
  obtain ⟨ht⟩:=hT.ty hti
  unfold Zjq at hb
  obtain ⟨x,hx1,hb⟩:=Option.bind_eq_some_iff.1 hb
  obtain ⟨y,hy1,hb⟩:=Option.bind_eq_some_iff.1 hb
  obtain ⟨b1,hb1,hb⟩:=Option.bind_eq_some_iff.1 hb
  obtain ⟨b2,hb2,rfl⟩:=Option.map_eq_some_iff.1 hb
  have gx:∃u,us[f.offset]?=some u∧VR w F x u:=by
   cases hx with
   | agg _ _ h1 h2 h3=>
    have hlt:f.offset<us.size:=by rw[←h1];exact (List.getElem?_eq_some_iff.1 hx1).1
    have:=h3 _ _ hx1
    refine ⟨us[f.offset],Array.getElem?_eq_getElem hlt, ?_⟩
    simpa[Array.getD,hlt] using this
  have gy:∃u,vs[f.offset]?=some u∧VR w F y u:=by
   cases hy with
   | agg _ _ h1 h2 h3=>
    have hlt:f.offset<vs.size:=by rw[←h1];exact (List.getElem?_eq_some_iff.1 hy1).1
    have:=h3 _ _ hy1
    refine ⟨vs[f.offset],Array.getElem?_eq_getElem hlt, ?_⟩
    simpa[Array.getD,hlt] using this
  obtain ⟨u,hu,hxu⟩:=gx
  obtain ⟨v,hv,hyv⟩:=gy
  obtain ⟨e1,e2,e3,e4,_,e5,_⟩:=Zev ht hb1 hxu hyv
  obtain ⟨i1,i2⟩:=Zjr hT hx hy d w' r l' b2 hl' (fun g hg=>hn g (List.mem_cons_of_mem _ hg)) hb2
  have hn1:=hn f List.mem_cons_self
  refine ⟨?_,fun hbt g hg=> ?_⟩
  ·simp only[Op.eqFields,hn1,ne_eq,not_false_eq_true,if_true,Sem.run_bind,ZhR ht e5 hu,ZhR ht e5 hv,Result.andThen_ok,e4]
   cases b1
   ·simp
   ·simpa using i1
  ·simp only[Bool.and_eq_true] at hbt
   rcases List.mem_cons.1 hg with rfl|hg
   ·rw[hu,hv,e1.1 hbt.1]
   ·exact i2 hbt.2 g hg
theorem Zjs {t:TypeId} {ti:TI} (ht:TyOk P t ti) (hs:ti.desc=.struct) (hq:ti.eqf=true):∃fs:Array Field,P.underlying t=some (.struct fs)∧P.fieldsOf t=fs∧ti.flds=fs.toList.map (fun f=>(f.offset,f.type))∧(∀f∈fs.toList,f.name≠ "_")∧P.stoodInHeld t=false∧P.eqGuardType P.depth t=false:=by
 have hdd:=ht.hd
 have hu:=ht.hdesc
 have hf:=ht.hflds
 have he:=ht.heqf
 rw[hs] at hdd
 rw[hq] at he
 cases hd2:ht.desc<;>rw[hd2] at hdd hf he<;>simp[ZeR] at hdd
 rename_i fs
 rw[hd2] at hu
 simp only[ZoR] at he
 have he:=he.symm
 simp only[Bool.and_eq_true,Bool.not_eq_true',List.all_eq_true,bne_iff_ne,ne_eq] at he
 exact ⟨fs,hu,by simp[Program.fieldsOf,hu],hf,fun f hf=>(he.1.1 f hf).1.1,he.1.2,he.2⟩
theorem Zg7 (hT:TabOk P T) {t:TypeId} {ti:TI} (ht:TyOk P t ti) {l:List (Nat×TD)} (hh:Zm6 T ti=some l) {x y:PV} {b:Bool} {u v:Value} (h:eqV (some l) .struct x y=some b) (hx:VR w F x u) (hy:VR w F y v) (d:Nat) (w':World):
 (Op.equalIn (d+2) t u v).run P w'=.ok b w'∧∃us vs,u=.agg us∧v=.agg vs∧P.eqGuardType P.depth t=false:=by
 unfold Zm6 at hh
 split at hh
 case h_2=>cases hh
 rename_i hs
 split at hh
 case isFalse=>cases hh
 rename_i hq
 obtain ⟨hq,_⟩:=hq
 obtain ⟨fs,g1,g2,g3,g4,g5,g6⟩:=Zjs ht hs hq
 simp only[eqV] at h
 split at h
 case h_2=>cases h
 rename_i xs ys
 split at h
 case isFalse=>cases h
 obtain ⟨us,rfl⟩:∃us,u=.agg us:=by cases hx;exact ⟨_,rfl⟩
 obtain ⟨vs,rfl⟩:∃vs,v=.agg vs:=by cases hy;exact ⟨_,rfl⟩
 refine ⟨?_,us,vs,rfl,rfl,g6⟩
 rw[show d+2=(d+1)+1 from rfl,run_equalIn_struct w' (d+1) t us vs (by rw[g2];exact g1) g5,g2]
 rw[g3] at hh
 exact (Zjr hT hx hy d w' fs.toList l b hh g4 h).1
theorem Zm7 {t e:TypeId} (d:Nat) (A:Addr) (n c:Nat) (w:World) (h:P.underlying t=some (.slice e)):(Op.equalIn (d+1) t (.slice (some A) n c) (.slice none 0 0)).run P w=.ok false w:=by
 simp[Op.equalIn,underlying,h]
theorem Zk6 {t e:TypeId} (A:Addr) (n c:Nat) (w:World) (h:P.underlying t=some (.slice e)):(Op.equal t (.slice (some A) n c) (.slice none 0 0)).run P w=.ok false w:=Zm7 9999 A n c w h
theorem ZpO {t e:TypeId} (A:Addr) (n c:Nat) (w:World) (h:P.underlying t=some (.slice e)):(binOp .eql t (.slice (some A) n c) (.slice none 0 0)).run P w=.ok (.bool false) w:=by
 show (do pure (Value.bool (←Op.equal t (.slice (some A) n c) (.slice none 0 0))):Sem Value).run P w=_
 simp only[Sem.run_bind,Zk6 A n c w h,Result.andThen_ok,Sem.run_pure]
theorem ZpP {t e:TypeId} (A:Addr) (n c:Nat) (w:World) (h:P.underlying t=some (.slice e)):(binOp .neq t (.slice (some A) n c) (.slice none 0 0)).run P w=.ok (.bool true) w:=by
 show (do pure (Value.bool (!(←Op.equal t (.slice (some A) n c) (.slice none 0 0)))):Sem Value).run P w=_
 simp only[Sem.run_bind,Zk6 A n c w h,Result.andThen_ok,Sem.run_pure,Bool.not_false]
theorem ZqB (hT:TabOk P T) {op:BinOp} {t ty:TypeId} {x y:Operand} {d:Nat} (hop:o.op=.binOp op t x y ty) (hd:o.dst=some d) (hE:Zoy T d op t (sv κ x) (sv κ y)=some E):ZN P o κ E:=by
 have hops:o.op.operands.toList=[x,y]:=by rw[hop];rfl
 unfold Zoy at hE
 split at hE
 case h_2=>cases hE
 rename_i ti hti
 obtain ⟨ht⟩:=hT.ty hti
 split at hE
 case h_3=>exact ZqL hT hop hd hE
 case h_2=>
  rename_i e hs
  split at hE
  case isFalse=>cases hE
  rename_i hv
  have hu:P.underlying t=some (.slice e):=ZT ht hs
  have key:∀{σ:List PV} {a:Act} {w:World} {F:Nat→Prop} {fp:Nat→List Nat} {w0:World} {F0:Nat→Prop} {X0:List Nat} {b:Bool} {z:PV},St w0 F0 X0 κ σ a.tmps w F fp→nilV (dv κ σ x).v b=some z→z=.bool b∧∃A n c,a.eval x=.slice (some A) n c∧a.eval y=.slice none 0 0:=by
   intro σ a w F fp w0 F0 X0 b z h hz
   unfold nilV at hz
   split at hz
   case h_2=>cases hz
   rename_i y0 l hx
   cases hz
   have h1:=rdS h hv.1
   rw[hx] at h1
   obtain ⟨lb,_,hsr⟩:=h.at' y (by rw[hv.2];simp)
   rw[hv.2] at hsr
   refine ⟨rfl, ?_⟩
   generalize a.eval x=u at h1
   cases h1 with
   | lst _ A c sz vs g1 g2 g3 g4 g5=>
    obtain ⟨b,off,rfl,_⟩:=g3 (by simp)
    exact ⟨_,_,_,rfl,hsr.2.1⟩
  split at hE
  ·cases hE
   refine ZaC hd rfl rfl rfl fun w0 F0 X0 σ a w F fp kk r h htt hlv hdy=> ?_
   rw[hops] at hdy
   obtain ⟨z,hz,hkk⟩:=Option.bind_eq_some_iff.1 hdy
   obtain ⟨rfl,A,n,c,e1,e2⟩:=key h hz
   refine ⟨_,.bool false, ?_,hkk,.bool _⟩
   have hg:=ZdB (P:=P) .eql t x y (.slice (some A) n c) (.slice none 0 0) w ⟨fun cs hc=>(by cases hc),fun hc=>(by cases hc)⟩
   simp[execOp,hop,e1,e2,hg,ZpO A n c w hu,ZpP A n c w hu]
  ·cases hE
   refine ZaC hd rfl rfl rfl fun w0 F0 X0 σ a w F fp kk r h htt hlv hdy=> ?_
   rw[hops] at hdy
   obtain ⟨z,hz,hkk⟩:=Option.bind_eq_some_iff.1 hdy
   obtain ⟨rfl,A,n,c,e1,e2⟩:=key h hz
   refine ⟨_,.bool true, ?_,hkk,.bool _⟩
   have hg:=ZdB (P:=P) .neq t x y (.slice (some A) n c) (.slice none 0 0) w ⟨fun cs hc=>(by cases hc),fun hc=>(by cases hc)⟩
   simp[execOp,hop,e1,e2,hg,ZpO A n c w hu,ZpP A n c w hu]
  ·cases hE
 rename_i hs
 split at hE
 ·cases hE
 rename_i l hl
 split at hE
 case isFalse=>cases hE
 rename_i hv
 simp only[Bool.and_eq_true] at hv
 split at hE
 ·cases hE
  refine ZaC hd rfl rfl rfl fun w0 F0 X0 σ a w F fp kk r h htt hlv hdy=> ?_
  rw[hops] at hdy
  obtain ⟨z,hz,hkk⟩:=Option.bind_eq_some_iff.1 hdy
  obtain ⟨b,hb,rfl⟩:=Option.map_eq_some_iff.1 hz
  obtain ⟨h1,us,vs,h2,h3,h4⟩:=Zg7 hT ht hl hb (rdS h hv.1) (rdS h hv.2) 9998 w
  refine ⟨_,.bool b, ?_,hkk,.bool b⟩
  rw[h2,h3] at h1
  have hg:=run_eqGuard_agg (P:=P) w .eql t x y us vs h4
  simp[execOp,hop,h2,h3,hg,run_eql_struct,h1]
 ·cases hE
  refine ZaC hd rfl rfl rfl fun w0 F0 X0 σ a w F fp kk r h htt hlv hdy=> ?_
  rw[hops] at hdy
  obtain ⟨z,hz,hkk⟩:=Option.bind_eq_some_iff.1 hdy
  obtain ⟨b,hb,rfl⟩:=Option.map_eq_some_iff.1 hz
  obtain ⟨h1,us,vs,h2,h3,h4⟩:=Zg7 hT ht hl hb (rdS h hv.1) (rdS h hv.2) 9998 w
  refine ⟨_,.bool (!b), ?_,hkk,.bool _⟩
  rw[h2,h3] at h1
  have hg:=run_eqGuard_agg (P:=P) w .neq t x y us vs h4
  simp[execOp,hop,h2,h3,hg,run_neq_struct,h1]
 ·cases hE
def Zfd (how:Option (List (Nat×TD))) (td:TD):List (PV×PV)→PV→Nat→Option (Option (Nat×PV))
 |[],_,_=>some none
 |(k',x)::r,k,i=>(eqV how td k k').bind fun b=>if b then some (some (i,x)) else Zfd how td r k (i+1)
def Zm8 (how:Option (List (Nat×TD))) (td:TD) (k:PV):Bool:=(eqV how td k k).isSome
def mapL :PV→Option (List (PV×PV))
 |.map l=>some l
 |_=>none
def Zix (how:Option (List (Nat×TD))) (td:TD) (z m k:PV):Option (PV×Bool):=
 (mapL m).bind fun l=>if Zm8 how td k then (Zfd how td l k 0).map fun r=>match r with|some (_,x)=>(x,true)|none=>(z,false) else none
def putV (how:Option (List (Nat×TD))) (td:TD) (m k x:PV):Option PV:=
 (mapL m).bind fun l=>if Zm8 how td k then (Zfd how td l k 0).map fun r=>match r with|some (i,_)=>.map (l.set i (k,x))|none=>.map (l++[(k,x)]) else none
def SV.mapAt (s:SV):Option (Nat×TypeId×TypeId):=
 match s.k with
 |.mp kt et=>s.slot.map fun q=>(q,kt,et)
 |.ali (.slot q)=>match s.pk with|.mp kt et=>some (q,kt,et)|_=>none
 |_=>none
def Zoz (s:SV) (d:DV):PV:=match s.k with|.mp _ _=>d.v|_=>d.pv
def ZhS (T:Tab) (ki:TI):Option (Option (List (Nat×TD))):=
 match ki.desc with
 |.bool|.int _|.str=>some none
 |.struct=>(Zm6 T ki).map some
 |_=>none
def Zgt {R:Type} (T:Tab) (d:Nat) (t:TypeId) (r:Option Operand):Option (Eff R):=
 match T.lookup t,r with
 | some ti,none=>match ti.desc with
  |.map kt et=>some (Zj d (.mp kt et) fun _ kk=>kk (.map []))
  |_=>none
 |_,_=>none
def ZhT {R:Type} (T:Tab) (d:Nat) (t:TypeId) (ok:Bool) (m k:SV):Option (Eff R):=
 match T.lookup t,m.mapAt with
 | some ti,some (q,kt,et)=>
  match ti.desc,T.lookup kt,T.lookup et with
  | .map kt' et',some ki,some ei=>
   if kt'=kt∧et'=et∧k.isV=true∧(ei.agg=true∨ei.size=1)∧(ei.zero.all fun z=>z≠.other)=true then
    match ZhS T ki,ok with
    |some how,true=>some (Zj d (.grp true [.val,.val]) (ZaV fun x y=>(Zix how ki.desc (ZaN ei) (Zoz m x) y.v).map fun p=>.tup [p.1,.bool p.2]))
    |some how,false=>some (Zj d (.ck .val) (ZaV fun x y=>(Zix how ki.desc (ZaN ei) (Zoz m x) y.v).map (·.1)))
    |none,_=>none
   else none
  |_,_,_=>none
 |_,_=>none
def ZfU {R:Type} (T:Tab) (t:TypeId) (m k x:SV):Option (Eff R):=
 match T.lookup t,m.mapAt with
 | some ti,some (q,kt,et)=>
  match ti.desc,T.lookup kt with
  | .map kt' et',some ki=>
   if kt'=kt∧et'=et∧k.isV=true∧x.isV=true then
    match ZhS T ki with
    |some how=>some {gh:=[],tgt:=q,put:=false,k:=.mp kt et,cut:=.no,dyn:=dyn3 fun a b c=>putV how ki.desc (Zoz m a) b.v c.v}
    |none=>none
   else none
  |_,_=>none
 |_,_=>none
structure EqOk (P:Program) (kt:TypeId) (how:Option (List (Nat×TD))) (td:TD):Prop where
 eq:∀{w:World} {F:Nat→Prop} {x y:PV} {b:Bool} {u v:Value},eqV how td x y=some b→VR w F x u→VR w F y v→(b=true↔u=v)∧(∀w',(Op.equal kt u v).run P w'=.ok b w')∧(∀n,0<n→Instr.sameBits n u u=true)∧(how=none→∃d,P.underlying kt=some d∧Instr.sameNow d u v=some b)∧(how≠none→∀d,Instr.sameNow d u v=none)
 check:∀{w:World} {F:Nat→Prop} {x:PV} {u:Value},Zm8 how td x=true→VR w F x u→∀(e:Bool) (w':World),(Instr.checkKey e 10000 kt u).run P w'=.ok () w'
 und:∃d,P.underlying kt=some d
theorem ZhU (hT:TabOk P T) {us vs:Array Value} {xs ys:List PV} (hx:VR w F (.agg xs) (.agg us)) (hy:VR w F (.agg ys) (.agg vs)):∀(fs:List Field) (l:List (Nat×TD)) (b:Bool),((fs.map fun f=>(f.offset,f.type)).mapM fun p=>(T.lookup p.2).map fun i=>(p.1,i.desc))=some l→Zjq l xs ys=some b→
 ∀f∈fs,∃(ti:TI) (x y:PV) (u v:Value) (b:Bool),T.lookup f.type=some ti∧us[f.offset]?=some u∧vs[f.offset]?=some v∧xs[f.offset]?=some x∧ys[f.offset]?=some y∧VR w F x u∧VR w F y v∧scEq ti.desc x y=some b
 |[],l,b,hl,hb,f,hf=>by simp at hf
 | g ::r,l,b,hl,hb,f,hf=>by
  simp only[List.map_cons,List.mapM_cons,bind,Option.bind_eq_some_iff,pure,Option.some.injEq] at hl
  obtain ⟨p,hp,l',hl',rfl⟩:=hl
  obtain ⟨ti,hti,rfl⟩:=Option.map_eq_some_iff.1 hp
  unfold Zjq at hb
  obtain ⟨x,hx1,hb⟩:=Option.bind_eq_some_iff.1 hb
  obtain ⟨y,hy1,hb⟩:=Option.bind_eq_some_iff.1 hb
  obtain ⟨b1,hb1,hb⟩:=Option.bind_eq_some_iff.1 hb
  obtain ⟨b2,hb2,rfl⟩:=Option.map_eq_some_iff.1 hb
  rcases List.mem_cons.1 hf with rfl|hf
  ·have gx:∃u,us[f.offset]?=some u∧VR w F x u:=by
    cases hx with
    | agg _ _ h1 h2 h3=>
     have hlt:f.offset<us.size:=by rw[←h1];exact (List.getElem?_eq_some_iff.1 hx1).1
     have:=h3 _ _ hx1
     exact ⟨us[f.offset],Array.getElem?_eq_getElem hlt,by simpa[Array.getD,hlt] using this⟩
   have gy:∃u,vs[f.offset]?=some u∧VR w F y u:=by
    cases hy with
    | agg _ _ h1 h2 h3=>
     have hlt:f.offset<vs.size:=by rw[←h1];exact (List.getElem?_eq_some_iff.1 hy1).1
     have:=h3 _ _ hy1
     exact ⟨vs[f.offset],Array.getElem?_eq_getElem hlt,by simpa[Array.getD,hlt] using this⟩
   obtain ⟨u,hu,hxu⟩:=gx
   obtain ⟨v,hv,hyv⟩:=gy
   exact ⟨ti,x,y,u,v,b1,hti,hu,hv,hx1,hy1,hxu,hyv,hb1⟩
  ·exact ZhU hT hx hy r l' b2 hl' hb2 f hf
theorem Zm9 {α β:Type} {f:α→Option β}:∀{l:List α} {r:List β},l.mapM f=some r→r.length=l.length
 |[],r,h=>by simp at h;subst h;rfl
 | a::l,r,h=>by
  simp only[List.mapM_cons,bind,Option.bind_eq_some_iff,pure,Option.some.injEq] at h
  obtain ⟨b,_,r',h',rfl⟩:=h
  simp[Zm9 h']
theorem ZlP {n:Nat} (us:Array Value) (h:∀u∈us.toList,Instr.sameBits n u u=true):Instr.sameBits (n+1) (.agg us) (.agg us)=true:=by
 have:∀l:List Value,(∀u∈l,Instr.sameBits n u u=true)→((l.zip l).all fun (x,y)=>Instr.sameBits n x y)=true:=by
  intro l hl
  induction l with
  |nil=>rfl
  | cons a r ih=>
   simp only[List.zip_cons_cons,List.all_cons,Bool.and_eq_true]
   exact ⟨hl a List.mem_cons_self,ih fun u hu=>hl u (List.mem_cons_of_mem _ hu)⟩
 simp only[Instr.sameBits,beq_self_eq_true,Bool.true_and]
 exact this _ h
theorem ZpQ (hT:TabOk P T) {kt:TypeId} {ki:TI} (hk:T.lookup kt=some ki) {how:Option (List (Nat×TD))} (hh:ZhS T ki=some how):EqOk P kt how ki.desc:=by
 obtain ⟨ht⟩:=hT.ty hk
 unfold ZhS at hh
 have scalar:how=none→(ki.desc=.bool∨(∃q,ki.desc=.int q)∨ki.desc=.str)→EqOk P kt how ki.desc:=by
  rintro rfl hd
  have hund:∃d,P.underlying kt=some d∧(d=.bool∨(∃q,d=.int q)∨d=.string):=by
   rcases hd with hd|⟨q,hd⟩|hd
   ·exact ⟨_,Zk5 ht hd,.inl rfl⟩
   ·exact ⟨_,ZdF ht hd,.inr (.inl ⟨q,rfl⟩)⟩
   ·exact ⟨_,Zhr ht hd,.inr (.inr rfl)⟩
  refine ⟨fun {w F x y b u v} h hx hy=> ?_,fun {w F x u} h hx e w'=> ?_,⟨_,hund.choose_spec.1⟩⟩
  ·obtain ⟨e1,e2,e3,e4,e5,e6,e7⟩:=Zev ht h hx hy
   exact ⟨e1,fun w'=>e4 9999 w',fun n _=>e5 n,fun _=>e7,fun hn=>absurd rfl hn⟩
  ·obtain ⟨d,hd1,hd2⟩:=hund
   unfold Zm8 at h
   obtain ⟨b,hb⟩:=Option.isSome_iff_exists.1 h
   obtain ⟨e1,e2,e3,e4,e5,e6,e7⟩:=Zev ht hb hx hx
   unfold Instr.checkKey
   simp only[Sem.run_bind,run_underlying hd1,Result.andThen_ok]
   rcases hd2 with rfl|⟨q,rfl⟩|rfl<;>rfl
 split at hh
 ·cases hh;rename_i hd;exact scalar rfl (.inl hd)
 ·cases hh;rename_i q hd;exact scalar rfl (.inr (.inl ⟨q,hd⟩))
 ·cases hh;rename_i hd;exact scalar rfl (.inr (.inr hd))
 ·rename_i hs
  obtain ⟨l,hl,rfl⟩:=Option.map_eq_some_iff.1 hh
  have hl0:=hl
  unfold Zm6 at hl0
  rw[hs] at hl0
  dsimp only at hl0
  split at hl0
  case isFalse=>cases hl0
  rename_i hq
  obtain ⟨hq,hrange⟩:=hq
  obtain ⟨fs,g1,g2,g3,g4,g5,g6⟩:=Zjs ht hs hq
  rw[g3] at hl0 hrange
  have hll:l.length=fs.toList.length:=by rw[Zm9 hl0];simp
  have hoff:∀i,i<fs.toList.length→∃f∈fs.toList,f.offset=i:=fun i hi=>by
   refine ⟨fs.toList[i],List.getElem_mem hi, ?_⟩
   have h1:((fs.toList.map fun f=>(f.offset,f.type)).map (·.1))[i]?=some i:=by
    rw[hrange,List.getElem?_range (by simpa using hi)]
   rw[List.map_map,List.getElem?_map,List.getElem?_eq_getElem hi] at h1
   simpa using h1
  refine ⟨fun {w F x y b u v} h hx hy=> ?_,fun {w F x u} h hx e w'=> ?_,⟨_,g1⟩⟩
  ·have h0:=h
   rw[hs] at h0
   obtain ⟨_,us,vs,rfl,rfl,_⟩:=Zg7 hT ht hl h0 hx hy 0 w
   simp only[eqV] at h
   split at h
   case h_2=>cases h
   rename_i xs ys
   split at h
   case isFalse=>cases h
   rename_i hlen
   have hus:us.size=fs.toList.length:=by cases hx;omega
   have hvs:vs.size=fs.toList.length:=by cases hy;omega
   have hfull:=ZhU hT hx hy fs.toList l b hl0 h
   refine ⟨⟨fun hb=> ?_,fun he=> ?_⟩,fun w'=> ?_,fun n hn=> ?_,fun hc=>(by cases hc),fun _ d=>by cases d<;>rfl⟩
   ·have:=(Zjr hT hx hy 0 w fs.toList l b hl0 g4 h).2 hb
    congr 1
    apply Array.ext'
    apply List.ext_getElem?
    intro i
    by_cases hi:i<fs.toList.length
    ·obtain ⟨f,hf,rfl⟩:=hoff i hi
     simpa using this f hf
    ·rw[List.getElem?_eq_none (by simp;omega),List.getElem?_eq_none (by simp;omega)]
   ·have he:us=vs:=by simpa using he
    have hall:∀(fs':List Field) (l':List (Nat×TD)) (b':Bool),(∀f∈fs',f∈fs.toList)→((fs'.map fun f=>(f.offset,f.type)).mapM fun p=>(T.lookup p.2).map fun i=>(p.1,i.desc))=some l'→Zjq l' xs ys=some b'→b'=true:=by
     intro fs'
     induction fs' with
     |nil=>intro l' b' _ h1 h2;simp at h1;subst h1;simp[Zjq] at h2;rw[←h2]
     | cons f r ih=>
      intro l' b' hsub h1 h2
      simp only[List.map_cons,List.mapM_cons,bind,Option.bind_eq_some_iff,pure,Option.some.injEq] at h1
      obtain ⟨p,hp,l'',hl'',rfl⟩:=h1
      obtain ⟨ti,hti,rfl⟩:=Option.map_eq_some_iff.1 hp
      unfold Zjq at h2
      obtain ⟨x1,hx1,h2⟩:=Option.bind_eq_some_iff.1 h2
      obtain ⟨y1,hy1,h2⟩:=Option.bind_eq_some_iff.1 h2
      obtain ⟨b1,hb1,h2⟩:=Option.bind_eq_some_iff.1 h2
      obtain ⟨b2,hb2,rfl⟩:=Option.map_eq_some_iff.1 h2
      obtain ⟨ti',x',y',u',v',b'',q1,q2,q3,q4,q5,q6,q7,q8⟩:=hfull f (hsub f List.mem_cons_self)
      rw[hti] at q1;cases q1
      rw[hx1] at q4;cases q4
      rw[hy1] at q5;cases q5
      rw[hb1] at q8;cases q8
      obtain ⟨hti'⟩:=hT.ty hti
      have hv:u'=v':=by rw[he] at q2;rw[q2] at q3;exact Option.some.inj q3
      have hb1t:=(Zev hti' hb1 q6 q7).1.2 hv
      have:=ih l'' b2 (fun g hg=>hsub g (List.mem_cons_of_mem _ hg)) hl'' hb2
      rw[hb1t,this];rfl
    exact hall fs.toList l b (fun _ h=>h) hl0 h
   ·have h2:=Zg7 hT ht hl h0 hx hy 9998 w'
    exact h2.1
   ·obtain ⟨m,rfl⟩:∃m,n=m+1:=⟨n - 1,by omega⟩
    refine ZlP us fun u hu=> ?_
    obtain ⟨i,hi⟩:=List.mem_iff_getElem?.1 hu
    have hlt:i<fs.toList.length:=by have:=(List.getElem?_eq_some_iff.1 hi).1;simp at this;omega
    obtain ⟨f,hf,rfl⟩:=hoff i hlt
    obtain ⟨ti',x',y',u',v',b'',q1,q2,q3,q4,q5,q6,q7,q8⟩:=hfull f hf
    obtain ⟨hti'⟩:=hT.ty q1
    have:u'=u:=by
     have h3:us[f.offset]?=some u:=by simpa using hi
     rw[q2] at h3;exact Option.some.inj h3
    subst this
    exact (Zev hti' q8 q6 q7).2.2.2.2.1 m
  ·unfold Zm8 at h
   obtain ⟨b,hb⟩:=Option.isSome_iff_exists.1 h
   have h0:=hb
   rw[hs] at h0
   obtain ⟨_,us,_,rfl,_,_⟩:=Zg7 hT ht hl h0 hx hx 0 w
   simp only[eqV] at hb
   split at hb
   case h_2=>cases hb
   rename_i xs ys e1 e2
   split at hb
   case isFalse=>cases hb
   have hfull:=ZhU hT hx hx fs.toList l b hl0 hb
   have key:∀(l:List Field) (w':World),(∀f∈l,f∈fs.toList)→(forIn l PUnit.unit fun f _=>(do if f.name≠ "_" then do Instr.checkKey e 9999 f.type (←part f.type us f.offset);pure (ForInStep.yield PUnit.unit) else pure (ForInStep.yield PUnit.unit):Sem (ForInStep PUnit))).run P w'=.ok PUnit.unit w':=by
    intro l
    induction l with
    |nil=>intro w' _;simp
    | cons f r ih=>
     intro w' hsub
     obtain ⟨ti',x',y',u',v',b'',q1,q2,q3,q4,q5,q6,q7,q8⟩:=hfull f (hsub f List.mem_cons_self)
     obtain ⟨hti'⟩:=hT.ty q1
     obtain ⟨_,_,_,_,_,r6,d,r7,r8⟩:=Zev hti' q8 q6 q7
     have hc:(Instr.checkKey e 9999 f.type u').run P w'=.ok () w':=by
      unfold Instr.checkKey
      simp only[Sem.run_bind,run_underlying r7,Result.andThen_ok]
      cases d<;>simp[Instr.sameNow] at r8<;>rfl
     have hn:=g4 f (hsub f List.mem_cons_self)
     simp only[List.forIn_cons,Sem.run_bind]
     rw[if_pos hn]
     simp only[Sem.run_bind,ZhR hti' r6 q2,Result.andThen_ok,hc,Sem.run_pure]
     exact ih w' fun g hg=>hsub g (List.mem_cons_of_mem _ hg)
   have:=key fs.toList w' (fun _ h=>h)
   unfold Instr.checkKey
   simp only[Sem.run_bind,run_underlying g1,Result.andThen_ok]
   rw[←Array.forIn_toList,this]
   rfl
 ·cases hh
inductive Fnd (w:World) (F:Nat→Prop) (ku:Value) (es:List MapEntry) (i:Nat):Option (Nat×PV)→Option (Nat×Value)→Prop
 |no:Fnd w F ku es i none none
 |yes {j:Nat} {x:PV} {e:MapEntry} (hj:i≤j) (he:es[j - i]?=some e) (hk:e.key=ku) (hx:VR w F x e.val):Fnd w F ku es i (some (j,x)) (some (j,e.val))
theorem Fnd.step {w:World} {F:Nat→Prop} {ku:Value} {e:MapEntry} {es:List MapEntry} {i:Nat} {r:Option (Nat×PV)} {v:Option (Nat×Value)} (h:Fnd w F ku es (i+1) r v):Fnd w F ku (e::es) i r v:=by
 cases h with
 |no=>exact .no
 | yes hj he hk hx=>
  rename_i j x e'
  refine .yes (by omega) ?_ hk hx
  rw[show j - i=(j - (i+1))+1 from by omega]
  simpa using he
theorem Zna {kt:TypeId} {td:TD} (he:EqOk P kt none td) {k:PV} {ku:Value} (hk:VR w F k ku) {d:TypeDesc} (hd:P.underlying kt=some d):∀(l:List (PV×PV)) (es:List MapEntry) (i:Nat) (res:Option (Nat×PV)),MapR w F l es→Zfd none td l k i=some res→∃r,Instr.findNow d ku es i=some r∧Fnd w F ku es i res r
 |[],es,i,res,hm,h=>by cases hm;simp[Zfd] at h;subst h;exact ⟨none,rfl,.no⟩
 | (k',x)::l,es,i,res,hm,h=>by
  cases hm with
  | cons hk' hx ht=>
   rename_i e es
   unfold Zfd at h
   obtain ⟨b,hb,h⟩:=Option.bind_eq_some_iff.1 h
   obtain ⟨e1,e2,e3,e4,_⟩:=he.eq hb hk hk'
   obtain ⟨d',hd',hs⟩:=e4 rfl
   rw[hd] at hd';cases hd'
   cases b
   ·simp only[Bool.false_eq_true,if_false] at h
    obtain ⟨r,h1,h2⟩:=Zna he hk hd l es (i+1) res ht h
    exact ⟨r,by simp[Instr.findNow,hs,h1],h2.step⟩
   ·simp only[if_true] at h
    cases h
    exact ⟨_,by simp[Instr.findNow,hs],.yes (Nat.le_refl _) (by simp) (e1.1 rfl).symm hx⟩
theorem Znb {kt:TypeId} {td:TD} {how:Option (List (Nat×TD))} (he:EqOk P kt how td) {k:PV} {ku:Value} (hk:VR w F k ku) (w':World):∀(l:List (PV×PV)) (es:List MapEntry) (i:Nat) (res:Option (Nat×PV)),MapR w F l es→Zfd how td l k i=some res→∃r,(Instr.findAsking kt ku es i).run P w'=.ok r w'∧Fnd w F ku es i res r
 |[],es,i,res,hm,h=>by cases hm;simp[Zfd] at h;subst h;exact ⟨none,rfl,.no⟩
 | (k',x)::l,es,i,res,hm,h=>by
  cases hm with
  | cons hk' hx ht=>
   rename_i e es
   unfold Zfd at h
   obtain ⟨b,hb,h⟩:=Option.bind_eq_some_iff.1 h
   obtain ⟨e1,e2,e3,e4,_⟩:=he.eq hb hk hk'
   cases b
   ·simp only[Bool.false_eq_true,if_false] at h
    obtain ⟨r,h1,h2⟩:=Znb he hk w' l es (i+1) res ht h
    exact ⟨r,by simp[Instr.findAsking,e2,h1],h2.step⟩
   ·simp only[if_true] at h
    cases h
    exact ⟨_,by simp[Instr.findAsking,e2],.yes (Nat.le_refl _) (by simp) (e1.1 rfl).symm hx⟩
theorem Znc {kt:TypeId} {td:TD} {how:Option (List (Nat×TD))} (he:EqOk P kt how td) {k:PV} {ku:Value} (hk:VR w F k ku) (w':World) {l:List (PV×PV)} {es:List MapEntry} {res:Option (Nat×PV)} (hm:MapR w F l es) (h:Zfd how td l k 0=some res):∃r,(Instr.findKey kt ku es).run P w'=.ok r w'∧Fnd w F ku es 0 res r:=by
 obtain ⟨d,hd⟩:=he.und
 unfold Instr.findKey
 simp only[Sem.run_bind,run_underlying hd,Result.andThen_ok]
 cases how with
 | none=>
  obtain ⟨r,h1,h2⟩:=Zna he hk hd l es 0 res hm h
  exact ⟨r,by rw[h1];rfl,h2⟩
 | some ll=>
  cases hm with
  |nil=>simp[Zfd] at h;subst h;exact ⟨none,rfl,.no⟩
  | cons hk' hx ht=>
   obtain ⟨r,h1,h2⟩:=Znb he hk w' _ _ 0 res (.cons hk' hx ht) h
   unfold Zfd at h
   obtain ⟨b,hb,h⟩:=Option.bind_eq_some_iff.1 h
   have hn:=(he.eq hb hk hk').2.2.2.2 (by simp) d
   exact ⟨r,by simp[Instr.findNow,hn,h1],h2⟩
theorem ZoA (h:St w0 F0 X0 κ σ a.tmps w F fp) {x:Operand} (hlx:ZaM κ σ x) {q:Nat} {kt et:TypeId} (hm:(sv κ x).mapAt=some (q,kt,et)):∃(b clock:Nat) (es:Array MapEntry) (l:List (PV×PV)),kd κ q=.mp kt et∧tv a.tmps q=.map (some b)∧a.eval x=.map (some b)∧Zoz (sv κ x) (dv κ σ x)=.map l∧w.heap[b]?=some (.map es clock)∧MapR w F l es.toList∧b∈fp q:=by
 unfold SV.mapAt at hm
 split at hm
 ·rename_i kt' et' hk
  obtain ⟨s,hs,e⟩:=Option.map_eq_some_iff.1 hm
  cases e
  obtain rfl:=Zav hs
  have hk':kd κ q=.mp kt et:=hk
  obtain ⟨lb,hn,hsub,hsr⟩:=h.sr q
  rw[hk'] at hsr
  obtain ⟨b,clock,es,l,h1,h2,h3,h4,rfl⟩:=hsr
  refine ⟨b,clock,es,l,hk',h1,h1, ?_,h3,h4,hsub b (by simp)⟩
  unfold Zoz;rw[hk];exact h2
 ·rename_i q' hk
  split at hm
  case h_2=>cases hm
  rename_i kt' et' hpk
  cases hm
  have hk':kOp κ x=.ali (.slot q):=hk
  have hq:kd κ q=.mp kt et:=by simpa[sv,hk',Kd.dep,Place.of] using hpk
  obtain ⟨lb,hn,hsub,hsr⟩:=h.sr q
  rw[hq] at hsr
  obtain ⟨b,clock,es,l,h1,h2,h3,h4,rfl⟩:=hsr
  have hal:=h.al' x hlx
  rw[hk] at hal
  have e3:tv a.tmps q=a.eval x:=hal
  refine ⟨b,clock,es,l,hq,h1,by rw[←e3];exact h1, ?_,h3,h4,hsub b (by simp)⟩
  unfold Zoz;rw[hk]
  simpa[dv,hk',Kd.dep,Place.of] using h2
 ·cases hm
theorem Zg8 {t:TypeId} {ti:TI} (ht:TyOk P t ti) {k e:TypeId} (h:ti.desc=.map k e):P.underlying t=some (.map k e):=by
 have hdd:=ht.hd
 have hu:=ht.hdesc
 rw[h] at hdd
 cases hd2:ht.desc<;>rw[hd2] at hdd<;>simp[ZeR] at hdd
 rw[hdd.1,hdd.2,←hd2];exact hu
theorem Zky (hT:TabOk P T) {t:TypeId} {r:Option Operand} {d:Nat} (hop:o.op=.makeMap t r) (hd:o.dst=some d) (hE:Zgt T d t r=some E):ZN P o κ E:=by
 unfold Zgt at hE
 split at hE
 case h_2=>cases hE
 rename_i ti hti
 split at hE
 case h_2=>cases hE
 rename_i kt et hds
 cases hE
 refine ZJ hd rfl rfl fun w0 F0 X0 σ a w F fp kk r h htt hlv hdy=> ?_
 refine ⟨_,.map (some w.heap.size),w.alloc (.map #[] 0),F,[w.heap.size],by simp[execOp,hop,Instr.makeMap],hdy,(Adds.refl w h.fl).alloc _,by simp,⟨w.heap.size,0, #[],[],rfl,rfl,heap_alloc_new w _,.nil,rfl⟩,fun b hb=> ?_,fun _=>trivial,fun q hq=>by simp[Zj,Kd.bdep] at hq⟩
 simp at hb;subst hb;exact ⟨Nat.le_refl _,by simp,fun hc=>by have:=h.fl _ hc;omega⟩
theorem ZeO (hT:TabOk P T) {t kt et:TypeId} {ti ki ei:TI} (ht:TyOk P t ti) (hds:ti.desc=.map kt et) (hk:T.lookup kt=some ki) (he:TyOk P et ei) (hz:(ei.zero.all fun z=>z≠.other)=true) (hs:ei.agg=true∨ei.size=1) {how:Option (List (Nat×TD))} (hh:ZhS T ki=some how) {l:List (PV×PV)} {es:Array MapEntry} {b clock:Nat} (hb:w.heap[b]?=some (.map es clock)) (hm:MapR w F l es.toList) {k:PV} {ku:Value} (hku:VR w F k ku) {p:PV×Bool} (hl:Zix how ki.desc (ZaN ei) (.map l) k=some p) (ok:Bool):
 ∃u,(Instr.lookup t (.map (some b)) ku ok).run P w=.ok (if ok then .tuple #[u,.bool p.2] else u) w∧VR w F p.1 u:=by
 have heq:=ZpQ hT hk hh
 unfold Zix at hl
 simp only[mapL,Option.bind_some] at hl
 split at hl
 case isFalse=>cases hl
 rename_i hko
 obtain ⟨res,hres,rfl⟩:=Option.map_eq_some_iff.1 hl
 obtain ⟨r,h1,h2⟩:=Znc heq hku w hm hres
 have hc:=heq.check hko hku es.isEmpty w
 have hget:(getObj b).run P w=.ok (.map es clock) w:=by simp[getObj,Sem.run,hb]
 have hz0:=he.run_zero w
 have hzv:VR w F (ZaN ei) he.zv:=by
  obtain ⟨u,z1,z2,z3,z4⟩:=Zi3 he hz hs (w:=w) (F:=F)
  have:u=he.zv:=by
   cases ha:ei.agg
   ·have hna:=he.hnagg ha
    have hone:(ZaN ei).one=true:=by
     unfold ZaN;rw[ha]
     simp only[Bool.false_eq_true,if_false]
     have hs1:ei.size=1:=by rcases hs with hs|hs;rw[ha] at hs;cases hs;exact hs
     have hl1:ei.zero.length=1:=by rw[he.hzero];have:=he.hzs;simp;omega
     match hz:ei.zero,hl1 with
     |[z],_=>simpa using ZjE z
    have h3:=z1.oneCell hone
    have h4:he.zv.cells= #[he.zv]:=by
     cases hv:he.zv<;>first|rfl|exact absurd hv (hna _)
    rw[h3,h4] at z2
    simpa using z2
   ·obtain ⟨cs,hcs⟩:=he.hagg ha
    have hag:∃us,u=.agg us:=by
     unfold ZaN at z1;rw[ha] at z1
     simp only[if_true] at z1
     cases z1;exact ⟨_,rfl⟩
    obtain ⟨us,rfl⟩:=hag
    rw[hcs] at z2⊢
    simp only[Value.cells] at z2
    rw[z2]
  rw[←this];exact z1
 cases h2 with
 | no=>
  refine ⟨he.zv, ?_,hzv⟩
  unfold Instr.lookup
  simp only[Sem.run_bind,run_underlying (Zg8 ht hds),Result.andThen_ok,hget,hc,Sem.run_pure,h1,hz0]
 | yes hj hee hkk hx=>
  refine ⟨_, ?_,hx⟩
  unfold Instr.lookup
  simp only[Sem.run_bind,run_underlying (Zg8 ht hds),Result.andThen_ok,hget,hc,Sem.run_pure,h1]
theorem ZlQ (hT:TabOk P T) {t:TypeId} {m k:Operand} {ok:Bool} {d:Nat} (hop:o.op=.lookup t m k ok) (hd:o.dst=some d) (hE:ZhT T d t ok (sv κ m) (sv κ k)=some E):ZN P o κ E:=by
 have hops:o.op.operands.toList=[m,k]:=by rw[hop];rfl
 unfold ZhT at hE
 split at hE
 case h_2=>cases hE
 rename_i ti q kt et hti hmat
 obtain ⟨ht⟩:=hT.ty hti
 split at hE
 case h_2=>cases hE
 rename_i kt' et' ki ei hds hki hei
 obtain ⟨he⟩:=hT.ty hei
 split at hE
 case isFalse=>cases hE
 rename_i hc
 obtain ⟨rfl,rfl,hkv,hs,hz⟩:=hc
 split at hE
 ·rename_i how hh
  cases hE
  refine ZJ hd rfl rfl fun w0 F0 X0 σ a w F fp kk r h htt hlv hdy=> ?_
  have hlm:=Zc hlv (x:=m) (by rw[hops];exact .head _)
  rw[hops] at hdy
  obtain ⟨z,hz',hkk⟩:=Option.bind_eq_some_iff.1 hdy
  obtain ⟨p,hp,rfl⟩:=Option.map_eq_some_iff.1 hz'
  obtain ⟨b,clock,es,l,e1,e2,e3,e4,e5,e6,e7⟩:=ZoA h hlm hmat
  rw[e4] at hp
  obtain ⟨u,r1,r2⟩:=ZeO hT ht hds hki he hz hs hh e5 e6 (rdS h hkv) hp true
  refine ⟨_,.tuple #[u,.bool p.2],w,F,[],by simp[execOp,hop,e3,r1],hkk,Adds.refl w h.fl,List.nodup_nil,⟨#[u,.bool p.2],[p.1,.bool p.2],[[],[]],rfl,rfl,.cons ⟨r2,rfl⟩ (fun hc=>by cases hc) (.cons ⟨.bool _,rfl⟩ (fun hc=>by cases hc) .nil),rfl⟩,by simp,fun _=>trivial,fun q hq=>by simp[Zj,Kd.bdep] at hq⟩
 ·rename_i how hh
  cases hE
  refine ZaC hd rfl rfl rfl fun w0 F0 X0 σ a w F fp kk r h htt hlv hdy=> ?_
  have hlm:=Zc hlv (x:=m) (by rw[hops];exact .head _)
  rw[hops] at hdy
  obtain ⟨z,hz',hkk⟩:=Option.bind_eq_some_iff.1 hdy
  obtain ⟨p,hp,rfl⟩:=Option.map_eq_some_iff.1 hz'
  obtain ⟨b,clock,es,l,e1,e2,e3,e4,e5,e6,e7⟩:=ZoA h hlm hmat
  rw[e4] at hp
  obtain ⟨u,r1,r2⟩:=ZeO hT ht hds hki he hz hs hh e5 e6 (rdS h hkv) hp false
  exact ⟨_,u,by simp[execOp,hop,e3,r1],hkk,r2⟩
 ·cases hE
theorem MapR.append {l l':List (PV×PV)} {es es':List MapEntry} (h:MapR w F l es) (h':MapR w F l' es'):MapR w F (l++l') (es++es'):=by
 induction h with
 |nil=>exact h'
 |cons hk hx ht ih=>exact .cons hk hx ih
theorem MapR.setAt {l:List (PV×PV)} {es:List MapEntry} (h:MapR w F l es) (i:Nat) {k x:PV} {e:MapEntry} (hk:VR w F k e.key) (hx:VR w F x e.val):MapR w F (l.set i (k,x)) (es.set i e):=by
 induction h generalizing i with
 |nil=>exact .nil
 | cons hk' hx' ht ih=>
  cases i with
  |zero=>exact .cons hk hx ht
  |succ i=>exact .cons hk' hx' (ih i)
def wOb (w:World) (b:Nat) (o:Obj):World:={w with heap:=w.heap.setIfInBounds b o}
theorem Zg9 (hT:TabOk P T) {t:TypeId} {m k x:Operand} (hop:o.op=.mapUpdate t m k x∨o.op=.insert t m k x) (hd:o.dst=none) (hE:ZfU T t (sv κ m) (sv κ k) (sv κ x)=some E):ZN P o κ E:=by
 have hops:o.op.operands.toList=[m,k,x]:=by rcases hop with hop|hop<;>rw[hop]<;>rfl
 have hex:∀(ρ:Operand→Value),execOp ρ o=(do Instr.mapUpdate t (ρ m) (ρ k) (ρ x);pure .skip):=fun ρ=>by rcases hop with hop|hop<;>simp[execOp,hop]
 unfold ZfU at hE
 split at hE
 case h_2=>cases hE
 rename_i ti q kt et hti hmat
 obtain ⟨ht⟩:=hT.ty hti
 split at hE
 case h_2=>cases hE
 rename_i kt' et' ki hds hki
 split at hE
 case isFalse=>cases hE
 rename_i hc
 obtain ⟨rfl,rfl,hkv,hxv⟩:=hc
 split at hE
 case h_2=>cases hE
 rename_i how hh
 cases hE
 have heq:=ZpQ hT hki hh
 refine ZdC hd rfl fun w0 F0 X0 κ1 σ a w F F1 fp fp1 kk r h h1 htt hg hF hfp hall hlv hdy=> ?_
 cases hg
 have hlm:=Zc hlv (x:=m) (by rw[hops];exact .head _)
 rw[hops] at hdy
 obtain ⟨z,hz',hkk⟩:=Option.bind_eq_some_iff.1 hdy
 obtain ⟨b,clock,es,l,e1,e2,e3,e4,e5,e6,e7⟩:=ZoA h1 hlm hmat
 replace hz':putV how ki.desc (Zoz (sv κ m) (dv κ σ m)) (dv κ σ k).v (dv κ σ x).v=some z:=hz'
 rw[e4] at hz'
 unfold putV at hz'
 simp only[mapL,Option.bind_some] at hz'
 split at hz'
 case isFalse=>cases hz'
 rename_i hko
 obtain ⟨res,hres,rfl⟩:=Option.map_eq_some_iff.1 hz'
 have hku:=rdS h1 hkv
 have hxu:=rdS h1 hxv
 obtain ⟨rr,f1,f2⟩:=Znc heq hku w e6 hres
 have hchk:=heq.check hko hku false w
 have hget:(getObj b).run P w=.ok (.map es clock) w:=by simp[getObj,Sem.run,e5]
 have hset:∀o',(setObj b o').run P w=.ok () (wOb w b o'):=fun o'=>by simp[setObj,Sem.run,e5,wOb]
 have fin:∀(es':Array MapEntry) (clock':Nat) (l':List (PV×PV)),(Instr.mapUpdate t (a.eval m) (a.eval k) (a.eval x)).run P w=.ok () (wOb w b (.map es' clock'))→MapR w F1 l' es'.toList→kk (.map l')=some r→
  ∃(x':PV) (w':World) (ll:List Nat),(execOp a.eval o).run P w=.ok .skip w'∧kk x'=some r∧w'.os=w.os∧w'.tape=w.tape∧w'.output=w.output∧w'.heap.size=w.heap.size∧(∀c,c<w.heap.size→c∉fp1 q→w'.heap[c]?=w.heap[c]?)∧ll.Nodup∧SR w' F1 (.mp kt' et') x' (tv a.tmps q) ll∧(∀c∈ll,c∈fp1 q)∧(Kd.mp kt' et').dep=none∧((kd κ q).isBox=true→(Kd.mp kt' et').isBox=true∧∀k y u,k.bdep=some q→Cut.fn q .no k=false→Al a.tmps w k y u→Al a.tmps (wOb w b (.map es' clock')) k y u):=by
  intro es' clock' l' hrun hm' hk'
  have hblt:b<w.heap.size:=(Array.getElem?_eq_some_iff.1 e5).1
  have hother:∀c,c≠b→(wOb w b (.map es' clock')).heap[c]?=w.heap[c]?:=fun c hc=>by
   simp[wOb,Array.getElem?_setIfInBounds_ne (Ne.symm hc)]
  have hself:(wOb w b (.map es' clock')).heap[b]?=some (.map es' clock'):=by
   simp[wOb,hblt]
  have hst:Stays w F1 (wOb w b (.map es' clock')) F1:=⟨fun _ h=>h,fun c hc=>hother c fun e=>(h1.pr _ b e7).2.1 (e▸hc)⟩
  refine ⟨.map l',wOb w b (.map es' clock'),[b],by rw[hex];simp[hrun],hk',rfl,rfl,rfl,by simp[wOb],fun c _ hc=>hother c fun e=>hc (e▸e7),by simp,⟨b,clock',es',l',e2,rfl,hself,hm'.keep hst,rfl⟩,by simpa using e7,rfl,fun hb=>by rw[e1] at hb;cases hb⟩
 have cut0:∀(w':World) (c:(kd κ q).isBox=true),False:=fun _ c=>by rw[e1] at c;cases c
 cases f2 with
 | no=>
  have hrun:(Instr.mapUpdate t (a.eval m) (a.eval k) (a.eval x)).run P w=.ok () (wOb w b (.map (es.push {key:=a.eval k,val:=a.eval x,born:=clock}) (clock+1))):=by
   unfold Instr.mapUpdate
   simp only[Sem.run_bind,run_underlying (Zg8 ht hds),Result.andThen_ok,e3,hget,hchk,f1,hset]
  obtain ⟨x',w',ll,q1,q2,q3,q4,q5,q6,q7,q8,q9,q10,q11,q12⟩:=fin _ _ (l++[((dv κ σ k).v,(dv κ σ x).v)]) hrun (by rw[Array.toList_push];exact e6.append (.cons hku hxu .nil)) hkk
  exact ⟨x',w',ll,q1,q2,q3,q4,q5,q6,q7,q8,q9,q10,q11,fun hb=>(cut0 w' hb).elim⟩
 | yes hj hee hkk' hx=>
  rename_i j x0 e0
  rw[Nat.sub_zero] at hee
  have hee':es[j]?=some e0:=by simpa using hee
  have hold:((es[j]?).map (·.key)).getD (a.eval k)=a.eval k:=by rw[hee'];simp[hkk']
  have hsame:Instr.sameBits 10000 (a.eval k) (a.eval k)=true:=by
   obtain ⟨bb,hbb⟩:=Option.isSome_iff_exists.1 hko
   exact (heq.eq hbb hku hku).2.2.1 10000 (by omega)
  have hstay:(Instr.keyThatStays (a.eval k) (a.eval k)).run P w=.ok (a.eval k) w:=by simp[Instr.keyThatStays,hsame]
  have hrun:(Instr.mapUpdate t (a.eval m) (a.eval k) (a.eval x)).run P w=.ok () (wOb w b (.map (es.modify j fun e=>{e with key:=a.eval k,val:=a.eval x}) clock)):=by
   unfold Instr.mapUpdate
   simp only[Sem.run_bind,run_underlying (Zg8 ht hds),Result.andThen_ok,e3,hget,hchk,f1,hset]
   simp only[hold,hstay,Result.andThen_ok,hset]
  have hmod:(es.modify j fun e=>{e with key:=a.eval k,val:=a.eval x}).toList=es.toList.set j {e0 with key:=a.eval k,val:=a.eval x}:=by
   apply List.ext_getElem?
   intro i
   rw[List.getElem?_set]
   by_cases hij:j=i
   ·subst hij
    have hlt:j<es.size:=(Array.getElem?_eq_some_iff.1 hee').1
    have:es[j]=e0:=by have:=Array.getElem?_eq_some_iff.1 hee';exact this.2
    simp[hlt,Array.getElem_modify,this]
   ·simp[hij,Array.getElem?_modify]
  obtain ⟨x',w',ll,q1,q2,q3,q4,q5,q6,q7,q8,q9,q10,q11,q12⟩:=fin _ _ (l.set j ((dv κ σ k).v,(dv κ σ x).v)) hrun (by rw[hmod];exact e6.setAt j (e:={e0 with key:=a.eval k,val:=a.eval x}) hku hxu) hkk
  exact ⟨x',w',ll,q1,q2,q3,q4,q5,q6,q7,q8,q9,q10,q11,fun hb=>(cut0 w' hb).elim⟩
def ZiY {R:Type} (d:Nat):Eff R:={gh:=[],tgt:=d,put:=true,k:=.ck .none,cut:=.no,dyn:=fun _ _=>none}
theorem Zgu {d:Nat}:ZN P o κ (ZiY (R:=R) d):=by
 intro w0 F0 X0 κ' σ a w F fp kk r K Q h hκ hlv hdy hK
 cases hdy
def ZhV (q:Nat):Nat→List CK→List Gh
 |_,[]=>[]
 |i,.own app e sz::r=>⟨q,some i,true,app,e,sz⟩::ZhV q (i+1) r
 |i,_::r=>ZhV q (i+1) r
def isMv (T:Tab) (t:TypeId):Bool:=decide (2≤(T.filter fun p=>p.1==t).length)
def Zjt {R:Type} (T:Tab) (d:Nat) (t:TypeId) (a:SV):Option (Eff R):=
 match T.lookup t,a.boxAt with
 | some ti,some (q,ks,off)=>
  if ti.agg=true∧((((ks.drop off).take ti.size).all ckV)=false∨(isMv T t=true∧(((ks.drop off).take ti.size).any fun k=>k=.nil)=true)) then
   if isMv T t=true then
    if q≠d∧((ks.drop off).take ti.size).length=ti.size then some {gh:=ZcA q off ((ks.drop off).take ti.size),tgt:=d,put:=true,k:=.grp false ((ks.drop off).take ti.size),cut:=.no,dyn:=Zbl fun x=>Zb true off ti.size (ZcQ a x)} else none
   else
   if q≠d∧(((ks.drop off).take ti.size).all fun k=>k≠.none)=true then some {gh:=ZhV q off ((ks.drop off).take ti.size),tgt:=d,put:=true,k:=.ck .val,cut:=.no,dyn:=Zbl fun x=>Zb true off ti.size (ZcQ a x)} else none
  else Zi0 T d t a
 |_,_=>Zi0 T d t a
theorem Zju {q:Nat}:∀(ks:List CK) (i:Nat) (g:Gh),g∈ZhV q i ks→g.s=q∧g.fz=true∧∃j,g.i=some (i+j)
 |[],i,g,h=>by cases h
 | k::r,i,g,h=>by
  have rec':g∈ZhV q (i+1) r→g.s=q∧g.fz=true∧∃j,g.i=some (i+j):=fun h'=>by
   obtain ⟨h1,h2,j,h3⟩:=Zju r (i+1) g h'
   exact ⟨h1,h2,j+1,by rw[h3];congr 1;omega⟩
  cases k with
  | own app e sz=>
   simp only[ZhV] at h
   rcases List.mem_cons.1 h with rfl|h
   ·exact ⟨rfl,rfl,0,rfl⟩
   ·exact rec' h
  |none=>exact rec' h
  |val=>exact rec' h
  |nil=>exact rec' h
theorem ZpR {q:Nat} {app:Bool} {e:TypeId} {sz:Nat}:∀(ks:List CK) (i j:Nat),ks[j]?=some (.own app e sz)→∃g∈ZhV q i ks,g.i=some (i+j)
 |[],i,j,h=>by simp at h
 |k::r,i,0,h=>by simp at h;subst h;exact ⟨_,List.mem_cons_self,rfl⟩
 | k::r,i,j+1,h=>by
  obtain ⟨g,hg,hi⟩:=ZpR r (i+1) j (by simpa using h)
  refine ⟨g, ?_,by rw[hi];congr 1;omega⟩
  cases k<;>simp only[ZhV]<;>first|exact hg|exact List.mem_cons_of_mem _ hg
theorem Zk7 {tgt q:Nat} {TT:TypeId}:∀(gs:List Gh) (κ κ1:List Kd) (ks:List CK),(∀g∈gs,g.s=q∧g.fz=true∧∃j,g.i=some j)→kd κ q=.box TT ks→Zac tgt gs κ=some κ1→
 ∃ks1,kd κ1 q=.box TT ks1∧ks1.length=ks.length∧(∀i,i<ks.length→(∃g∈gs,g.i=some i)→ks1[i]?=some .val)∧(∀i,(∀g∈gs,g.i≠some i)→ks1[i]?=ks[i]?)
 |[],κ,κ1,ks,_,hk,h=>by cases h;exact ⟨ks,hk,rfl,(fun i _ hg=>by obtain ⟨g,hg,_⟩:=hg;cases hg),fun i _=>rfl⟩
 | g ::r,κ,κ1,ks,hg,hk,h=>by
  obtain ⟨g1,g2,j,g3⟩:=hg g List.mem_cons_self
  unfold Zac at h
  obtain ⟨κm,h1,h2⟩:=Option.bind_eq_some_iff.1 h
  unfold Gh.act at h1
  split at h1
  ·cases h1
  split at h1
  case isFalse=>cases h1
  rename_i hlt
  obtain ⟨k,hk1,rfl⟩:=Option.map_eq_some_iff.1 h1
  rw[g1,hk] at hk1
  simp only[Gh.kind,g3] at hk1
  split at hk1
  case isFalse=>cases hk1
  cases hk1
  have hkm:kd (Zga κ g.s g.cut (.box TT (ks.set j g.ck))) q=.box TT (ks.set j g.ck):=by
   rw[ZbI _ _ _ _ _ hlt,if_pos g1.symm]
  obtain ⟨ks1,e1,e2,e3,e4⟩:=Zk7 r _ κ1 _ (fun g' hg'=>hg g' (List.mem_cons_of_mem _ hg')) hkm h2
  have hck:g.ck=.val:=by simp[Gh.ck,g2]
  refine ⟨ks1,e1,by simpa using e2,fun i hi hgi=> ?_,fun i hgi=> ?_⟩
  ·by_cases hr:∃g'∈r,g'.i=some i
   ·exact e3 i (by simpa using hi) hr
   ·have hr':∀g'∈r,g'.i≠some i:=fun g' hg' he=>hr ⟨g',hg',he⟩
    rw[e4 i hr']
    obtain ⟨g',hg',he⟩:=hgi
    rcases List.mem_cons.1 hg' with rfl|hg'
    ·rw[g3] at he;cases he
     rw[hck];simp[hi]
    ·exact absurd he (hr' g' hg')
  ·rw[e4 i fun g' hg'=>hgi g' (List.mem_cons_of_mem _ hg')]
   have:j≠i:=fun e=>hgi g List.mem_cons_self (by rw[g3,e])
   rw[List.getElem?_set_ne this]
theorem Znd (hT:TabOk P T) {t:TypeId} {x:Operand} {d:Nat} (hop:o.op=.load t x) (hd:o.dst=some d) (hE:Zjt T d t (sv κ x)=some E):ZN P o κ E:=by
 unfold Zjt at hE
 split at hE
 case h_2=>exact ZjK hT hop hd hE
 rename_i ti q ks off hti hb
 split at hE
 case isFalse=>exact ZjK hT hop hd hE
 rename_i hag
 obtain ⟨hagg,_⟩:=hag
 obtain ⟨ht⟩:=hT.ty hti
 split at hE
 ·
  split at hE
  case isFalse=>cases hE
  rename_i hc
  obtain ⟨hqd,hkl⟩:=hc
  cases hE
  have hops:o.op.operands.toList=[x]:=by rw[hop];rfl
  refine Zb5 hd rfl fun w0 F0 X0 κ1 σ a w F F1 fp fp1 kk r h h1 htt hg hF hall hlv hdy=> ?_
  have hlx:=Zc hlv (x:=x) (by rw[hops];exact .head _)
  rw[hops] at hdy
  obtain ⟨z,hz,hkk⟩:=Option.bind_eq_some_iff.1 hdy
  obtain ⟨b,cs,TT,xs,fps,_,e1,e2,e3,e4,e5,e6,e7,e8,e9⟩:=Zda h hlx hb
  replace hz:Zb true off ti.size (ZcQ (sv κ x) (dv κ σ x))=some z:=hz
  rw[e3] at hz
  unfold Zb at hz
  rw[if_pos rfl] at hz
  split at hz
  case isFalse=>cases hz
  rename_i hle
  cases hz
  have hgr:=(e7.drop off).take ti.size
  have hl7:=e7.lens
  have hcl:((cs.toList.drop off).take ti.size).length=ti.size:=by
   have h1:=hgr.lens
   omega
  have hst:Stays w F w F1:=⟨hF,fun _ _=>rfl⟩
  have hrun:=Zex (P:=P) (w:=w) ht hagg (b:=b) (off:=off) ((cs.toList.drop off).take ti.size) hcl (fun j v hj=>by
   have hjl:j<ti.size:=by have:=(List.getElem?_eq_some_iff.1 hj).1;omega
   rw[List.getElem?_take_of_lt hjl,List.getElem?_drop] at hj
   rw[cell_of_row w b (off+j) cs TT (0,0) e6]
   simpa using hj)
  have hown:∀c∈((fps.drop off).take ti.size).flatten,c∈fp1 d:=by
   refine Zc4 hgr (own:=fun c=>c∈fp1 d) fun i app e sz x' v' lb' k1 k2 k3 k4 c hcc=> ?_
   have hm:=Zez (s:=q) _ off i k1
   obtain ⟨y',v'',l',lb'',m1,m2,m3,m4,m5⟩:=hall _ hm
   simp only[Bool.false_eq_true,if_false] at m5
   have hvv:v''=v':=by
    rcases m1 with ⟨b',xs',t1,t2,t3,t4⟩|⟨tt,cs',xs',t1,t2,t3,t4,t5⟩|⟨cs',xs',t1,t2,t3,t4,t5⟩
    ·simp only at t1 t2
     rw[e4] at t1
     simp at t1
     subst t1
     have hin:i<ti.size:=by
      have:=(List.getElem?_eq_some_iff.1 k1).1
      omega
     rw[List.getElem?_take_of_lt hin,List.getElem?_drop] at k3
     rw[cell_of_row w b (off+i) cs TT (0,0) e6] at t2
     have:cs[off+i]?=some v':=by simpa using k3
     rw[this] at t2
     exact (Option.some.inj t2).symm
    ·simp only at t1;rw[e4] at t1;cases tt<;>simp at t1
    ·simp only at t1;rw[e4] at t1;cases t1
   subst hvv
   obtain ⟨l0,rfl,hr0⟩:=k4
   have:=hr0.lb_eq m3
   subst this
   exact m5 c hcc
  exact ⟨_,_,w,F1,((fps.drop off).take ti.size).flatten,ZbW hop (by rw[e5];exact hrun),hkk,rfl,rfl,rfl,Nat.le_refl _,fun _ _ _=>rfl,fun _ h=>h,fun _ h=>.inl h,h1.fl,Zlg (List.nodup_cons.1 e8).2 off ti.size,⟨((cs.toList.drop off).take ti.size).toArray,_,_,rfl,rfl,by simpa using hgr.keep hst fun _ _=>rfl,rfl⟩,fun c hc=>⟨.inr (hown c hc),(h1.pr _ c (hown c hc)).1,(h1.pr _ c (hown c hc)).2.1⟩,fun _=>trivial,fun q hq=>by simp[Kd.bdep] at hq⟩
 split at hE
 case isFalse=>cases hE
 rename_i hc
 obtain ⟨hqd,hnn⟩:=hc
 cases hE
 have hops:o.op.operands.toList=[x]:=by rw[hop];rfl
 refine Zb5 hd rfl fun w0 F0 X0 κ1 σ a w F F1 fp fp1 kk r h h1 htt hg hF hall hlv hdy=> ?_
 have hlx:=Zc hlv (x:=x) (by rw[hops];exact .head _)
 rw[hops] at hdy
 obtain ⟨z,hz,hkk⟩:=Option.bind_eq_some_iff.1 hdy
 obtain ⟨b,cs,TT,xs,fps,_,e1,e2,e3,e4,e5,e6,e7,e8,e9⟩:=Zda h hlx hb
 obtain ⟨ks1,k1,k2,k3,k4⟩:=Zk7 _ κ κ1 ks (fun g hg=>by
  obtain ⟨m1,m2,j,m3⟩:=Zju _ _ g hg
  exact ⟨m1,m2,_,m3⟩) e1 hg
 obtain ⟨lb,hn,hsub,hsr⟩:=h1.sr q
 rw[k1] at hsr
 obtain ⟨b1,cs1,xs1,fps1,s1,s2,s3,s4,s5⟩:=hsr
 have hbb:b1=b:=by rw[e4] at s1;simp at s1;exact s1.symm
 subst hbb
 have hcs:cs1=cs:=by rw[e6] at s3;simp at s3;exact s3.symm
 subst hcs
 have hxs:xs1=xs:=by
  have:vl σ q=.agg xs:=e2
  rw[this] at s2
  simpa using s2.symm
 subst hxs
 replace hz:Zb true off ti.size (ZcQ (sv κ x) (dv κ σ x))=some z:=hz
 rw[e3,←hagg] at hz
 obtain ⟨v,r1,r2⟩:=ZfX (w:=w) (F:=F1) (b:=b1) (base:=0) ht hz (fun j y hy hj _=>by
  obtain ⟨hj1,hj2⟩:=hj hagg
  obtain ⟨k,c,f,g1,g2,g3,g4,g5⟩:=s4.at j y hy
  rw[Nat.zero_add,cell_of_row w b1 j cs1 TT (0,0) e6]
  have hjl:j<ks.length:=by rw[←k2];exact (List.getElem?_eq_some_iff.1 g1).1
  have hkj:((ks.drop off).take ti.size)[j - off]?=some ks[j]:=by
   rw[List.getElem?_take,if_pos (by omega),List.getElem?_drop,show off+(j - off)=j from by omega]
   exact List.getElem?_eq_getElem hjl
  have hk:ckV k=true:=by
   by_cases hgj:∃g∈ZhV q off ((ks.drop off).take ti.size),g.i=some j
   ·have:=k3 j hjl hgj
    rw[this] at g1;cases g1;rfl
   ·have:=k4 j fun g hg he=>hgj ⟨g,hg,he⟩
    rw[g1,List.getElem?_eq_getElem hjl] at this
    have hkk':k=ks[j]:=Option.some.inj this
    have hne:ks[j]≠.none:=by simpa using List.all_eq_true.1 hnn _ (List.mem_of_getElem? hkj)
    rw[hkk']
    cases hkv:ks[j] with
    |none=>exact absurd hkv hne
    |val=>rfl
    |nil=>rfl
    | own app e sz=>
     exfalso
     rw[hkv] at hkj
     obtain ⟨g,hg,hgi⟩:=ZpR (q:=q) _ off (j - off) hkj
     exact hgj ⟨g,hg,by rw[hgi];congr 1;omega⟩
  exact ⟨c,by simpa using g2,(Zcx g4 hk).1,g5 rfl⟩)
 refine ⟨z,v,w,F1,[],ZbW hop (by rw[e5];simpa using r1),hkk,rfl,rfl,rfl,Nat.le_refl _,fun _ _ _=>rfl,fun _ h=>h,fun _ h=>.inl h,h1.fl,List.nodup_nil,⟨r2,rfl⟩,by simp,fun _=>trivial,fun q hq=>by simp[Kd.bdep] at hq⟩
theorem ZoB {l:List (PV×PV)} {v:Value} (h:VR w F (.map l) v):∃(b clock:Nat) (es:Array MapEntry),v=.map (some b)∧w.heap[b]?=some (.map es clock)∧MapR w F l es.toList:=by
 cases h with
 | map _ b clock es hb hw hl hk hx=>
  refine ⟨b,clock,es,rfl,hw, ?_⟩
  have key:∀(l:List (PV×PV)) (es:List MapEntry),l.length=es.length→(∀(i:Nat) (p:PV×PV) (e:MapEntry),l[i]?=some p→es[i]?=some e→VR w F p.1 e.key)→(∀(i:Nat) (p:PV×PV) (e:MapEntry),l[i]?=some p→es[i]?=some e→VR w F p.2 e.val)→MapR w F l es:=by
   intro l
   induction l with
   |nil=>intro es h1 _ _;cases es with|nil=>exact .nil|cons=>simp at h1
   | cons p r ih=>
    intro es h1 h2 h3
    cases es with
    |nil=>simp at h1
    |cons e q=>exact .cons (h2 0 p e rfl rfl) (h3 0 p e rfl rfl) (ih q (by simpa using h1) (fun i p e hp he=>h2 (i+1) p e (by simpa using hp) (by simpa using he)) (fun i p e hp he=>h3 (i+1) p e (by simpa using hp) (by simpa using he)))
  exact key l es.toList (by simpa using hl) (fun i p e hp he=>hk i p e hp (by simpa using he)) (fun i p e hp he=>hx i p e hp (by simpa using he))
def Zgv {R:Type} (T:Tab) (d:Nat) (t:TypeId) (ok:Bool) (k:SV):Option (Eff R):=
 match T.lookup t with
 | some ti=>
  match ti.desc with
  | .map kt et=>
   match T.lookup kt,T.lookup et with
   | some ki,some ei=>
    if k.isV=true∧(ei.agg=true∨ei.size=1)∧(ei.zero.all fun z=>z≠.other)=true then
     match ZhS T ki,ok with
     |some how,true=>some (Zj d (.grp true [.val,.val]) (ZaV fun x y=>(Zix how ki.desc (ZaN ei) x.v y.v).map fun p=>.tup [p.1,.bool p.2]))
     |some how,false=>some (Zj d (.ck .val) (ZaV fun x y=>(Zix how ki.desc (ZaN ei) x.v y.v).map (·.1)))
     |none,_=>none
    else none
   |_,_=>none
  |_=>none
 |none=>none
theorem Zkz (hT:TabOk P T) {t:TypeId} {m k:Operand} {ok:Bool} {d:Nat} (hop:o.op=.lookup t m k ok) (hd:o.dst=some d) (hm:(sv κ m).isV=true) (hE:Zgv T d t ok (sv κ k)=some E):ZN P o κ E:=by
 have hops:o.op.operands.toList=[m,k]:=by rw[hop];rfl
 unfold Zgv at hE
 split at hE
 case h_2=>cases hE
 rename_i ti hti
 obtain ⟨ht⟩:=hT.ty hti
 split at hE
 case h_2=>cases hE
 rename_i kt et hds
 split at hE
 case h_2=>cases hE
 rename_i ki ei hki hei
 obtain ⟨he⟩:=hT.ty hei
 split at hE
 case isFalse=>cases hE
 rename_i hc
 obtain ⟨hkv,hs,hz⟩:=hc
 have at_:∀{w0:World} {F0:Nat→Prop} {X0:List Nat} {σ:List PV} {a:Act} {w:World} {F:Nat→Prop} {fp:Nat→List Nat} {how:Option (List (Nat×TD))} {p:PV×Bool},St w0 F0 X0 κ σ a.tmps w F fp→Zix how ki.desc (ZaN ei) (dv κ σ m).v (dv κ σ k).v=some p→
  ∃(b clock:Nat) (es:Array MapEntry) (l:List (PV×PV)),a.eval m=.map (some b)∧(dv κ σ m).v=.map l∧w.heap[b]?=some (.map es clock)∧MapR w F l es.toList:=by
  intro w0 F0 X0 σ a w F fp how p h hp
  have h1:=rdS h hm
  unfold Zix at hp
  obtain ⟨l,hl,_⟩:=Option.bind_eq_some_iff.1 hp
  have hv:(dv κ σ m).v=.map l:=by
   generalize (dv κ σ m).v=x at hl
   cases x<;>simp[mapL] at hl
   rw[hl]
  rw[hv] at h1
  obtain ⟨b,clock,es,e1,e2,e3⟩:=ZoB h1
  exact ⟨b,clock,es,l,e1,hv,e2,e3⟩
 split at hE
 ·rename_i how hh
  cases hE
  refine ZJ hd rfl rfl fun w0 F0 X0 σ a w F fp kk r h htt hlv hdy=> ?_
  rw[hops] at hdy
  obtain ⟨z,hz',hkk⟩:=Option.bind_eq_some_iff.1 hdy
  obtain ⟨p,hp,rfl⟩:=Option.map_eq_some_iff.1 hz'
  obtain ⟨b,clock,es,l,e3,e4,e5,e6⟩:=at_ h hp
  rw[e4] at hp
  obtain ⟨u,r1,r2⟩:=ZeO hT ht hds hki he hz hs hh e5 e6 (rdS h hkv) hp true
  refine ⟨_,.tuple #[u,.bool p.2],w,F,[],by simp[execOp,hop,e3,r1],hkk,Adds.refl w h.fl,List.nodup_nil,⟨#[u,.bool p.2],[p.1,.bool p.2],[[],[]],rfl,rfl,.cons ⟨r2,rfl⟩ (fun hc=>by cases hc) (.cons ⟨.bool _,rfl⟩ (fun hc=>by cases hc) .nil),rfl⟩,by simp,fun _=>trivial,fun q hq=>by simp[Zj,Kd.bdep] at hq⟩
 ·rename_i how hh
  cases hE
  refine ZaC hd rfl rfl rfl fun w0 F0 X0 σ a w F fp kk r h htt hlv hdy=> ?_
  rw[hops] at hdy
  obtain ⟨z,hz',hkk⟩:=Option.bind_eq_some_iff.1 hdy
  obtain ⟨p,hp,rfl⟩:=Option.map_eq_some_iff.1 hz'
  obtain ⟨b,clock,es,l,e3,e4,e5,e6⟩:=at_ h hp
  rw[e4] at hp
  obtain ⟨u,r1,r2⟩:=ZeO hT ht hds hki he hz hs hh e5 e6 (rdS h hkv) hp false
  exact ⟨_,u,by simp[execOp,hop,e3,r1],hkk,r2⟩
 ·cases hE
def Zgw {R:Type} (T:Tab) (d:Nat) (t:TypeId) (ok:Bool) (m k:SV):Option (Eff R):=
 if m.isV then Zgv T d t ok k else ZhT T d t ok m k
theorem ZkA (hT:TabOk P T) {t:TypeId} {m k:Operand} {ok:Bool} {d:Nat} (hop:o.op=.lookup t m k ok) (hd:o.dst=some d) (hE:Zgw T d t ok (sv κ m) (sv κ k)=some E):ZN P o κ E:=by
 unfold Zgw at hE
 split at hE
 ·rename_i hm;exact Zkz hT hop hd hm hE
 ·exact ZlQ hT hop hd hE
def ZhW {R:Type} (T:Tab) (t:TypeId) (a x:SV):Option (Eff R):=
 match a.k,a.slot,x.k,x.slot,T.lookup t with
 |.box TT [.none],some q,.mp _ _,some m,some ti=>if q≠m∧ti.agg=false∧ti.size=1 then some {gh:=[],tgt:=q,put:=false,k:=.mbx m,cut:=.all,dyn:=fun _ kk=>kk (.bool true)} else none
 |_,_,_,_,_=>none
theorem ZlR (hT:TabOk P T) {t:TypeId} {x y:Operand} (hop:o.op=.store t x y) (hd:o.dst=none) (hE:ZhW T t (sv κ x) (sv κ y)=some E):ZN P o κ E:=by
 unfold ZhW at hE
 split at hE
 case h_2=>cases hE
 rename_i _ _ _ _ _ TT q kt et m ti hkx hsx hky hsy hti
 split at hE
 case isFalse=>cases hE
 rename_i hc
 obtain ⟨hqm,hagg,hsz⟩:=hc
 cases hE
 obtain ⟨ht⟩:=hT.ty hti
 obtain rfl:=Zav hsx
 obtain rfl:=Zav hsy
 have hkx':kd κ q=.box TT [.none]:=hkx
 have hky':kd κ m=.mp kt et:=hky
 intro w0 F0 X0 κ' σ a w F fp kk r K Q h hκ hlv hdy hK
 unfold Eff.κ at hκ
 split at hκ
 case isFalse=>cases hκ
 rename_i htgt
 have hκ':Zga (noCln true κ) q .all (.mbx m)=κ':=by simpa[Zac,Eff.md,mdB] using hκ
 subst hκ'
 obtain ⟨lq,hnq,hsq,hrq⟩:=h.sr q
 rw[hkx'] at hrq
 obtain ⟨b,cs,xs,fps,e1,e2,e3,e4,rfl⟩:=hrq
 obtain ⟨lm,hnm,hsm,hrm⟩:=h.sr m
 rw[hky'] at hrm
 obtain ⟨mb,clock,es,l,m1,m2,m3,m4,rfl⟩:=hrm
 have hbq:b∈fp q:=hsq b (by simp)
 have hlens:=e4.lens
 have hcs:cs.size=1:=by have:=hlens.2.1;have:=hlens.1;simp at *;omega
 have hrun:=Zcz (P:=P) (w:=w) ht (g:=b) (off:=0) (v:=.map (some mb)) e3 (.inl (Nat.le_refl _)) (by simp[Value.cells,hsz]) (by rw[hcs,hsz];exact Nat.le_refl _) (fun u hu=>by simp[Value.cells] at hu;subst hu;rfl)
 obtain ⟨w1,hw1⟩:∃w1,w.setRow b (splice cs.toList 0 (Value.map (some mb)).cells.toList).toArray=w1:=⟨_,rfl⟩
 have hother:∀c,c≠b→w1.heap[c]?=w.heap[c]?:=fun c hc=>by rw[←hw1];exact setRow_other w b c _ hc
 have hself:w1.heap[b]?=some (.cells (splice cs.toList 0 (Value.map (some mb)).cells.toList).toArray TT (0,0)):=by rw[←hw1];exact setRow_heap w b cs _ TT (0,0) e3
 have hsize:w1.heap.size=w.heap.size:=by rw[←hw1];exact ZbX _ _ _
 rw[hw1] at hrun
 have hcell:w1.cell? ⟨b,0,none⟩=some (.map (some mb)):=by
  rw[cell_of_row w1 b 0 _ TT (0,0) hself]
  have:cs.toList.length=1:=by simpa using hcs
  match hl:cs.toList,this with
  |[u],_=>rfl
 have hmod:=(h.noCln true).mod (s:=q) (ks:=.mbx m) (xs:=.bool true) (l:=[]) (fps:=[]) (w1:=w1) (F1:=fun c=>F c∨c=b) (Cut.fn q .all) (by rw[Zn];exact htgt) (by rw[←hw1];rfl) (by rw[←hw1];rfl) (by rw[←hw1];rfl) (by rw[hsize];exact Nat.le_refl _)
  (fun c _ hc=>hother c fun e=>hc (e▸hbq)) (fun _ h=>.inl h) (fun c hc=>hc.elim .inl fun e=>.inr (.inr (e▸hbq))) (fun c hc=>by rw[hsize];exact hc.elim (h.fl c) fun e=>by rw[e];exact (h.pr q b hbq).1) List.nodup_nil (by simp) ⟨⟨b,e1,.inr rfl⟩,rfl⟩ (by simp)
  (fun _=>⟨b,e1,by rw[hcell,m1]⟩) rfl (fun k hk=>by rw[Cut.fn_dep hk];simp) (Zbh κ) (fun k hk hc _=>by have:=Zab hk;simp[Cut.fn,this] at hc)
 have hev:a.eval (.tmp q)=.pointer (some ⟨b,0,none⟩):=e1
 have hev2:a.eval (.tmp m)=.map (some mb):=m1
 refine Znt (ZcS hop (w':=w1) (by rw[hev,hev2];exact hrun)) (hK (.bool true) undef w1 (fun c=>F c∨c=b) (fun t=>if t=q then [] else fp t) ?_ hdy)
 rw[hd]
 exact hmod
def ZhX {R:Type} (T:Tab) (t:TypeId) (a x:SV):Option (Eff R):=
 match ZhW T t a x with
 |some E=>some E
 |none=>Zfy T t a x
theorem ZlS (hT:TabOk P T) {t:TypeId} {x y:Operand} (hop:o.op=.store t x y) (hd:o.dst=none) (hE:ZhX T t (sv κ x) (sv κ y)=some E):ZN P o κ E:=by
 unfold ZhX at hE
 split at hE
 ·rename_i h;cases hE;exact ZlR hT hop hd h
 ·exact Zfz hT hop hd hE
def Zha {R:Type} (T:Tab) (d:Nat) (t:TypeId) (a:SV):Option (Eff R):=
 match a.k,a.pk,T.lookup t with
 |.mbx s,.mp _ _,some ti=>if s≠d∧ti.agg=false then some (Zj d (.ali (.slot s)) ZiL) else none
 |.mbx _,_,_=>none
 |_,_,_=>Zjt T d t a
theorem Ziy (hT:TabOk P T) {t:TypeId} {x:Operand} {d:Nat} (hop:o.op=.load t x) (hd:o.dst=some d) (hE:Zha T d t (sv κ x)=some E):ZN P o κ E:=by
 have hops:o.op.operands.toList=[x]:=by rw[hop];rfl
 unfold Zha at hE
 split at hE
 ·rename_i _ _ _ s kt et ti hk hpk hti
  split at hE
  case isFalse=>cases hE
  rename_i hc
  cases hE
  obtain ⟨ht⟩:=hT.ty hti
  refine ZJ hd rfl rfl fun w0 F0 X0 σ a w F fp kk r h htt hlv hdy=> ?_
  have hal:=h.al' x (Zc hlv (by rw[hops];exact .head _))
  rw[hk] at hal
  obtain ⟨b,e1,e2⟩:=hal
  have hrun:=Zhl (P:=P) ht hc.2 e2
  refine ⟨.bool true,tv a.tmps s,w,F,[],ZbW hop (by rw[e1];exact hrun),hdy,Adds.refl w h.fl,List.nodup_nil,rfl,by simp,fun _=> ?_,fun q hq=>by simp[Zj,Kd.bdep] at hq⟩
  show tv (a.tmps.setIfInBounds d (tv a.tmps s)) s=tv a.tmps s
  rw[Za6,if_neg (fun e=>hc.1 e.1)]
 ·cases hE
 ·exact Znd hT hop hd hE
end
def Zfp :CK→CK→Bool
 |_,.none=>true
 |.nil,.own true _ _=>true
 |.nil,.val=>true
 |a,b=>a=b
def Zew (a b:Kd):Bool:=
 match b with
 | .ck c=>match c with
  |.none=>true
  | c=>match a with
   |.ck a=>Zfp a c
   |_=>false
 | .box T' ks'=>match a with
  |.box T ks=>T=T'&&ks.length=ks'.length&&(List.zipWith Zfp ks ks').all id
  |_=>false
 |b=>a=b
section
variable {w :World} {F:Nat→Prop}
theorem Zne {a b:CK} (h:Zfp a b=true) {x:PV} {v:Value} {l:List Nat} (hn:l.Nodup) (hc:CR w F a x v l):∃l',l'.Nodup∧(∀c∈l',c∈l)∧CR w F b x v l':=by
 by_cases e:a=b
 ·subst e;exact ⟨l,hn,fun _ h=>h,hc⟩
 ·refine ⟨[],List.nodup_nil,by simp, ?_⟩
  unfold Zfp at h
  split at h
  ·rfl
  ·obtain ⟨rfl,rfl,_⟩:=hc;exact ⟨[],rfl,Zal.nil_⟩
  ·exact ⟨(CR.vr hc (.inr rfl)).1,rfl⟩
  ·exact absurd (by simpa using h) e
theorem ZpS {ks ks':List CK} {xs:List PV} {vs:List Value} {fps:List (List Nat)} (hl:ks.length=ks'.length) (h:(List.zipWith Zfp ks ks').all id=true) (hn:fps.flatten.Nodup) (hg:GrpR w F true ks xs vs fps):∃fps',fps'.flatten.Nodup∧(∀b∈fps'.flatten,b∈fps.flatten)∧GrpR w F true ks' xs vs fps':=by
 induction hg generalizing ks' with
 | nil=>
  cases ks' with
  |nil=>exact ⟨[],by simp,by simp,.nil⟩
  |cons _ _=>simp at hl
 | @cons k x v fp ks xs vs fps hc ho ht ih=>
  cases ks' with
  |nil=>simp at hl
  | cons k' ks'=>
   simp only[List.zipWith_cons_cons,List.all_cons,Bool.and_eq_true,id] at h
   simp only[List.flatten_cons] at hn
   obtain ⟨n1,n2,n3⟩:=List.nodup_append.1 hn
   obtain ⟨l',h1,h2,h3⟩:=Zne h.1 n1 hc
   obtain ⟨fps',g1,g2,g3⟩:=ih (by simpa using hl) h.2 n2
   refine ⟨l'::fps', ?_,fun b hb=> ?_,.cons h3 ho g3⟩
   ·simp only[List.flatten_cons]
    exact List.nodup_append.2 ⟨h1,g1,fun a ha b hb=>n3 a (h2 a ha) b (g2 b hb)⟩
   ·simp only[List.flatten_cons,List.mem_append] at hb⊢
    rcases hb with hb|hb
    ·exact .inl (h2 b hb)
    ·exact .inr (g2 b hb)
theorem Zfq {a b:Kd} (h:Zew a b=true) {x:PV} {v:Value} {l:List Nat} (hn:l.Nodup) (hs:SR w F a x v l):∃l',l'.Nodup∧(∀c∈l',c∈l)∧SR w F b x v l':=by
 unfold Zew at h
 split at h
 ·split at h
  ·exact ⟨[],List.nodup_nil,by simp,rfl⟩
  ·split at h
   ·exact Zne h hn hs
   ·cases h
 ·rename_i T' ks'
  split at h
  case h_2=>cases h
  rename_i T ks
  simp only[Bool.and_eq_true,decide_eq_true_eq] at h
  obtain ⟨⟨rfl,hl⟩,h⟩:=h
  obtain ⟨b,cs,xs,fps,e1,e2,e3,e4,rfl⟩:=hs
  obtain ⟨m1,m2⟩:=List.nodup_cons.1 hn
  obtain ⟨fps',g1,g2,g3⟩:=ZpS hl h m2 e4
  exact ⟨b::fps'.flatten,List.nodup_cons.2 ⟨fun hc=>m1 (g2 b hc),g1⟩,fun c hc=>by
   rcases List.mem_cons.1 hc with rfl|hc
   ·simp
   ·exact List.mem_cons_of_mem _ (g2 c hc),b,cs,xs,fps',e1,e2,e3,g3,rfl⟩
 ·obtain rfl:=(by simpa using h:a=b)
  exact ⟨l,hn,fun _ h=>h,hs⟩
end
structure Ent where
 f:FuncId
 ps:List Kd
 rk:Kd
 sc:Bool
 spec:List PV→Option PV
def PV.sc1 :PV→Bool
 |.int _ _|.bool _|.str _=>true
 |_=>false
def PV.sc :PV→Bool
 |.tup l=>l.all PV.sc1
 |x=>x.sc1
inductive ArgsR (w:World) (F:Nat→Prop):List Kd→List PV→List Value→Prop
 |nil:ArgsR w F [] [] []
 |cons {k:Kd} {x:PV} {v:Value} {ks:List Kd} {xs:List PV} {vs:List Value} (h:SR w F k x v []) (hu:k=.ipt→x≠.undef) (ht:ArgsR w F ks xs vs):ArgsR w F (k::ks) (x::xs) (v::vs)
def fnV (g:FuncId):Value:=.func (.func g) #[] #[]
def ZrW (w:World) (F:Nat→Prop) (l0:List Nat) (T:TypeId) (ks:List CK) (rk:Kd) (v0:Value) (r y:PV) (en:Ending) (w':World):Prop:=
 ∃ (v:Value) (F':Nat→Prop) (l':List Nat),en=.returned v∧(w'.os=w.os∧w'.tape=w.tape∧w'.output=w.output∧w.heap.size≤w'.heap.size)∧(∀b,b<w.heap.size→b∉l0→w'.heap[b]?=w.heap[b]?)∧
  (∀b,F b→F' b)∧(∀b,F' b→F b∨w.heap.size≤b∨b∈l0)∧(∀b,F' b→b<w'.heap.size)∧l'.Nodup∧SR w' F' (.box T ks) y v0 l'∧(∀b∈l',(b∈l0∨w.heap.size≤b)∧b<w'.heap.size∧¬F' b)∧SR w' F' rk r v []
def ZrX (w:World) (F:Nat→Prop) (l0:List Nat) (rk:Kd) (r:PV) (en:Ending) (w':World):Prop:=
 ∃ (v:Value) (F':Nat→Prop) (l':List Nat),en=.returned v∧(w'.os=w.os∧w'.tape=w.tape∧w'.output=w.output∧w.heap.size≤w'.heap.size)∧(∀b,b<w.heap.size→b∉l0→w'.heap[b]?=w.heap[b]?)∧
  (∀b,F b→F' b)∧(∀b,F' b→F b∨w.heap.size≤b∨b∈l0)∧(∀b,F' b→b<w'.heap.size)∧l'.Nodup∧SR w' F' rk r v l'∧(∀b∈l',(b∈l0∨w.heap.size≤b)∧b<w'.heap.size∧¬F' b)
def mvK :Kd→Bool
 |.ck (.own true _ _)=>true
 |.grp false _=>true
 |_=>false
structure FnOk (P:Program) (e:Ent):Prop where
 body:∀(args:Array Value) (w:World),(callFunc e.f args).run P w=.ok (.enter e.f args) w
 dep:e.rk.dep=none
 call:∀(w:World) (F:Nat→Prop) (xs:List PV) (vs:List Value) (r:PV),FOk w F→ArgsR w F e.ps xs vs→e.spec xs=some r→
  Calls P e.f vs.toArray w fun en w'=>∃(v:Value) (F':Nat→Prop) (l:List Nat),en=.returned v∧Adds w F w' F'∧l.Nodup∧SR w' F' e.rk r v l∧(∀b∈l,w.heap.size≤b∧b<w'.heap.size∧¬F' b)∧(e.sc=true→∀G:Nat→Prop,SR w' G e.rk r v l)
 ipc:∀(t:TypeId) (sz:Nat) (fs:List FuncId),e.ps=.ck (.own true t sz)::fs.map Kd.clo→e.rk=.ck .none→∀(w:World) (F:Nat→Prop) (l r:List PV) (v:Value) (fp:List Nat),(∀b,F b→b<w.heap.size)→(∀b∈fp,¬F b)→(∀b∈fp,b<w.heap.size)→
  Zal w F true t sz l v fp→e.spec [.lst l]=some (.lst r)→Calls P e.f (v::fs.map fnV).toArray w fun en w'=>∃u,en=.returned u∧w'.os=w.os∧w'.tape=w.tape∧w'.output=w.output∧w.heap.size≤w'.heap.size∧
   (∀b,b<w.heap.size→b∉fp→w'.heap[b]?=w.heap[b]?)∧Zal w' F true t sz r v fp
 ipb:∀(T:TypeId) (ks:List CK) (rest:List Kd),e.ps=.box T ks::rest→∀(w:World) (F:Nat→Prop) (x0:PV) (v0:Value) (l0:List Nat) (xs:List PV) (vs:List Value) (r y:PV),FOk w F→l0.Nodup→(∀b∈l0,b<w.heap.size∧¬F b)→
  SR w F (.box T ks) x0 v0 l0→ArgsR w F rest xs vs→e.spec (x0::xs)=some (.tup [r,y])→Calls P e.f (v0::vs).toArray w (ZrW w F l0 T ks e.rk v0 r y)
 mvc:∀(K:Kd) (rest:List Kd),mvK K=true→e.ps=K::rest→e.rk≠.ck .none→∀(w:World) (F:Nat→Prop) (x0:PV) (v0:Value) (l0:List Nat) (xs:List PV) (vs:List Value) (r:PV),FOk w F→l0.Nodup→(∀b∈l0,b<w.heap.size∧¬F b)→
  SR w F K x0 v0 l0→ArgsR w F rest xs vs→e.spec (x0::xs)=some r→Calls P e.f (v0::vs).toArray w (ZrX w F l0 e.rk r)
 ptc:e.rk=.ck .none→e.ps=[.bxf 0 0,.bxf 0 0]→∀(w:World) (p1 p2:Addr) (n1 n2 y1 y2:Int) (b1 b2:Bool),w.cell? p1=some (.int .u8 n1)→w.frozen? p1=false→w.cell? p2=some (.int .u8 n2)→w.frozen? p2=false→e.spec [.bool true,.int .u8 n1,.int .u8 n2]=some (.tup [.bool b1,.bool b2,.int .u8 y1,.int .u8 y2])→
  Calls P e.f #[.pointer (some p1),.pointer (some p2)] w fun en w'=>en=.returned (.tuple #[.bool b1,.bool b2])∧w'.os=w.os∧w'.tape=w.tape∧w'.output=w.output∧w'.heap=((w.setCell p1 (.int .u8 y1)).setCell p2 (.int .u8 y2)).heap
def Zcp (s:SV):Bool:=(Z8 s).isNone&&match s.boxAt with
 |some (_,ks,_)=>ks.all fun k=>k≠.none
 |none=>false
def gvB (s:SV):Bool:=match s.k with|.grp false ks=>ks.all ckV|_=>false
def glB (s:SV):Bool:=
 match s.k with
 |.grp false ks=>ks.all fun k=>k≠.none
 |.gal _ n=>match s.pk with|.box _ ks=>decide (ks.length=n)&&ks.all fun k=>k≠.none|_=>false
 |_=>false
def Zm (sc:Bool) (k:Kd) (s:SV):Bool:=
 match k with
 |.ck .val=>s.isV||((gvB s||(sc&&glB s))||((Z8 s).isSome&&(ZaJ s).isSome))
 |.ck .nil=>s.k=.ck .nil
 |.clo f=>s.k=.clo f||(sc&&s.k=.cln f)
 |.ipt=>s.k=.ipt||(sc&&Zcp s)
 |_=>false
def ZbU (sc:Bool):List Kd→List SV→Bool
 |[],[]=>true
 |k::ks,s::ss=>Zm sc k s&&ZbU sc ks ss
 |_,_=>false
def ZpT (s:SV) (d:DV):Option PV:=
 if s.isV then some d.v else if Zcp s then some (capV s d) else
 match s.k with
 |.clo _|.cln _|.ipt|.grp false _=>some d.v
 |.gal _ _=>some d.pv
 |_=>(Zh s d).map .lst
def ZaB :List SV→List DV→Option (List PV)
 |[],[]=>some []
 |s::ss,d::ds=>(ZpT s d).bind fun x=>(ZaB ss ds).bind fun xs=>some (x::xs)
 |_,_=>none
def Zej :List SV→List Gh
 |[]=>[]
 | s::ss=>
  match Z8 s,ZaJ s with
  |some (some (app,e,sz)),some (q,i)=>⟨q,i,true,app,e,sz⟩::Zej ss
  |_,_=>Zej ss
def ZrY (s:SV) (svs:List SV):List Kd→Bool
 |.ck (.own true t sz)::rest=>(Z8 s==some (some (true,t,sz)))&&ZbU false rest svs&&svs.all fun x=>x.isV
 |_=>false
def Zhb {R:Type} (G:List Ent) (d:Nat) (f:FuncId):List SV→Option (Eff R)
 | s ::svs=>
  match G.find? (fun e=>e.f=f&&ZrY s svs e.ps&&e.rk≠.ck .none) with
  |none=>none
  | some e=>match Z8 s,ZaJ s with
   | some (some (app,t,sz)),some (q,i)=>some {gh:=[⟨q,i,false,app,t,sz⟩],tgt:=d,put:=true,k:=e.rk,cut:=.no,dyn:=fun ds kk=>match ds with
    |_::x::ds=>(Zh s x).bind fun l=>(ZaB svs ds).bind fun xs=>(e.spec (.lst l::xs)).bind kk
    |_=>none}
   |_,_=>none
 |[]=>none
def Znf (q:Nat):Nat→List CK→List Gh
 |_,[]=>[]
 |i,.own app e sz::r=>⟨q,some i,false,app,e,sz⟩::Znf q (i+1) r
 |i,_::r=>Znf q (i+1) r
def ZrZ (ks:List CK) (svs:List SV):List Kd→Bool
 |.grp false ks'::rest=>decide (ks'=ks)&&ZbU false rest svs&&svs.all fun x=>x.isV
 |_=>false
def Zhc {R:Type} (G:List Ent) (d:Nat) (f:FuncId):List SV→Option (Eff R)
 | s ::svs=>
  match s.k,s.slot with
  | .grp false ks,some q=>
   match G.find? (fun e=>e.f=f&&ZrZ ks svs e.ps&&e.rk≠.ck .none) with
   |none=>none
   | some e=>match Znf q 0 ks with
    |[]=>none
    | g::gs=>some {gh:=g::gs,tgt:=d,put:=true,k:=e.rk,cut:=.no,dyn:=fun ds kk=>match ds with
     |_::x::ds=>(ZaB svs ds).bind fun xs=>(e.spec (x.v::xs)).bind kk
     |_=>none}
  |_,_=>Zhb G d f (s::svs)
 |[]=>none
def ZlT {R : Type} (G:List Ent) (d:Nat) (f:FuncId) (svs:List SV):Option (Eff R):=
 match G.find? (fun e=>e.f=f&&ZbU e.sc e.ps svs) with
 |none=>Zhc G d f svs
 | some e => some { gh:=if e.sc then [] else Zej svs,tgt:=d,put:=true,k:=e.rk,cut:=.no,
                    dyn:=fun ds kk=>(ZaB svs ds.tail).bind fun xs=>(e.spec xs).bind kk}
def Zfr (n:Nat) (c:PV):Option (List PV):=
 if c.parts.length=n∧(c.parts.all fun y=> !y.isU)=true then some c.parts else none
def ZoC {R : Type} (G :List Ent) (d:Nat) (c:SV) (svs:List SV):Option (Eff R):=
 match c.k with
 | .clo f =>
  match G.find? (fun e=>e.f=f&&ZbU e.sc (e.ps.take svs.length) svs&&(e.ps.drop svs.length).all (fun k=>k=.ipt)) with
  |none=>none
  | some e => some { gh:=if e.sc then [] else Zej svs,tgt:=d,put:=true,k:=e.rk,cut:=.no,
                     dyn:=fun ds kk=>match ds with
                      |c::ds=>(ZaB svs ds).bind fun xs=>(Zfr (e.ps.length - svs.length) c.v).bind fun cs=>(e.spec (xs++cs)).bind kk
                      |[]=>none}
 |_=>none
section
variable {R :Type} {P:Program} {T:Tab} {o:Oper} {κ κ1:List Kd} {E:Eff R}
variable {w0 :World} {F0:Nat→Prop} {X0:List Nat} {σ:List PV} {a:Act} {w:World} {F F1:Nat→Prop} {fp fp1:Nat→List Nat}
theorem VR.sc_any {x:PV} {v:Value} (h:VR w F x v) (hs:x.sc1=true) (w':World) (F':Nat→Prop):VR w' F' x v:=by
 cases h<;>first|(simp[PV.sc1] at hs;done)|constructor
theorem SR.sc_any {k:Kd} {x:PV} {v:Value} {l:List Nat} (h:SR w F k x v l) (hs:x.sc=true) (hd:k.dep=none) (F':Nat→Prop):SR w F' k x v l:=by
 cases k with
 | ck c=>
  cases c with
  |none=>exact h
  | val=>
   refine ⟨?_,h.2⟩
   have h1:=h.1
   cases x with
   |tup l=>cases h1
   |_=>exact h1.sc_any (by simpa[PV.sc] using hs) w F'
  |nil=>obtain ⟨rfl,_⟩:=h;simp[PV.sc,PV.sc1] at hs
  |own app e sz=>obtain ⟨l0,rfl,_⟩:=h;simp[PV.sc,PV.sc1] at hs
 |box T ks=>obtain ⟨b,cs,xs,fps,_,rfl,_⟩:=h;simp[PV.sc,PV.sc1] at hs
 | grp t ks=>
  obtain ⟨cs,xs,fps,h1,h2,h3,h4⟩:=h
  cases t
  ·simp only[Bool.false_eq_true,if_false] at h2;subst h2;simp[PV.sc,PV.sc1] at hs
  ·simp only[if_true] at h2
   subst h2
   simp only[PV.sc] at hs
   refine ⟨cs,xs,fps,h1,rfl, ?_,h4⟩
   have key:∀{ks:List CK} {xs:List PV} {vs:List Value} {fps:List (List Nat)},GrpR w F (!true) ks xs vs fps→xs.all PV.sc1=true→GrpR w F' (!true) ks xs vs fps:=by
    intro ks xs vs fps hg
    induction hg with
    |nil=>intro _;exact .nil
    | @cons k x v fp ks xs vs fps hc ho ht ih=>
     intro hs
     simp only[List.all_cons,Bool.and_eq_true] at hs
     refine .cons ?_ ho (ih hs.2)
     cases k with
     |none=>exact hc
     |val=>exact ⟨hc.1.sc_any hs.1 w F',hc.2⟩
     |nil=>obtain ⟨rfl,_⟩:=hc;simp[PV.sc1] at hs
     |own app e sz=>obtain ⟨l0,rfl,_⟩:=hc;simp[PV.sc1] at hs
   exact key h3 hs
 | tgr sh ks=>
  obtain ⟨cs,xs,fps,h1,h2,h0,h3,h4⟩:=h
  subst h2
  simp only[PV.sc] at hs
  refine ⟨cs,xs,fps,h1,rfl,h0, ?_,h4⟩
  have hfl:(ZcL xs).all PV.sc1=true:=by
   clear h0 h3
   induction xs with
   |nil=>rfl
   | cons x xs ih=>
    simp only[List.all_cons,Bool.and_eq_true] at hs
    simp only[ZcL,List.flatMap_cons,List.all_append,Bool.and_eq_true]
    refine ⟨?_,ih hs.2⟩
    have h1:=hs.1
    cases x<;>simp[PV.sc1] at h1<;>simp[PV.cells,PV.sc1]
  have key:∀{ks:List CK} {xs:List PV} {vs:List Value} {fps:List (List Nat)},GrpR w F true ks xs vs fps→xs.all PV.sc1=true→GrpR w F' true ks xs vs fps:=by
   intro ks xs vs fps hg
   induction hg with
   |nil=>intro _;exact .nil
   | @cons k x v fp ks xs vs fps hc ho ht ih=>
    intro hs
    simp only[List.all_cons,Bool.and_eq_true] at hs
    refine .cons ?_ ho (ih hs.2)
    cases k with
    |none=>exact hc
    |val=>exact ⟨hc.1.sc_any hs.1 w F',hc.2⟩
    |nil=>obtain ⟨rfl,_⟩:=hc;simp[PV.sc1] at hs
    |own app e sz=>obtain ⟨l0,rfl,_⟩:=hc;simp[PV.sc1] at hs
  exact key h3 hfl
 |ipt=>exact ⟨fun hx=>by obtain ⟨_,_,_,_,rfl,_⟩:=h.1 hx;simp[PV.sc,PV.sc1] at hs,h.2⟩
 |tip=>obtain ⟨⟨_,_,_,_,_,rfl,_⟩,_⟩:=h;simp[PV.sc,PV.sc1] at hs
 |mp kt et=>obtain ⟨b,clock,es,l,h1,rfl,_⟩:=h;simp[PV.sc,PV.sc1] at hs
 |mbx s=>exact absurd hd (by simp[Kd.dep])
 |tl q=>exact absurd hd (by simp[Kd.dep])
 | tt=>
  refine ⟨⟨?_,h.1.2⟩,h.2⟩
  have h1:=h.1.1
  cases x with
  |tup l=>cases h1
  |_=>exact h1.sc_any (by simpa[PV.sc] using hs) w F'
 |cln f=>exact h
 | clo f=>obtain ⟨_,_,_,rfl,_,h4,h5⟩:=h;simp only[PV.sc] at hs;exact ⟨_,_,‹_›,rfl,‹_›,fun i y hy=>by
  obtain ⟨_,_,_,_,rfl,_⟩:=h4 i y hy
  have:=List.all_eq_true.1 hs _ (List.mem_of_getElem? hy)
  simp[PV.sc1] at this,h5⟩
 |ali p=>exact h
 |elm p sz off=>exact h
 |bxf q off=>exact h
 |gal q n=>exact h
def CK.scv :CK→PV→Bool
 |.own _ _ _,.lst l=>l.all fun x=>x.cells.all PV.sc1
 |.val,x=>x.sc1
 |_,_=>false
def scvs :List CK→List PV→Bool
 |[],[]=>true
 |k::ks,x::xs=>k.scv x&&scvs ks xs
 |_,_=>false
def Kd.scv :Kd→PV→Bool
 |.ck c,x=>c.scv x
 |.grp true ks,.tup l=>scvs ks l
 |.grp false ks,.agg l=>scvs ks l
 |_,_=>false
theorem VR.scc {x:PV} {v:Value} (h:VR w F x v) (hs:x.cells.all PV.sc1=true) (w':World) (F':Nat→Prop):VR w' F' x v:=by
 by_cases ha:∃l,x=.agg l
 ·obtain ⟨l,rfl⟩:=ha
  cases h with
  |agg l cs h1 h2 h3=>exact .agg l cs h1 h2 fun i x hx=>(h3 i x hx).sc_any (List.all_eq_true.1 hs x (List.mem_of_getElem? hx)) w' F'
 ·refine h.sc_any ?_ w' F'
  cases x<;>first|exact absurd ⟨_,rfl⟩ ha|simpa[PV.cells] using hs
theorem ZqD {x:PV} (h:x.sc1=true):x.cells.all PV.sc1=true:=by cases x<;>simp[PV.sc1] at h<;>rfl
theorem DElR.scc {ks:List DK} {xs:List PV} {vs:List Value} {fps:List (List Nat)} (h:DElR w F ks xs vs fps) (hs:∀x∈xs,x.sc1=true) (F':Nat→Prop):DElR w F' ks xs vs fps:=by
 induction h with
 |nil=>exact .nil
 |val h ho ht ih=>exact .val (h.scc (ZqD (hs _ List.mem_cons_self)) w F') ho (ih fun x hx=>hs x (List.mem_cons_of_mem _ hx))
 |row h ht ih=>have:=hs _ List.mem_cons_self;cases this
theorem ElD.scc {ks:List DK} {x:PV} {u:Value} {fps:List (List Nat)} (h:ElD w F ks x u fps) (hs:x.cells.all PV.sc1=true) (F':Nat→Prop):ElD w F' ks x u fps:=by
 rcases h with ⟨xs,cs,rfl,rfl,h3⟩|⟨h1,h2,h3⟩
 ·exact .inl ⟨xs,cs,rfl,rfl,h3.scc (List.all_eq_true.1 hs) F'⟩
 ·refine .inr ⟨h1,h2,h3.scc (fun y hy=> ?_) F'⟩
  rw[List.mem_singleton] at hy
  subst hy
  rw[(Zh3 h1).2.2] at hs
  simpa using hs
theorem CR.scv {c:CK} {x:PV} {v:Value} {l:List Nat} (h:CR w F c x v l) (hs:c.scv x=true) (F':Nat→Prop):CR w F' c x v l:=by
 cases c with
 |none=>exact h
 |nil=>exact h
 |val=>exact ⟨h.1.sc_any hs w F',h.2⟩
 | own app e sz=>
  obtain ⟨l0,rfl,hr⟩:=h
  refine ⟨l0,rfl, ?_⟩
  unfold Zal at hr⊢
  split at hr
  ·rcases hr with hr|⟨g,cap,cur,fr,h1,h2,h3,h4,h5,h6,h7,h8,h9⟩
   ·exact .inl hr
   ·refine .inr ⟨g,cap,cur,fr,h1,h2,h3,h4,h5,h6,h7,h8,fun i x hx=> ?_⟩
    obtain ⟨k1,k2,u,k3,k4⟩:=h9 i x hx
    exact ⟨k1,k2,u,k3.scc (List.all_eq_true.1 hs x (List.mem_of_getElem? hx)) w F',k4⟩
  ·obtain ⟨ha,hr⟩:=hr
   refine ⟨ha, ?_⟩
   rcases hr with hr|⟨g,cap,cur,fpss,h1,h2,h3,h4,h5,h6,h7,h8⟩
   ·exact .inl hr
   ·refine .inr ⟨g,cap,cur,fpss,h1,h2,h3,h4,h5,h6,h7,fun i x hx=> ?_⟩
    obtain ⟨u,fps,k1,k2,k3⟩:=h8 i x hx
    exact ⟨u,fps,k1,k2.scc (List.all_eq_true.1 hs x (List.mem_of_getElem? hx)) F',k3⟩
theorem SR.scv {k:Kd} {x:PV} {v:Value} {l:List Nat} (h:SR w F k x v l) (hs:k.scv x=true) (F':Nat→Prop):SR w F' k x v l:=by
 cases k with
 |ck c=>exact CR.scv h hs F'
 | grp t ks=>
  obtain ⟨cs,xs,fps,h1,h2,h3,h4⟩:=h
  have key:∀{one:Bool} {ks:List CK} {xs:List PV} {vs:List Value} {fps:List (List Nat)},GrpR w F one ks xs vs fps→scvs ks xs=true→GrpR w F' one ks xs vs fps:=by
   intro one ks xs vs fps hg
   induction hg with
   |nil=>intro _;exact .nil
   | @cons k x v fp ks xs vs fps hc ho ht ih=>
    intro hs
    simp only[scvs,Bool.and_eq_true] at hs
    exact .cons (hc.scv hs.1 F') ho (ih hs.2)
  refine ⟨cs,xs,fps,h1,h2,key h3 ?_,h4⟩
  cases t
  ·simp only[Bool.false_eq_true,if_false] at h2
   subst h2
   exact hs
  ·simp only[if_true] at h2
   subst h2
   exact hs
 |_=>simp[Kd.scv] at hs
theorem SR.add {k:Kd} {x:PV} {v:Value} {l:List Nat} (h:SR w F k x v l) (hF:∀b,F b→F1 b):SR w F1 k x v l:=h.keep ⟨hF,fun _ _=>rfl⟩ fun _ _=>rfl
theorem Zk8 {s:SV} (h:Zcp s=true):¬s.isV=true:=by
 intro hv
 unfold Zcp SV.boxAt at h
 unfold SV.isV at hv
 split at hv
 ·rename_i hk;simp[hk] at h
 ·rename_i hk;simp[hk] at h
 ·rename_i hk;simp[hk] at h
 ·cases hv
theorem ZqE {s:SV} (h:Zcp s=true):¬(Z8 s).isSome=true:=by
 unfold Zcp at h
 cases hr:Z8 s<;>simp_all
theorem ZqF {s:SV} (h:Zcp s=true):capK s=true:=by
 unfold Zcp at h
 unfold capK
 simp only[Bool.and_eq_true] at h
 have h:=h.2
 cases hb:s.boxAt with
 |none=>rw[hb] at h;cases h
 |some p=>obtain ⟨q,ks,off⟩:=p;rw[hb] at h;exact h
theorem Zr0 {s:SV} (h:Zcp s=true) (d:DV):capV s d≠.undef:=by
 unfold Zcp at h
 unfold capV
 simp only[Bool.and_eq_true] at h
 have h:=h.2
 cases hb:s.boxAt with
 |none=>rw[hb] at h;cases h
 | some p=>
  obtain ⟨q,ks,off⟩:=p
  show PV.agg _≠PV.undef
  intro hc
  cases hc
theorem ZoD {ks:List CK} {xs:List PV} {cs:Array Value} {fps:List (List Nat)} (h:GrpR w F true ks xs cs.toList fps) (hb:∀b∈fps.flatten,F1 b) (hF:∀b,F b→F1 b) (hn:∀k∈ks,k≠CK.none):VR w F1 (.agg xs) (.agg cs):=by
 have key:∀{ks:List CK} {xs:List PV} {vs:List Value} {fps:List (List Nat)},GrpR w F true ks xs vs fps→(∀b∈fps.flatten,F1 b)→(∀k∈ks,k≠CK.none)→xs.length=vs.length∧∀(i:Nat) (y:PV),xs[i]?=some y→y.one=true∧∃v,vs[i]?=some v∧VR w F1 y v:=by
  intro ks xs vs fps hg
  induction hg with
  |nil=>intro _ _;exact ⟨rfl,fun i y hy=>by simp at hy⟩
  | @cons k x v fp ks xs vs fps hc ho ht ih=>
   intro hb hk
   simp only[List.flatten_cons,List.mem_append] at hb
   obtain ⟨i1,i2⟩:=ih (fun b h=>hb b (.inr h)) (fun k h=>hk k (List.mem_cons_of_mem _ h))
   refine ⟨by simp[i1],fun i y hy=> ?_⟩
   cases i with
   | zero=>
    simp at hy;subst hy
    refine ⟨ho rfl,v,rfl, ?_⟩
    cases k with
    |none=>exact absurd rfl (hk _ List.mem_cons_self)
    |val=>exact (Zcx hc rfl).1.keep ⟨hF,fun _ _=>rfl⟩
    |nil=>exact (Zcx hc rfl).1.keep ⟨hF,fun _ _=>rfl⟩
    | own app e sz=>
     obtain ⟨l,rfl,hr⟩:=hc
     exact hr.vr (fun b h=>hb b (.inl h)) hF
   |succ i=>simpa using i2 i y (by simpa using hy)
 obtain ⟨h1,h2⟩:=key h hb hn
 refine .agg xs cs (by rw[h1];simp) (fun i y hy=>(h2 i y hy).1) (fun i y hy=> ?_)
 obtain ⟨_,v,e1,e2⟩:=h2 i y hy
 have e3:cs[i]?=some v:=by simpa using e1
 rw[Array.getD_eq_getD_getElem?,e3]
 exact e2
theorem Zte {ks:List CK} {xs:List PV} {cs:Array Value} {fps:List (List Nat)} (h:GrpR w F true ks xs cs.toList fps) (hv:ks.all ckV=true):VR w F (.agg xs) (.agg cs):=by
 have key:∀{ks:List CK} {xs:List PV} {vs:List Value} {fps:List (List Nat)},GrpR w F true ks xs vs fps→ks.all ckV=true→xs.length=vs.length∧∀(i:Nat) (y:PV),xs[i]?=some y→y.one=true∧∃v,vs[i]?=some v∧VR w F y v:=by
  intro ks xs vs fps hg
  induction hg with
  |nil=>intro _;exact ⟨rfl,fun i y hy=>by simp at hy⟩
  | @cons k x v fp ks xs vs fps hc ho ht ih=>
   intro hk
   simp only[List.all_cons,Bool.and_eq_true] at hk
   obtain ⟨i1,i2⟩:=ih hk.2
   refine ⟨by simp[i1],fun i y hy=> ?_⟩
   cases i with
   |zero=>simp at hy;subst hy;exact ⟨ho rfl,v,rfl,(Zcx hc hk.1).1⟩
   |succ i=>simpa using i2 i y (by simpa using hy)
 obtain ⟨h1,h2⟩:=key h hv
 refine .agg xs cs (by rw[h1];simp) (fun i y hy=>(h2 i y hy).1) (fun i y hy=> ?_)
 obtain ⟨_,v,e1,e2⟩:=h2 i y hy
 have e3:cs[i]?=some v:=by simpa using e1
 rw[Array.getD_eq_getD_getElem?,e3]
 exact e2
theorem ZcO {sc : Bool} (h:St w0 F0 X0 κ σ a.tmps w F fp):∀(ks:List Kd) (args:List Operand) (xs:List PV),(∀x∈args,ZaM κ σ x)→ZbU sc ks (args.map (sv κ))=true→ZaB (args.map (sv κ)) (args.map (dv κ σ))=some xs→
 ∀ (F1:Nat→Prop),(∀b,F b→F1 b)→(sc=true→∀b,b<w.heap.size→F1 b)→(∀x∈args,∀(app:Bool) (e:TypeId) (sz q:Nat) (i:Option Nat) (l:List PV) (lb:List Nat),Z8 (sv κ x)=some (some (app,e,sz))→ZaJ (sv κ x)=some (q,i)→Zal w F app e sz l (a.eval x) lb→(∀b∈lb,b∈fp q)→∀b∈lb,F1 b)→
  ArgsR w F1 ks xs (args.map a.eval)
 | [],[],xs,_,_,hx,F1,_,_,_=>by
  simp[ZaB] at hx
  subst hx
  exact .nil
 | k :: ks, x :: args,xs,hl,hf,hx,F1,hF,hsc,hrow=>by
  simp only[List.map_cons,ZbU,Bool.and_eq_true] at hf
  simp only[List.map_cons,ZaB] at hx
  obtain ⟨y,hy,hx⟩:=Option.bind_eq_some_iff.1 hx
  obtain ⟨ys,hys,hx⟩:=Option.bind_eq_some_iff.1 hx
  cases hx
  have ih:=ZcO h ks args ys (fun z hz=>hl z (List.mem_cons_of_mem _ hz)) hf.2 hys F1 hF hsc (fun z hz=>hrow z (List.mem_cons_of_mem _ hz))
  have hlx:=hl x List.mem_cons_self
  simp only[List.map_cons]
  refine .cons ?_ ?_ ih
  ·unfold ZpT at hy
   split at hy
   ·rename_i hv
    cases hy
    have hvr:=rdS h hv
    cases k with
    | ck c=>
     cases c with
     |val=>exact ⟨hvr.keep ⟨hF,fun _ _=>rfl⟩,rfl⟩
     | nil=>
      have hk:(sv κ x).k=.ck .nil:=by simpa[Zm] using hf.1
      obtain ⟨l,_,hsr⟩:=h.at' x (by rw[hk];simp)
      rw[hk] at hsr
      obtain ⟨g1,g2,g3⟩:=hsr
      exact SR.add (k:=.ck .nil) ⟨g1,g2,rfl⟩ hF
     |_=>simp[Zm] at hf
    | clo f => exfalso
               have hk:(sv κ x).k=.clo f∨(sc=true∧(sv κ x).k=.cln f):=by simpa[Zm] using hf.1
               rcases hk with hk|⟨_,hk⟩<;>simp[SV.isV,hk] at hv
    | ipt => have hk:(sv κ x).k=.ipt∨(sc=true∧Zcp (sv κ x)=true):=by simpa[Zm] using hf.1
             rcases hk with hk|⟨_,hb⟩
             ·simp[SV.isV,hk] at hv
             ·exact absurd hv (Zk8 hb)
    |_=>simp[Zm] at hf
   ·rename_i hv
    split at hy
    ·rename_i hb
     cases hy
     cases k with
     | ck c=>
      cases c with
      | val=>
       have h1:(sv κ x).isV=true∨(gvB (sv κ x)=true∨(sc=true∧glB (sv κ x)=true))∨((Z8 (sv κ x)).isSome=true∧(ZaJ (sv κ x)).isSome=true):=by simpa[Zm] using hf.1
       rcases h1 with h1|h1|h1
       ·exact absurd h1 hv
       ·exfalso
        rcases h1 with h1|⟨_,h1⟩
        ·unfold gvB at h1
         split at h1
         ·rename_i hk;simp[Zcp,SV.boxAt,hk] at hb
         ·cases h1
        ·unfold glB at h1
         split at h1
         ·rename_i hk;simp[Zcp,SV.boxAt,hk] at hb
         ·rename_i hk;simp[Zcp,SV.boxAt,hk] at hb
         ·cases h1
       ·exact absurd h1.1 (ZqE hb)
      | nil=>
       have hk':(sv κ x).k=.ck .nil:=by simpa[Zm] using hf.1
       exact absurd (by simp[SV.isV,hk']) hv
      |_=>simp[Zm] at hf
     | clo f => have hk:(sv κ x).k=.clo f∨(sc=true∧(sv κ x).k=.cln f):=by simpa[Zm] using hf.1
                rcases hk with hk|⟨_,hk⟩<;>simp[Zcp,SV.boxAt,hk] at hb
     | ipt=>
      have hk:(sv κ x).k=.ipt∨(sc=true∧Zcp (sv κ x)=true):=by simpa[Zm] using hf.1
      rcases hk with hk|⟨hs,_⟩
      ·simp[Zcp,SV.boxAt,hk] at hb
      ·exact ⟨fun _=>(Zp6 h hlx (ZqF hb)).keep ⟨fun b hb=>hsc hs b hb,fun _ _=>rfl⟩,rfl⟩
     |_=>simp[Zm] at hf
    rename_i hb
    split at hy
    ·rename_i f hk
     cases hy
     cases k with
     | clo f'=>
      have hk':(sv κ x).k=.clo f':=by
       have:(sv κ x).k=.clo f'∨(sc=true∧(sv κ x).k=.cln f'):=by simpa[Zm] using hf.1
       rcases this with h1|⟨_,h1⟩
       ·exact h1
       ·rw[hk] at h1;cases h1
      obtain ⟨l,_,hsr⟩:=h.at' x (by rw[hk'];simp)
      rw[hk'] at hsr
      have:=hsr
      obtain ⟨_,_,_,_,_,_,h6⟩:=this
      subst h6
      exact hsr.add hF
     | ck c=>
      cases c with
      |val=>simp[Zm,SV.isV,gvB,glB,hk,Z8] at hf
      | nil=>
       have hk':(sv κ x).k=.ck .nil:=by simpa[Zm] using hf.1
       exact absurd (by simp[SV.isV,hk']) hv
      |_=>simp[Zm] at hf
     | ipt => have hk':(sv κ x).k=.ipt:=by simpa[Zm,hb] using hf.1
              rw[hk] at hk';cases hk'
     |_=>simp[Zm] at hf
    ·rename_i f hk
     cases hy
     cases k with
     | clo f'=>
      have hk':sc=true∧f'=f:=by
       have:(sv κ x).k=.clo f'∨(sc=true∧(sv κ x).k=.cln f'):=by simpa[Zm] using hf.1
       rw[hk] at this
       rcases this with h1|⟨h1,h2⟩
       ·cases h1
       ·cases h2;exact ⟨h1,rfl⟩
      obtain ⟨hs,rfl⟩:=hk'
      have hal:=h.al' x hlx
      rw[hk] at hal
      obtain ⟨caps,cx,e1,e2,e3,e4⟩:=hal
      exact ⟨caps,cx,e1,e2,e3,fun i y hy=>(e4 i y hy).keep ⟨fun b hb=>hsc hs b hb,fun _ _=>rfl⟩,rfl⟩
     | ck c=>
      cases c with
      |val=>simp[Zm,SV.isV,gvB,glB,hk,Z8] at hf
      | nil=>
       have hk':(sv κ x).k=.ck .nil:=by simpa[Zm] using hf.1
       exact absurd (by simp[SV.isV,hk']) hv
      |_=>simp[Zm] at hf
     | ipt => have hk':(sv κ x).k=.ipt:=by simpa[Zm,hb] using hf.1
              rw[hk] at hk';cases hk'
     |_=>simp[Zm] at hf
    ·rename_i hk
     cases hy
     cases k with
     | ipt=>
      obtain ⟨l,_,hsr⟩:=h.at' x (by rw[hk];simp)
      rw[hk] at hsr
      have h6:=hsr.2
      subst h6
      exact SR.add hsr hF
     | ck c=>
      cases c with
      |val=>simp[Zm,SV.isV,gvB,glB,hk,Z8] at hf
      | nil=>
       have hk':(sv κ x).k=.ck .nil:=by simpa[Zm] using hf.1
       exact absurd (by simp[SV.isV,hk']) hv
      |_=>simp[Zm] at hf
     | clo f' => have hk':(sv κ x).k=.clo f'∨(sc=true∧(sv κ x).k=.cln f'):=by simpa[Zm] using hf.1
                 rw[hk] at hk';rcases hk' with hk'|⟨_,hk'⟩<;>cases hk'
     |_=>simp[Zm] at hf
    ·rename_i ks0 hk
     cases hy
     cases k with
     | ck c=>
      cases c with
      | val=>
       have h1:ks0.all ckV=true∨(sc=true∧(ks0.all fun k=>k≠.none)=true):=by
        have:=hf.1
        simp only[Zm,SV.isV,gvB,glB,hk,Z8,Bool.false_or,Bool.or_eq_true,Bool.and_eq_true] at this
        rcases this with (h|h)|h
        ·exact .inl h
        ·exact .inr h
        ·simp at h
       have hx':∃t,x=.tmp t:=by
        cases x with
        |tmp t=>exact ⟨t,rfl⟩
        |_=>simp[sv,kOp] at hk
       obtain ⟨t,rfl⟩:=hx'
       obtain ⟨l,_,hsub,hsr⟩:=h.sr t
       rw[show kd κ t=.grp false ks0 from hk] at hsr
       obtain ⟨cs,xs,fps,e1,e2,e3,rfl⟩:=hsr
       simp only[Bool.false_eq_true,if_false] at e1 e2
       have e1':a.eval (.tmp t)=.agg cs:=e1
       have e2':(dv κ σ (.tmp t)).v=.agg xs:=e2
       rw[e1',e2']
       rcases h1 with h1|⟨hs,h1⟩
       ·exact ⟨(Zte e3 h1).keep ⟨hF,fun _ _=>rfl⟩,rfl⟩
       ·refine ⟨ZoD e3 (fun b hb=>hsc hs b (h.pr _ b (hsub b hb)).1) hF fun k hk e=> ?_,rfl⟩
        have:=List.all_eq_true.1 h1 k hk
        simp[e] at this
      | nil=>
       have hk':(sv κ x).k=.ck .nil:=by simpa[Zm] using hf.1
       exact absurd (by simp[SV.isV,hk']) hv
      |_=>simp[Zm] at hf
     | ipt => have hk':(sv κ x).k=.ipt:=by simpa[Zm,hb] using hf.1
              rw[hk] at hk';cases hk'
     | clo f' => have hk':(sv κ x).k=.clo f'∨(sc=true∧(sv κ x).k=.cln f'):=by simpa[Zm] using hf.1
                 rw[hk] at hk';rcases hk' with hk'|⟨_,hk'⟩<;>cases hk'
     |_=>simp[Zm] at hf
    ·rename_i q n hk
     cases hy
     cases k with
     | ck c=>
      cases c with
      | val=>
       have h1:sc=true∧glB (sv κ x)=true:=by
        have:=hf.1
        simpa[Zm,SV.isV,gvB,hk,Z8] using this
       obtain ⟨hs,h1⟩:=h1
       unfold glB at h1
       rw[hk] at h1
       dsimp only at h1
       split at h1
       case h_2=>cases h1
       rename_i TT ks hpk
       simp only[Bool.and_eq_true,decide_eq_true_eq] at h1
       have hk':kOp κ x=.gal q n:=hk
       have hq:kd κ q=.box TT ks:=by simpa[sv,hk',Kd.dep] using hpk
       have hpv:(dv κ σ x).pv=vl σ q:=by simp[dv,hk',Kd.dep]
       obtain ⟨lb,_,hsub,hsr⟩:=h.sr q
       rw[hq] at hsr
       obtain ⟨b0,cs,xs,fps,ev,ex,hheap,hgrp,rfl⟩:=hsr
       have hal:=h.al' x hlx
       rw[hk] at hal
       obtain ⟨cs',e1,e2,e3⟩:=hal
       have hlen:=hgrp.lens
       have hsz:cs.size=ks.length:=by have:=hlen.2.1;simp at this;omega
       have hcs:cs'=cs:=by
        apply Array.ext_getElem?
        intro j
        by_cases hj:j<cs'.size
        ·obtain ⟨b',u1,u2⟩:=e3 j cs'[j] (by simp[hj])
         rw[ev] at u1
         simp at u1
         subst u1
         rw[cell_of_row w b0 j cs TT (0,0) hheap] at u2
         rw[u2];simp[hj]
        ·rw[Array.getElem?_eq_none (by omega),Array.getElem?_eq_none (by omega)]
       rw[e1,hcs,hpv,ex]
       exact ⟨ZoD hgrp (fun b hb=>hsc hs b (h.pr _ b (hsub b (List.mem_cons_of_mem _ hb))).1) hF fun k hk e=>by
        have:=List.all_eq_true.1 h1.2 k hk
        simp[e] at this,rfl⟩
      | nil=>
       have hk':(sv κ x).k=.ck .nil:=by simpa[Zm] using hf.1
       exact absurd (by simp[SV.isV,hk']) hv
      |_=>simp[Zm] at hf
     | ipt => have hk':(sv κ x).k=.ipt:=by simpa[Zm,hb] using hf.1
              rw[hk] at hk';cases hk'
     | clo f' => have hk':(sv κ x).k=.clo f'∨(sc=true∧(sv κ x).k=.cln f'):=by simpa[Zm] using hf.1
                 rw[hk] at hk';rcases hk' with hk'|⟨_,hk'⟩<;>cases hk'
     |_=>simp[Zm] at hf
    ·rename_i hn1 hn3 hn2 hn4 hn5
     obtain ⟨l,hl',rfl⟩:=Option.map_eq_some_iff.1 hy
     cases k with
     | ck c=>
      cases c with
      | val=>
       have hK:∃app e sz,Z8 (sv κ x)=some (some (app,e,sz)):=by
        have h1:(sv κ x).isV=true∨(gvB (sv κ x)=true∨(sc=true∧glB (sv κ x)=true))∨((Z8 (sv κ x)).isSome=true∧(ZaJ (sv κ x)).isSome=true):=by simpa[Zm] using hf.1
        rcases h1 with h1|h1|h1
        ·exact absurd h1 hv
        ·exfalso
         rcases h1 with h1|⟨_,h1⟩
         ·unfold gvB at h1
          split at h1
          ·rename_i hk;exact hn4 _ hk
          ·cases h1
         ·unfold glB at h1
          split at h1
          ·rename_i hk;exact hn4 _ hk
          ·rename_i hk;exact hn5 _ _ hk
          ·cases h1
        ·obtain ⟨kk,hkk⟩:=Option.isSome_iff_exists.1 h1.1
         cases kk with
         | none=>
          unfold Z8 at hkk
          rw[if_neg hv] at hkk
          split at hkk
          ·cases hkk
          ·split at hkk<;>cases hkk
          ·split at hkk<;>cases hkk
          ·cases hkk
         |some p=>exact ⟨p.1,p.2.1,p.2.2,hkk⟩
       obtain ⟨app,e,sz,hK⟩:=hK
       obtain ⟨q,i,lb,r1,r2,r3,r4⟩:=ZbA h hlx (l:=l) hl' hK
       exact ⟨r2.vr (hrow x List.mem_cons_self app e sz q i l lb hK r1 r2 r4) hF,rfl⟩
      | nil=>
       have hk':(sv κ x).k=.ck .nil:=by simpa[Zm] using hf.1
       exact absurd (by simp[SV.isV,hk']) hv
      |_=>simp[Zm] at hf
     | clo f => have hk':(sv κ x).k=.clo f∨(sc=true∧(sv κ x).k=.cln f):=by simpa[Zm] using hf.1
                rcases hk' with hk'|⟨_,hk'⟩
                ·exact absurd hk' (hn1 f)
                ·exact absurd hk' (hn3 f)
     | ipt => have hk':(sv κ x).k=.ipt:=by simpa[Zm,hb] using hf.1
              exact absurd hk' hn2
     |_=>simp[Zm] at hf
  ·rintro rfl
   have hk:(sv κ x).k=.ipt∨(sc=true∧Zcp (sv κ x)=true):=by simpa[Zm] using hf.1
   rcases hk with hk|⟨_,hb⟩
   case inr=>
    unfold ZpT at hy
    rw[if_neg (Zk8 hb),if_pos hb] at hy
    cases hy
    exact Zr0 hb _
   have hb:¬Zcp (sv κ x)=true:=by simp[Zcp,SV.boxAt,hk]
   have hd:=hlx (by show (kOp κ x).hangs=true;rw[show kOp κ x=.ipt from hk];rfl)
   unfold ZpT at hy
   split at hy
   ·cases hy;exact hd
   ·split at hy
    ·cases hy;exact hd
    ·cases hy;exact hd
    ·cases hy;exact hd
    ·cases hy;exact hd
    ·rename_i hg;rw[hk] at hg;cases hg
    ·rename_i hn1 hn3 hn2 hn4 hn5;exact absurd hk hn2
 |[],_::_,xs,_,hf,_,_,_,_,_=>by simp[ZbU] at hf
 |_::_,[],xs,_,hf,_,_,_,_,_=>by simp[ZbU] at hf
theorem Zgx {x:Operand} {app:Bool} {e:TypeId} {sz q:Nat} {i:Option Nat}:∀(args:List Operand),x∈args→Z8 (sv κ x)=some (some (app,e,sz))→ZaJ (sv κ x)=some (q,i)→(⟨q,i,true,app,e,sz⟩:Gh)∈Zej (args.map (sv κ))
 | y::ys,hx,h1,h2=>by
  simp only[List.map_cons,Zej]
  rcases List.mem_cons.1 hx with rfl|hx
  ·rw[h1,h2];exact List.mem_cons_self
  ·have ih:=Zgx ys hx h1 h2
   split
   ·exact List.mem_cons_of_mem _ ih
   ·exact ih
theorem Zk9 {e:Ent} (he:FnOk P e) {d:Nat} (hd:o.dst=some d) {args:List Operand} {dyn:List DV→(PV→Option R)→Option R}
 (H:∀(w0:World) (F0:Nat→Prop) (X0:List Nat) (σ:List PV) (a:Act) (w:World) (F:Nat→Prop) (fp:Nat→List Nat) (kk:PV→Option R) (r:R),St w0 F0 X0 κ σ a.tmps w F fp→Z7 κ σ o.op.operands.toList=true→dyn (o.op.operands.toList.map (dv κ σ)) kk=some r→
  ∃(xs capx:List PV) (cap:List Value) (z:PV) (ks kc:List Kd),(execOp a.eval o).run P w=.ok (.enter e.f (args.map a.eval++cap).toArray) w∧e.ps=ks++kc∧ZbU e.sc ks (args.map (sv κ))=true∧ZaB (args.map (sv κ)) (args.map (dv κ σ))=some xs∧(∀x∈args,ZaM κ σ x)∧(∀F1,(∀b,F b→F1 b)→ArgsR w F1 kc capx cap)∧e.spec (xs++capx)=some z∧kk z=some r):
 ZN P o κ ({gh:=if e.sc then [] else Zej (args.map (sv κ)),tgt:=d,put:=true,k:=e.rk,cut:=.no,dyn:=dyn}:Eff R):=by
 intro w0 F0 X0 κ' σ a w F fp kk r K Q h hκ hlv hdy hK
 obtain ⟨gl,hgl⟩:∃gl,(if e.sc then [] else Zej (args.map (sv κ)))=gl:=⟨_,rfl⟩
 unfold Eff.κ at hκ
 simp only[hgl,if_true] at hκ
 split at hκ
 case isFalse=>cases hκ
 rename_i htgt
 obtain ⟨κ1,h1,h2⟩:=Option.map_eq_some_iff.1 hκ
 subst h2
 obtain ⟨F1,fp1,hst,hF,hfp,hall⟩:=Zbq _ κ κ1 F fp h h1
 obtain ⟨xs,capx,cap,z,ks,kc,hrun,hps,hfit,hxs,hlive,hcap,hsp,hkk⟩:=H w0 F0 X0 σ a w F fp kk r h hlv hdy
 have hlen:κ1.length=κ.length:=by rw[hst.lk,h.lk]
 have app:∀{k1 k2:List Kd} {x1 x2:List PV} {v1 v2:List Value} {G:Nat→Prop},ArgsR w G k1 x1 v1→ArgsR w G k2 x2 v2→ArgsR w G (k1++k2) (x1++x2) (v1++v2):=by
  intro k1 k2 x1 x2 v1 v2 G g1 g2
  induction g1 with
  |nil=>exact g2
  |cons h hu ht ih=>exact .cons h hu ih
 unfold Oper.wp
 rw[hrun]
 have fin:∀(G:Nat→Prop),(∀b,F1 b→G b)→(∀b,G b→b<w.heap.size)→ArgsR w G e.ps (xs++capx) (args.map a.eval++cap)→(e.sc=true∨∀b,G b→F1 b)→
  Oper.upon P o a K Q (.ok (.enter e.f (args.map a.eval++cap).toArray) w):=by
  intro G hG hGl hargs hsc
  rw[Oper.upon_enter]
  refine (he.call w G _ _ z ⟨hGl,hst.gk.mono hG⟩ hargs hsp).mono fun en w' hpost=> ?_
  obtain ⟨v,F',l,rfl,hA,hnd,hsr,hl,hscr⟩:=hpost
  rcases hsc with hsc|hsc
  ·
   have hsr':=hscr hsc F1
   have:=(hst.noCln (mdB true gl)).putA (d:=d) (k:=e.rk) (x:=z) (v:=v) (l:=l) (w1:=w') (F1:=F1) (by rw[Zn,hlen];exact htgt)
    ⟨hA.os,hA.tape,hA.output,hA.size,hA.block,fun _ h=>h,fun _ h=>.inl h,fun b hb=>Nat.lt_of_lt_of_le (hst.fl b hb) hA.size⟩ hnd hsr' (fun b hb=>⟨(hl b hb).1,(hl b hb).2.1,fun hc=>by have:=hst.fl b hc;have:=(hl b hb).1;omega⟩) (fun _=>ZbV he.dep _ _) (fun q hq=>by have hq':=Zab hq;rw[he.dep] at hq';cases hq')
   refine hK z v w' F1 (fun s=>if s=d then l else fp1 s) ?_ hkk
   rw[hd]
   exact this
  ·have hA':Adds w F1 w' F':=⟨hA.os,hA.tape,hA.output,hA.size,hA.block,fun b hb=>hA.sub b (hG b hb),fun b hb=>by rcases hA.new b hb with h|h;exact .inl (hsc b h);exact .inr h,hA.lt⟩
   have:=(hst.noCln (mdB true gl)).putA (d:=d) (k:=e.rk) (x:=z) (v:=v) (l:=l) (w1:=w') (F1:=F') (by rw[Zn,hlen];exact htgt) hA' hnd hsr hl (fun _=>ZbV he.dep _ _) (fun q hq=>by have hq':=Zab hq;rw[he.dep] at hq';cases hq')
   refine hK z v w' F' (fun s=>if s=d then l else fp1 s) ?_ hkk
   rw[hd]
   exact this
 cases hsc:e.sc
 ·rw[hsc] at hgl
  simp only[Bool.false_eq_true,if_false] at hgl
  subst hgl
  refine fin F1 (fun _ h=>h) hst.fl ?_ (.inr fun _ h=>h)
  rw[hps]
  refine app (ZcO h ks args xs hlive hfit hxs F1 hF (fun hc=>by rw[hsc] at hc;cases hc) fun x hx app e' sz q i l lb g1 g2 g3 g4 b hb=> ?_) (hcap F1 hF)
  obtain ⟨y',v0,l',lb',m1,m2,m3,m4,m5⟩:=hall _ (Zgx args hx g1 g2)
  simp only[if_true] at m5
  have hv0:=ZcZ h (hlive x hx) g2 m1
  subst hv0
  have hlb:=g3.lb_eq m3
  subst hlb
  exact m5.2 b hb
 ·refine fin (fun b=>b<w.heap.size) hst.fl (fun b hb=>hb) ?_ (.inl hsc)
  rw[hps]
  refine app (ZcO h ks args xs hlive hfit hxs _ (fun b hb=>h.fl b hb) (fun _ b hb=>hb) fun x hx app e' sz q i l lb g1 g2 g3 g4 b hb=>(h.pr q b (g4 b hb)).1) (hcap _ fun b hb=>h.fl b hb)
theorem Zdx {c:Call} (hop:o.op=.call c) {f:FuncId} {ρ:Operand→Value} {w:World} {cap:Array Value} (hc:∃x,c.callee=.value x∧ρ x=.func (.func f) #[] cap):(execOp ρ o).run P w=(callFunc f (c.args.map ρ++cap)).run P w:=by
 obtain ⟨x,h1,h2⟩:=hc
 obtain ⟨cal,cargs,cts⟩:=c
 simp only at h1
 subst h1
 simp[execOp,hop,resolve,h2,Deferred.ofValue,invoke]
theorem Zng {G:List Ent} (hG:∀e∈G,FnOk P e) {f:FuncId} {args:Array Operand} {ts:Array TypeId} {d:Nat} (hop:o.op=.call {callee:=.value (.func f),args:=args,argTypes:=ts}) (hd:o.dst=some d)
 (hE:Zhb G d f (args.toList.map (sv κ))=some E):ZN P o κ E:=by
 have hops:o.op.operands.toList=.func f::args.toList:=by rw[hop];simp[Op.operands,Call.operands]
 obtain ⟨al,hal⟩:∃al,args.toList=al:=⟨_,rfl⟩
 rw[hal] at hE hops
 cases al with
 |nil=>simp[Zhb] at hE
 |cons x rest=>
 simp only[List.map_cons,Zhb] at hE
 split at hE
 ·cases hE
 rename_i e hf
 have hm:=List.mem_of_find?_eq_some hf
 have hp:=List.find?_some hf
 simp only[Bool.and_eq_true,decide_eq_true_eq,ne_eq] at hp
 obtain ⟨⟨rfl,hfit⟩,hrk⟩:=hp
 unfold ZrY at hfit
 split at hfit
 case h_2=>cases hfit
 rename_i t sz ps hps
 simp only[Bool.and_eq_true,beq_iff_eq,List.all_eq_true] at hfit
 obtain ⟨⟨hK,hfit⟩,hisv⟩:=hfit
 rw[hK] at hE
 split at hE
 case h_2=>cases hE
 rename_i app t' sz' q i e1 hA
 simp only[Option.some.injEq,Prod.mk.injEq] at e1
 obtain ⟨rfl,rfl,rfl⟩:=e1
 cases hE
 intro w0 F0 X0 κ' σ a w F fp kk r K Q h hκ hlv hdy hK'
 rw[hops] at hdy hlv
 simp only[List.map_cons] at hdy
 obtain ⟨l,hl,hdy⟩:=Option.bind_eq_some_iff.1 hdy
 obtain ⟨xs,hxs,hdy⟩:=Option.bind_eq_some_iff.1 hdy
 obtain ⟨z,hz,hkk⟩:=Option.bind_eq_some_iff.1 hdy
 have hlx:ZaM κ σ x:=Zc hlv (by simp)
 unfold Eff.κ at hκ
 simp only[if_true] at hκ
 split at hκ
 case isFalse=>cases hκ
 rename_i htgt
 obtain ⟨κ1,h1,h2⟩:=Option.map_eq_some_iff.1 hκ
 subst h2
 obtain ⟨F1,fp1,hst,hF,hfp,hall⟩:=Zbq _ κ κ1 F fp h h1
 have hlen:κ1.length=κ.length:=by rw[hst.lk,h.lk]
 obtain ⟨q2,i2,lb,r1,r2,r3,r4⟩:=ZbA h hlx (l:=l) hl hK
 rw[hA] at r1
 cases r1
 obtain ⟨y',v0,l',lb',m1,m2,m3,m4,m5⟩:=hall _ (List.mem_singleton.2 rfl)
 simp only[Bool.false_eq_true,if_false] at m5
 have hv0:=ZcZ h hlx hA m1
 subst hv0
 have hlb:=r2.lb_eq m3
 subst hlb
 have hstF:Stays w F w F1:=⟨hF,fun _ _=>rfl⟩
 have hargsR:=ZcO (sc:=false) h ps rest xs (fun y hy=>Zc hlv (List.mem_cons_of_mem _ (List.mem_cons_of_mem _ hy))) hfit hxs F1 hF (fun hc=>by cases hc)
  (fun y hy app e' sz q' i l lb g1 _ _ _=>by
   have:=hisv (sv κ y) (List.mem_map.2 ⟨y,hy,rfl⟩)
   unfold Z8 at g1
   rw[if_pos this] at g1
   cases g1)
 have run:(execOp a.eval o).run P w=.ok (.enter e.f (a.eval x::rest.map a.eval).toArray) w:=by
  rw[Zdx hop (f:=e.f) (cap:= #[]) ⟨.func e.f,rfl,rfl⟩]
  have:=(hG e hm).body (a.eval x::rest.map a.eval).toArray w
  obtain ⟨al⟩:=args
  simp only at hal
  subst hal
  simpa using this
 unfold Oper.wp
 rw[run,Oper.upon_enter]
 refine ((hG e hm).mvc (.ck (.own true t sz)) ps rfl hps hrk w F1 (.lst l) (a.eval x) lb xs (rest.map a.eval) z ⟨hst.fl,hst.gk⟩ r3 (fun b hb=>⟨(hst.pr _ b (m5 b hb)).1,(hst.pr _ b (m5 b hb)).2.1⟩) ⟨l,rfl,r2.keep hstF fun _ _=>rfl⟩ hargsR hz).mono fun en w' hpost=> ?_
 obtain ⟨v,F',l',rfl,e2,e3,e4,e5,e6,e7,e8,e9⟩:=hpost
 have:=(hst.noCln true).put (d:=d) (k:=e.rk) (x:=z) (v:=v) (l:=l') (fpd:=l') (w1:=w') (F1:=F') (by rw[Zn,hlen];exact htgt) e2.1 e2.2.1 e2.2.2.1 e2.2.2.2 (fun b hb hn=>e3 b hb fun hc=>hn (m5 b hc)) e4
  (fun b hb=>by rcases e5 b hb with h|h|h;exact .inl h;exact .inr (.inl h);exact .inr (.inr (m5 b h))) e6 e7 (fun _ h=>h) e8 (fun b hb=>⟨by rcases (e9 b hb).1 with h|h;exact .inr (m5 b h);exact .inl h,(e9 b hb).2⟩) (fun _=>ZbV (hG e hm).dep _ _) (fun q hq=>by have hq':=Zab hq;rw[(hG e hm).dep] at hq';cases hq')
  (fun s hc=>by rw[Zbh] at hc;cases hc)
 refine hK' z v w' F' (fun s=>if s=d then l' else fp1 s) ?_ hkk
 rw[hd]
 exact this
theorem Zla {q:Nat} {app:Bool} {e:TypeId} {sz:Nat}:∀(ks:List CK) (j i:Nat),ks[i]?=some (.own app e sz)→(⟨q,some (j+i),false,app,e,sz⟩:Gh)∈Znf q j ks
 |[],_,_,h=>by simp at h
 | k::r,j,0,h=>by
  simp at h
  subst h
  exact List.mem_cons_self
 | k::r,j,i+1,h=>by
  have ih:=Zla (q:=q) r (j+1) i (by simpa using h)
  rw[show j+1+i=j+(i+1) by omega] at ih
  unfold Znf
  split
  ·rename_i h1;cases h1
  ·rename_i h1;cases h1;exact List.mem_cons_of_mem _ ih
  ·rename_i h1;cases h1;exact ih
theorem Znh {G:List Ent} (hG:∀e∈G,FnOk P e) {f:FuncId} {args:Array Operand} {ts:Array TypeId} {d:Nat} (hop:o.op=.call {callee:=.value (.func f),args:=args,argTypes:=ts}) (hd:o.dst=some d)
 (hE:Zhc G d f (args.toList.map (sv κ))=some E):ZN P o κ E:=by
 have hops:o.op.operands.toList=.func f::args.toList:=by rw[hop];simp[Op.operands,Call.operands]
 obtain ⟨al,hal⟩:∃al,args.toList=al:=⟨_,rfl⟩
 have hE0:=hE
 rw[hal] at hE hops
 cases al with
 |nil=>simp[Zhc] at hE
 |cons x rest=>
 simp only[List.map_cons,Zhc] at hE
 split at hE
 case h_2=>exact Zng hG hop hd (by rw[hal];exact hE)
 rename_i ks q hk hq
 split at hE
 ·cases hE
 rename_i e hf
 have hm:=List.mem_of_find?_eq_some hf
 have hp:=List.find?_some hf
 simp only[Bool.and_eq_true,decide_eq_true_eq,ne_eq] at hp
 obtain ⟨⟨rfl,hfit⟩,hrk⟩:=hp
 unfold ZrZ at hfit
 split at hfit
 case h_2=>cases hfit
 rename_i ks' ps hps
 simp only[Bool.and_eq_true,decide_eq_true_eq,List.all_eq_true] at hfit
 obtain ⟨⟨rfl,hfit⟩,hisv⟩:=hfit
 split at hE
 ·cases hE
 rename_i g0 gs0 hgs
 cases hE
 intro w0 F0 X0 κ' σ a w F fp kk r K Q h hκ hlv hdy hK'
 rw[hops] at hdy hlv
 simp only[List.map_cons] at hdy
 obtain ⟨xs,hxs,hdy⟩:=Option.bind_eq_some_iff.1 hdy
 obtain ⟨z,hz,hkk⟩:=Option.bind_eq_some_iff.1 hdy
 unfold Eff.κ at hκ
 simp only[if_true] at hκ
 split at hκ
 case isFalse=>cases hκ
 rename_i htgt
 obtain ⟨κ1,h1,h2⟩:=Option.map_eq_some_iff.1 hκ
 subst h2
 obtain ⟨F1,fp1,hst,hF,hfp,hall⟩:=Zbq _ κ κ1 F fp h h1
 have hlen:κ1.length=κ.length:=by rw[hst.lk,h.lk]
 obtain ⟨t,rfl⟩:∃t,x=.tmp t:=by
  cases x with
  |tmp t=>exact ⟨t,rfl⟩
  |_=>simp[sv] at hq
 obtain rfl:t=q:=by simpa[sv] using hq
 obtain ⟨l,hnl,hsub,hsr⟩:=h.sr t
 rw[show kd κ t=.grp false ks' from hk] at hsr
 obtain ⟨cs,ys,fps,e1,e2,e3,rfl⟩:=hsr
 simp only[Bool.false_eq_true,if_false] at e1 e2
 have hown:∀b∈fps.flatten,b∈fp1 d:=by
  intro b hb
  obtain ⟨lb,hlb,hb⟩:=List.mem_flatten.1 hb
  obtain ⟨i,hi⟩:=List.getElem?_of_mem hlb
  have hl:=e3.lens
  have hilt:i<ys.length:=by have:=(List.getElem?_eq_some_iff.1 hi).1;omega
  obtain ⟨k,v,lb',k1,k2,k3,k4,_⟩:=e3.at i ys[i] (List.getElem?_eq_getElem hilt)
  rw[hi] at k3
  cases k3
  cases k with
  |none=>have k4:lb=[]:=k4;rw[k4] at hb;simp at hb
  |val=>have k4:=k4.2;rw[k4] at hb;simp at hb
  |nil=>have k4:=k4.2.2;rw[k4] at hb;simp at hb
  | own app ee sz=>
   have hg:=Zla (q:=t) ks' 0 i k1
   rw[Nat.zero_add,hgs] at hg
   obtain ⟨y',v0,l',lb',m1,m2,m3,m4,m5⟩:=hall _ hg
   simp only[Bool.false_eq_true,if_false] at m5
   obtain ⟨l1,hl1,hr1⟩:=k4
   have hv0:v0=v:=by
    simp only[GhV] at m1
    rcases m1 with ⟨b0,xs0,g1,_⟩|⟨t0,cs0,xs0,g1,g2,_⟩|⟨cs0,xs0,g1,_⟩
    ·rw[e1] at g1;cases g1
    ·rw[e1] at g1
     cases t0
     ·simp only[Bool.false_eq_true,if_false] at g1
      cases g1
      have k2':cs[i]?=some v:=by simpa using k2
      rw[k2'] at g2
      cases g2
      rfl
     ·simp at g1
    ·rw[e1] at g1;cases g1
   subst hv0
   have:=hr1.lb_eq m3
   subst this
   exact m5 b hb
 have hstF:Stays w F w F1:=⟨hF,fun _ _=>rfl⟩
 have hargsR:=ZcO (sc:=false) h ps rest xs (fun y hy=>Zc hlv (List.mem_cons_of_mem _ (List.mem_cons_of_mem _ hy))) hfit hxs F1 hF (fun hc=>by cases hc)
  (fun y hy app e sz q' i l lb g1 _ _ _=>by
   have:=hisv (sv κ y) (List.mem_map.2 ⟨y,hy,rfl⟩)
   unfold Z8 at g1
   rw[if_pos this] at g1
   cases g1)
 have run:(execOp a.eval o).run P w=.ok (.enter e.f (a.eval (.tmp t)::rest.map a.eval).toArray) w:=by
  rw[Zdx hop (f:=e.f) (cap:= #[]) ⟨.func e.f,rfl,rfl⟩]
  have:=(hG e hm).body (a.eval (.tmp t)::rest.map a.eval).toArray w
  obtain ⟨al⟩:=args
  simp only at hal
  subst hal
  simpa using this
 unfold Oper.wp
 rw[run,Oper.upon_enter]
 have hx0:SR w F1 (.grp false ks') (dv κ σ (.tmp t)).v (a.eval (.tmp t)) fps.flatten:=⟨cs,ys,fps,e1,e2,e3.keep hstF fun _ _=>rfl,rfl⟩
 refine ((hG e hm).mvc (.grp false ks') ps rfl hps hrk w F1 _ (a.eval (.tmp t)) fps.flatten xs (rest.map a.eval) z ⟨hst.fl,hst.gk⟩ hnl (fun b hb=>⟨(hst.pr _ b (hown b hb)).1,(hst.pr _ b (hown b hb)).2.1⟩) hx0 hargsR hz).mono fun en w' hpost=> ?_
 obtain ⟨v,F',l',rfl,e2,e3,e4,e5,e6,e7,e8,e9⟩:=hpost
 have:=(hst.noCln true).put (d:=d) (k:=e.rk) (x:=z) (v:=v) (l:=l') (fpd:=l') (w1:=w') (F1:=F') (by rw[Zn,hlen];exact htgt) e2.1 e2.2.1 e2.2.2.1 e2.2.2.2 (fun b hb hn=>e3 b hb fun hc=>hn (hown b hc)) e4
  (fun b hb=>by rcases e5 b hb with h|h|h;exact .inl h;exact .inr (.inl h);exact .inr (.inr (hown b h))) e6 e7 (fun _ h=>h) e8 (fun b hb=>⟨by rcases (e9 b hb).1 with h|h;exact .inr (hown b h);exact .inl h,(e9 b hb).2⟩) (fun _=>ZbV (hG e hm).dep _ _) (fun q hq=>by have hq':=Zab hq;rw[(hG e hm).dep] at hq';cases hq')
  (fun s hc=>by rw[Zbh] at hc;cases hc)
 refine hK' z v w' F' (fun s=>if s=d then l' else fp1 s) ?_ hkk
 rw[hd]
 exact this
theorem ZoE {G:List Ent} (hG:∀e∈G,FnOk P e) {f:FuncId} {args:Array Operand} {ts:Array TypeId} {d:Nat} (hop:o.op=.call {callee:=.value (.func f),args:=args,argTypes:=ts}) (hd:o.dst=some d)
 (hE:ZlT G d f (args.toList.map (sv κ))=some E):ZN P o κ E:=by
 have hops:o.op.operands.toList=.func f::args.toList:=by rw[hop];simp[Op.operands,Call.operands]
 unfold ZlT at hE
 split at hE
 case h_1=>exact Znh hG hop hd hE
 rename_i e hf
 cases hE
 have hm:=List.mem_of_find?_eq_some hf
 have hp:=List.find?_some hf
 simp only[Bool.and_eq_true,decide_eq_true_eq] at hp
 obtain ⟨rfl,hfit⟩:=hp
 refine Zk9 (hG e hm) hd fun w0 F0 X0 σ a w F fp kk r h hlv hdy=> ?_
 rw[hops] at hdy
 simp only[List.map_cons,List.tail_cons] at hdy
 obtain ⟨xs,hxs,hdy⟩:=Option.bind_eq_some_iff.1 hdy
 obtain ⟨z,hz,hkk⟩:=Option.bind_eq_some_iff.1 hdy
 refine ⟨xs,[],[],z,e.ps,[], ?_,by simp,hfit,hxs,fun x hx=>Zc hlv (by rw[hops];exact List.mem_cons_of_mem _ hx),fun _ _=>.nil,by simpa using hz,hkk⟩
 rw[Zdx hop (f:=e.f) (cap:= #[]) ⟨.func e.f,rfl,rfl⟩]
 have:=(hG e hm).body (args.map a.eval) w
 simp only[Array.append_empty] at this⊢
 rw[this]
 congr 2
 apply Array.ext'
 simp
theorem ZqG {G:List Ent} (hG:∀e∈G,FnOk P e) {c:Operand} {args:Array Operand} {ts:Array TypeId} {d:Nat} (hop:o.op=.call {callee:=.value c,args:=args,argTypes:=ts}) (hd:o.dst=some d)
 (hE:ZoC G d (sv κ c) (args.toList.map (sv κ))=some E):ZN P o κ E:=by
 have hops:o.op.operands.toList=c::args.toList:=by rw[hop];simp[Op.operands,Call.operands]
 unfold ZoC at hE
 split at hE
 case h_2=>cases hE
 rename_i f hk
 split at hE
 case h_1=>cases hE
 rename_i e hf
 cases hE
 have hm:=List.mem_of_find?_eq_some hf
 have hp:=List.find?_some hf
 simp only[Bool.and_eq_true,decide_eq_true_eq] at hp
 obtain ⟨⟨rfl,hfit⟩,hcap⟩:=hp
 refine Zk9 (hG e hm) hd fun w0 F0 X0 σ a w F fp kk r h hlv hdy=> ?_
 rw[hops] at hdy
 simp only[List.map_cons] at hdy
 obtain ⟨xs,hxs,hdy⟩:=Option.bind_eq_some_iff.1 hdy
 obtain ⟨cs0,hcs0,hdy⟩:=Option.bind_eq_some_iff.1 hdy
 obtain ⟨z,hz,hkk⟩:=Option.bind_eq_some_iff.1 hdy
 unfold Zfr at hcs0
 split at hcs0
 case isFalse=>cases hcs0
 rename_i hc
 cases hcs0
 obtain ⟨l,_,hsr⟩:=h.at' c (by rw[hk];simp)
 rw[hk] at hsr
 obtain ⟨caps,cx,hv,hx,hlc,hcr,_⟩:=hsr
 rw[hx] at hc hz
 simp only[PV.parts] at hc hz
 have hl:(List.map (sv κ) args.toList).length=args.toList.length:=by simp
 rw[hl] at hc hfit hcap
 have hlenp:(e.ps.drop args.toList.length).length=cx.length:=by rw[List.length_drop];have:=hc.1;simp only[Array.length_toList] at this⊢;omega
 refine ⟨xs,cx,caps.toList,z,e.ps.take args.toList.length,e.ps.drop args.toList.length, ?_,by rw[List.take_append_drop],hfit,hxs,fun x hx=>Zc hlv (by rw[hops];exact List.mem_cons_of_mem _ hx),fun F1 hF1=> ?_,hz,hkk⟩
 ·rw[Zdx hop (f:=e.f) (cap:=caps) ⟨c,rfl,hv⟩]
  have:=(hG e hm).body (args.map a.eval++caps) w
  rw[this]
  congr 2
  apply Array.ext'
  simp
 ·have key:∀(ks:List Kd) (cx:List PV) (vs:List Value),ks.length=cx.length→cx.length=vs.length→(ks.all fun k=>decide (k=.ipt))=true→(cx.all fun y=> !y.isU)=true→(∀(i:Nat) (y:PV),cx[i]?=some y→ZkE w F y (vs.getD i Go.undef))→ArgsR w F1 ks cx vs:=by
   intro ks
   induction ks with
   | nil=>
    intro cx vs h1 h2 _ _ _
    cases cx with
    | nil=>cases vs with
     |nil=>exact .nil
     |cons _ _=>simp at h2
    |cons _ _=>simp at h1
   | cons k ks ih=>
    intro cx vs h1 h2 h3 h4 h5
    cases cx with
    |nil=>simp at h1
    | cons y cx=>
     cases vs with
     |nil=>simp at h2
     | cons v vs=>
      simp only[List.all_cons,Bool.and_eq_true,decide_eq_true_eq] at h3 h4
      obtain ⟨rfl,h3⟩:=h3
      refine .cons ⟨fun _=>(h5 0 y rfl).keep ⟨hF1,fun _ _=>rfl⟩,rfl⟩ (fun _=> ?_) (ih cx vs (by simpa using h1) (by simpa using h2) h3 h4.2 fun i z hz=>by simpa using h5 (i+1) z (by simpa using hz))
      rintro rfl
      simp[PV.isU] at h4
  refine key _ cx caps.toList hlenp (by simpa using hlc) hcap hc.2 fun i y hy=> ?_
  have:=hcr i y hy
  have e1:caps.toList.getD i Go.undef=caps.getD i Go.undef:=by simp[List.getD,Array.getD_eq_getD_getElem?]
  rw[e1];exact this
def CK.fzd :CK→CK
 |.own _ _ _=>.val
 |k=>k
def Kd.fzd :Kd→Kd
 |.ck c=>.ck c.fzd
 |.grp t ks=>.grp t (ks.map CK.fzd)
 |k=>k
def Ent.frozen (e:Ent):Ent:={e with rk:=e.rk.fzd,sc:=false}
theorem CR.fzd {k:CK} {x:PV} {v:Value} {fp:List Nat} (h:CR w F k x v fp) (hF:∀b,F b→F1 b) (hb:∀b∈fp,F1 b):CR w F1 k.fzd x v []:=by
 have hst:Stays w F w F1:=⟨hF,fun _ _=>rfl⟩
 cases k with
 |none=>rfl
 |val=>exact ⟨h.1.keep hst,rfl⟩
 |nil=>exact ⟨h.1,h.2.1,rfl⟩
 | own app e sz=>
  obtain ⟨l,rfl,hr⟩:=h
  exact ⟨hr.vr hb hF,rfl⟩
theorem GrpR.fzd {one:Bool} {ks:List CK} {xs:List PV} {vs:List Value} {fps:List (List Nat)} (h:GrpR w F one ks xs vs fps) (hF:∀b,F b→F1 b):(∀b∈fps.flatten,F1 b)→GrpR w F1 one (ks.map CK.fzd) xs vs (fps.map fun _=>[]):=by
 induction h with
 |nil=>intro _;exact .nil
 | cons h ho ht ih=>
  intro hb
  exact .cons (h.fzd hF fun b hm=>hb b (by simp[hm])) ho (ih fun b hm=>hb b (by simp only[List.flatten_cons,List.mem_append];exact .inr hm))
theorem Zgy {α β:Type} (l:List α):(l.map fun _=>([]:List β)).flatten=[]:=by
 induction l with
 |nil=>rfl
 |cons a l ih=>simp
theorem FnOk.frozen {e:Ent} (h:FnOk P e):FnOk P e.frozen:=by
 obtain ⟨f,ps,rk,sc,spec⟩:=e
 refine ⟨h.body, ?_,fun w F xs vs r hF ha hs=>(h.call w F xs vs r hF ha hs).mono fun en w' hp=> ?_,fun t sz fs h1 h2=>h.ipc t sz fs h1 ?_,fun T ks rest hp w F x0 v0 l0 xs vs r y hF hn hl hx ha hs=>(h.ipb T ks rest hp w F x0 v0 l0 xs vs r y hF hn hl hx ha hs).mono fun en w' hp=> ?_,fun K0 rest hK0 hp hr w F x0 v0 l0 xs vs r hF hn hl hx ha hs=>(h.mvc K0 rest hK0 hp ?_ w F x0 v0 l0 xs vs r hF hn hl hx ha hs).mono fun en w' hp=> ?_,fun h1 h2=>h.ptc ?_ h2⟩
 ·have:=h.dep
  cases rk<;>first|exact this|rfl
 ·obtain ⟨v,F',l,h1,h2,h3,h4,h5,h6⟩:=hp
  have hadds:Adds w F w' (fun b=>F' b∨b∈l):=⟨h2.os,h2.tape,h2.output,h2.size,h2.block,fun b hb=>.inl (h2.sub b hb),fun b hb=>by rcases hb with hb|hb;exact h2.new b hb;exact .inr (h5 b hb).1,fun b hb=>by rcases hb with hb|hb;exact h2.lt b hb;exact (h5 b hb).2.1⟩
  cases rk with
  |ck c=>exact ⟨v,_,[],h1,hadds,List.nodup_nil,CR.fzd h4 (fun b hb=>.inl hb) (fun b hb=>.inr hb),by simp,fun hc=>(by cases hc)⟩
  | grp t ks=>
   obtain ⟨cs,xs,fps,e1,e2,e3,e4⟩:=h4
   refine ⟨v,_,[],h1,hadds,List.nodup_nil,⟨cs,xs,_,e1,e2,e3.fzd (fun b hb=>.inl hb) (fun b hb=>.inr (by rw[e4];exact hb)),(Zgy fps).symm⟩,by simp,fun hc=>(by cases hc)⟩
  |_=>exact ⟨v,F',l,h1,h2,h3,h4,h5,fun hc=>(by cases hc)⟩
 ·cases rk with
  | ck c=>
   cases c<;>first|exact h2|(simp[Ent.frozen,Kd.fzd,CK.fzd] at h2)
  |grp t ks=>simp[Ent.frozen,Kd.fzd] at h2
  |_=>exact h2
 ·obtain ⟨v,F',l',e1,e2,e3,e4,e5,e6,e7,e8,e9,e10⟩:=hp
  refine ⟨v,F',l',e1,e2,e3,e4,e5,e6,e7,e8,e9, ?_⟩
  cases rk with
  |ck c=>exact CR.fzd e10 (fun _ h=>h) (by simp)
  | grp t ks=>
   obtain ⟨cs,xs,fps,g1,g2,g3,g4⟩:=e10
   exact ⟨cs,xs,_,g1,g2,g3.fzd (fun _ h=>h) (fun b hb=>by rw[←g4] at hb;simp at hb),(Zgy fps).symm⟩
  |_=>exact e10
 ·intro e
  change rk=.ck .none at e
  rw[e] at hr
  exact hr rfl
 ·obtain ⟨v,F',l',e1,e2,e3,e4,e5,e6,e7,e8,e9⟩:=hp
  have hn':∀b,(fun b=>F' b∨b∈l') b→F b∨w.heap.size≤b∨b∈l0:=fun b hb=>by
   rcases hb with hb|hb
   ·exact e5 b hb
   ·rcases (e9 b hb).1 with h|h
    ·exact .inr (.inr h)
    ·exact .inr (.inl h)
  have hl':∀b,(fun b=>F' b∨b∈l') b→b<w'.heap.size:=fun b hb=>by
   rcases hb with hb|hb
   ·exact e6 b hb
   ·exact (e9 b hb).2.1
  cases rk with
  |ck c=>exact ⟨v,_,[],e1,e2,e3,fun b hb=>.inl (e4 b hb),hn',hl',List.nodup_nil,CR.fzd e8 (fun b hb=>.inl hb) (fun b hb=>.inr hb),by simp⟩
  | grp t ks=>
   obtain ⟨cs,xs,fps,g1,g2,g3,g4⟩:=e8
   exact ⟨v,_,[],e1,e2,e3,fun b hb=>.inl (e4 b hb),hn',hl',List.nodup_nil,⟨cs,xs,_,g1,g2,g3.fzd (fun b hb=>.inl hb) (fun b hb=>.inr (by rw[g4];exact hb)),(Zgy fps).symm⟩,by simp⟩
  |_=>exact ⟨v,F',l',e1,e2,e3,e4,e5,e6,e7,e8,e9⟩
 ·cases rk with
  | ck c=>
   cases c<;>first|exact h1|(simp[Ent.frozen,Kd.fzd,CK.fzd] at h1)
  |grp t ks=>simp[Ent.frozen,Kd.fzd] at h1
  |_=>exact h1
end
def Zhd :PV→Option (List PV)
 |.lst l=>some l
 |_=>none
def ZpU :List Operand→Option (List FuncId)
 |[]=>some []
 |.func g::r=>(ZpU r).map (g::·)
 |_=>none
theorem Zjv (a:Act):∀(l:List Operand) (fs:List FuncId),ZpU l=some fs→l.map a.eval=fs.map fnV
 |[],fs,h=>by cases h;rfl
 | x::r,fs,h=>by
  unfold ZpU at h
  split at h
  ·rename_i he;cases he
  ·rename_i g r' he
   cases he
   obtain ⟨fs',h1,rfl⟩:=Option.map_eq_some_iff.1 h
   simp only[List.map_cons]
   rw[Zjv a _ fs' h1]
   rfl
  ·cases h
def ipOf (G:List Ent) (o:Oper) (κ:List Kd):Option (Ent×Nat×Nat):=
 match o.op,o.dst with
 | .call {callee:=.value (.func f),args:=args,argTypes:=_},some d=>
  match args.toList with
  | .tmp t::rest=>
   match ZpU rest with
   |none=>none
   |some fs=>
   match kd κ t with
   | .ali (.slot q)=>
    match kd κ q with
    | .ck (.own true ty sz)=>
     match G.find? (fun e=>e.f=f&&e.ps=.ck (.own true ty sz)::fs.map Kd.clo&&e.rk=.ck .none) with
     |some e=>if (decide (d≠q)&&decide (kd κ d=.ck .none)&&κ.all (fun k=>k.dep≠some d)&&decide (q<κ.length))=true then some (e,t,q) else none
     |none=>none
    |_=>none
   |_=>none
  |_=>none
 |_,_=>none
theorem Zni {x:PV} {l:List PV} (h:Zhd x=some l):x=.lst l:=by cases x<;>simp[Zhd] at h;rw[h]
section
variable {P :Program} {o:Oper} {κ:List Kd} {w0:World} {F0:Nat→Prop} {X0:List Nat} {σ:List PV} {a:Act} {w:World} {F:Nat→Prop} {fp:Nat→List Nat}
theorem St.void {τ:Array Value} (h:St w0 F0 X0 κ σ τ w F fp) {d:Nat} (hd:kd κ d=.ck .none) (hdep:∀s,(kd κ s).dep≠some d) (v:Value):St w0 F0 X0 κ σ (τ.setIfInBounds d v) w F fp:=by
 have pl:∀(p:Place) (u:Value),p.of≠d→PlV τ w p u→PlV (τ.setIfInBounds d v) w p u:=by
  intro p u hp hu
  cases p with
  |slot q=>show tv _ q=u;rw[Za6,if_neg (by intro hc;exact hp hc.1)];exact hu
  |cell q off=>obtain ⟨b,h1,h2⟩:=hu;exact ⟨b,by rw[Za6,if_neg (by intro hc;exact hp hc.1)];exact h1,h2⟩
 refine ⟨by rw[h.lk];simp,by rw[h.ls];simp,fun s=> ?_,fun s hs=> ?_,h.bx,h.dj,h.pr,h.fl,h.os,h.tape,h.output,h.size,h.kept,h.stay,h.fnew,h.gk⟩
 ·by_cases e:s=d
  ·subst e
   rw[hd]
   exact ⟨[],List.nodup_nil,by simp,rfl⟩
  ·rw[Za6,if_neg (by intro hc;exact e hc.1)]
   exact h.sr s
 ·by_cases e:s=d
  ·subst e
   rw[hd]
   trivial
  ·rw[Za6,if_neg (by intro hc;exact e hc.1)]
   have ha:=h.al s hs
   have hs':=hdep s
   revert ha hs'
   generalize kd κ s=k
   intro ha hs'
   cases k with
   |ali p=>exact pl p _ (fun e=>hs' (by simp[Kd.dep,e])) ha
   | elm p sz off=>
    obtain ⟨i,b,n,cap,h1,h2,h3,h4⟩:=ha
    exact ⟨i,b,n,cap,h1,h2,pl p _ (fun e=>hs' (by simp[Kd.dep,e])) h3,h4⟩
   | bxf q off=>
    obtain ⟨b,h1,h2⟩:=ha
    exact ⟨b,by rw[Za6,if_neg (by intro hc;exact hs' (by simp[Kd.dep,hc.1]))];exact h1,h2⟩
   | gal q n=>
    obtain ⟨cs,h1,h2,h3⟩:=ha
    exact ⟨cs,h1,h2,fun j c hj=>pl (.cell q j) c (fun e=>hs' (by simp only[Kd.dep,Place.of] at e⊢;rw[e])) (h3 j c hj)⟩
   | tl q=>
    obtain ⟨i,b,n,cap,o,h1,h2,h3,h4⟩:=ha
    exact ⟨i,b,n,cap,o,h1,h2,by rw[Za6,if_neg (by intro hc;exact hs' (by simp[Kd.dep,hc.1]))];exact h3,h4⟩
   | mbx q=>
    obtain ⟨b,h1,h2⟩:=ha
    exact ⟨b,h1,by rw[Za6,if_neg (by intro hc;exact hs' (by simp[Kd.dep,hc.1]))];exact h2⟩
   |_=>exact ha
theorem Zr2 {α:Type} {l:List α} {q:Nat} {x:α} (h:l[q]?=some x):l.set q x=l:=by
 apply List.ext_getElem?
 intro i
 rw[List.getElem?_set]
 split
 ·rename_i e
  subst e
  rw[h]
  simp only[(List.getElem?_eq_some_iff.1 h).1,if_true]
 ·rfl
theorem Zr3 {G:List Ent} (hG:∀e∈G,FnOk P e) {e:Ent} {t q:Nat} (hi:ipOf G o κ=some (e,t,q)) (hlv:Z7 κ σ o.op.operands.toList=true) {l r:List PV} (hl:vl σ q=.lst l) (hs:e.spec [.lst l]=some (.lst r))
 (h:St w0 F0 X0 κ σ a.tmps w F fp) {K:Act→World→Prop} {Q:Exit→Act→World→Prop} (hK:∀v w',St w0 F0 X0 (noCln true κ) (σ.set q (.lst r)) (a.put o.dst v).tmps w' F fp→K (a.put o.dst v) w'):o.wp P a w K Q:=by
 unfold ipOf at hi
 split at hi
 case h_2=>cases hi
 rename_i f args ts d hop hd
 split at hi
 case h_2=>cases hi
 rename_i t' rest hargs
 split at hi
 case h_1=>cases hi
 rename_i fs hfs
 split at hi
 case h_2=>cases hi
 rename_i q' hkt
 split at hi
 case h_2=>cases hi
 rename_i ty sz hkq
 split at hi
 case h_2=>cases hi
 rename_i e' hf
 split at hi
 case isFalse=>cases hi
 rename_i hc
 simp only[Option.some.injEq,Prod.mk.injEq] at hi
 obtain ⟨rfl,rfl,rfl⟩:=hi
 simp only[Bool.and_eq_true,decide_eq_true_eq,List.all_eq_true,ne_eq] at hc
 obtain ⟨⟨⟨hdq,hkd⟩,hdep⟩,hq⟩:=hc
 have hm:=List.mem_of_find?_eq_some hf
 have hp:=List.find?_some hf
 simp only[Bool.and_eq_true,decide_eq_true_eq] at hp
 obtain ⟨⟨rfl,hps⟩,hrk⟩:=hp
 have hop':o.op.operands.toList=.func e'.f::.tmp t'::rest:=by rw[hop];simp[Op.operands,Call.operands,hargs]
 have hev:=Zjv a rest fs hfs
 have hne:vl σ t'≠.undef:=by
  have:=Zc hlv (x:=.tmp t') (by rw[hop'];simp)
  exact this (by show (kd κ t').hangs=true;rw[hkt];rfl)
 have hal:=h.al t' hne
 rw[hkt] at hal
 have hv:tv a.tmps q'=tv a.tmps t':=hal
 obtain ⟨lq,hnd,hsub,hsr⟩:=h.sr q'
 rw[hkq] at hsr
 obtain ⟨l0,hx,hrow⟩:=hsr
 rw[hl] at hx
 cases hx
 have hprq:=fun b hb=>h.pr q' b (hsub b hb)
 have run:(execOp a.eval o).run P w=.ok (.enter e'.f (tv a.tmps q'::fs.map fnV).toArray) w:=by
  rw[Zdx hop (f:=e'.f) (cap:= #[]) ⟨.func e'.f,rfl,rfl⟩]
  have:=(hG e' hm).body (tv a.tmps q'::fs.map fnV).toArray w
  obtain ⟨al⟩:=args
  simp only at hargs
  subst hargs
  have e1:a.eval (.tmp t')=tv a.tmps q':=by rw[hv];rfl
  rw[←hev] at this
  rw[←hev]
  simpa[e1] using this
 unfold Oper.wp
 rw[run,Oper.upon_enter]
 refine ((hG e' hm).ipc ty sz fs hps hrk w F l r _ lq h.fl (fun b hb=>(hprq b hb).2.1) (fun b hb=>(hprq b hb).1) hrow hs).mono fun en w' hpost=> ?_
 obtain ⟨u,rfl,e1,e2,e3,e4,e5,e6⟩:=hpost
 have hstay:Stays w F w' F:=⟨fun _ h=>h,fun b hb=>e5 b (h.fl b hb) fun hc=>(hprq b hc).2.1 hb⟩
 have hmod:=(h.noCln true).mod (s:=q') (ks:=.ck (.own true ty sz)) (xs:=.lst r) (l:=lq) (fps:=fp q') (w1:=w') (F1:=F) (fun _=>false) (by rw[Zn];exact hq) e1 e2 e3 e4
  (fun b hb hn=>e5 b hb (fun hc=>hn (hsub b hc))) (fun _ h=>h) (fun _ h=>.inl h) (fun b hb=>Nat.lt_of_lt_of_le (h.fl b hb) e4) hnd hsub ⟨r,rfl,e6⟩ (fun b hb=>⟨.inl hb,Nat.lt_of_lt_of_le (h.pr _ b hb).1 e4,(h.pr _ b hb).2.1⟩) (fun _=>trivial) rfl (fun k hk=>by cases hk) (Zbh κ) (fun _ _ _ hb=>by rw[Zc3,hkq] at hb;cases hb)
 have k1:((noCln true κ).map fun k=>if (fun _=>false) k=true then Kd.ck .none else k).set q' (.ck (.own true ty sz))=noCln true κ:=by
  have:((noCln true κ).map fun k=>if (fun _=>false) k=true then Kd.ck .none else k)=noCln true κ:=by simp
  rw[this]
  refine Zr2 ?_
  have hk:kd (noCln true κ) q'=.ck (.own true ty sz):=by rw[Za7,hkq];rfl
  have hlt:q'<(noCln true κ).length:=by rw[Zn];exact hq
  unfold kd at hk
  rw[List.getD_eq_getElem?_getD,List.getElem?_eq_getElem hlt] at hk
  rw[List.getElem?_eq_getElem hlt]
  simpa using hk
 have k2:(fun t=>if t=q' then fp q' else fp t)=fp:=by
  funext t
  split
  ·rename_i e;rw[e]
  ·rfl
 rw[k1,k2] at hmod
 refine hK u w' ?_
 rw[hd]
 refine hmod.void (d:=d) ?_ (fun s=> ?_) u
 ·rw[Za7,hkd];simp[Kd.isCln]
 ·rw [Za7]
  split
  ·simp[Kd.dep]
  ·intro hc
   by_cases hs:s<κ.length
   ·refine hdep (kd κ s) ?_ hc
    unfold kd
    rw[List.getD_eq_getElem?_getD,List.getElem?_eq_getElem hs]
    exact List.getElem_mem hs
   ·unfold kd at hc
    rw[List.getD_eq_getElem?_getD,List.getElem?_eq_none (by omega)] at hc
    simp[Kd.dep] at hc
end
def Zfe :PV→Option (PV×PV)
 |.tup [a,b]=>some (a,b)
 |_=>none
theorem Zfs {x:PV} {p:PV×PV} (h:Zfe x=some p):x=.tup [p.1,p.2]:=by
 unfold Zfe at h
 split at h
 ·cases h;rfl
 ·cases h
def bxq (κ:List Kd) (t:Nat):Nat:=match kd κ t with|.ali (.slot q)=>q|_=>t
def Zcs (q:Nat):Kd→Bool
 |.ali (.cell p _)=>p=q
 |.elm (.cell p _) _ _=>p=q
 |.gal p _=>p=q
 |_=>false
def bxK (κ:List Kd) (q:Nat) (K:Kd):List Kd:=((noCln true κ).map fun k=>if Zcs q k then .ck .none else k).set q K
def Zjw (κ:List Kd) (t:Nat) (rest:List Operand):List Kd→Bool
 |K::ps=>K.isBox&&Zew (kd κ (bxq κ t)) K&&ZbU false ps (rest.map (sv κ))&&rest.all fun x=>(sv κ x).isV
 |[]=>false
def Ent.k0 (e:Ent):Kd:=e.ps.headD (.ck .none)
def Zfg (G:List Ent) (o:Oper) (κ:List Kd):Option (Ent×Nat×Nat×List Operand):=
 match o.op,o.dst with
 | .call {callee:=.value (.func f),args:=args,argTypes:=_},some d=>
  match args.toList with
  | .tmp t::rest=>
   match G.find? (fun e=>e.f=f&&Zjw κ t rest e.ps) with
   |some e=>if (decide (d≠bxq κ t)&&decide (d<κ.length)&&decide (bxq κ t<κ.length))=true then some (e,bxq κ t,d,rest) else none
   |none=>none
  |_=>none
 |_,_=>none
section
variable {P :Program} {o:Oper} {κ:List Kd} {w0:World} {F0:Nat→Prop} {X0:List Nat} {σ:List PV} {a:Act} {w:World} {F:Nat→Prop} {fp:Nat→List Nat}
theorem ZqH {q:Nat} {k:Kd} (h:Zcs q k=true):k.dep≠none:=by
 unfold Zcs at h
 split at h
 ·simp[Kd.dep]
 ·simp[Kd.dep]
 ·simp[Kd.dep]
 ·cases h
theorem ZoF {q:Nat} {k:Kd} {τ:Array Value} {w w1:World} {x:PV} {v:Value} (hb:k.bdep=some q) (h:Zcs q k=false) (ha:Al τ w k x v):Al τ w1 k x v:=by
 cases k with
 | ali p=>cases p with
  |slot s=>simp[Kd.bdep] at hb
  |cell s off=>simp[Kd.bdep] at hb;simp[Zcs,hb] at h
 | elm p sz off=>cases p with
  |slot s=>simp[Kd.bdep] at hb
  |cell s off=>simp[Kd.bdep] at hb;simp[Zcs,hb] at h
 |bxf s off=>exact ha
 |gal s n=>simp[Kd.bdep] at hb;simp[Zcs,hb] at h
 |_=>simp[Kd.bdep] at hb
theorem St.rebox (h:St w0 F0 X0 κ σ a.tmps w F fp) {q:Nat} {T:TypeId} {ks:List CK} {y:PV} {l':List Nat} {w':World} {F':Nat→Prop} (hq:q<κ.length) (hw:w'.os=w.os∧w'.tape=w.tape∧w'.output=w.output∧w.heap.size≤w'.heap.size)
 (hblock:∀b,b<w.heap.size→b∉fp q→w'.heap[b]?=w.heap[b]?) (hsub:∀b,F b→F' b) (hnew:∀b,F' b→F b∨w.heap.size≤b∨b∈fp q) (hlt:∀b,F' b→b<w'.heap.size)
 (hnd:l'.Nodup) (hr:SR w' F' (.box T ks) y (tv a.tmps q) l') (hl:∀b∈l',(b∈fp q∨w.heap.size≤b)∧b<w'.heap.size∧¬F' b):
 St w0 F0 X0 (bxK κ q (.box T ks)) (σ.set q y) a.tmps w' F' (fun t=>if t=q then l' else fp t):=
 (h.noCln true).mod (ks:=.box T ks) (xs:=y) (l:=l') (fps:=l') (Zcs q) (by rw[Zn];exact hq) hw.1 hw.2.1 hw.2.2.1 hw.2.2.2 hblock hsub hnew hlt hnd (fun _ h=>h) hr hl (fun _=>trivial) rfl (fun _ hk=>ZqH hk) (Zbh κ)
  (fun _ hb hc _=>⟨rfl,fun _ _ ha=>ZoF hb hc ha⟩)
theorem Zdr {G:List Ent} {e:Ent} {q d:Nat} {rest:List Operand} (hi:Zfg G o κ=some (e,q,d,rest)):
 ∃ (args:Array Operand) (ts:Array TypeId) (t:Nat) (T:TypeId) (ks:List CK) (ps:List Kd),o.op=.call {callee:=.value (.func e.f),args:=args,argTypes:=ts}∧o.dst=some d∧args.toList=.tmp t::rest∧e∈G∧q=bxq κ t∧e.ps=.box T ks::ps∧
  Zew (kd κ q) (.box T ks)=true∧ZbU false ps (rest.map (sv κ))=true∧(∀x∈rest,(sv κ x).isV=true)∧d≠q∧d<κ.length∧q<κ.length:=by
 unfold Zfg at hi
 split at hi
 case h_2=>cases hi
 rename_i f args ts d' hop hd
 split at hi
 case h_2=>cases hi
 rename_i t rest' hargs
 split at hi
 case h_2=>cases hi
 rename_i e' hf
 split at hi
 case isFalse=>cases hi
 rename_i hc
 simp only[Option.some.injEq,Prod.mk.injEq] at hi
 obtain ⟨rfl,rfl,rfl,rfl⟩:=hi
 simp only[Bool.and_eq_true,decide_eq_true_eq,ne_eq] at hc
 have hm:=List.mem_of_find?_eq_some hf
 have hp:=List.find?_some hf
 simp only[Bool.and_eq_true,decide_eq_true_eq] at hp
 obtain ⟨rfl,hp⟩:=hp
 unfold Zjw at hp
 split at hp
 case h_2=>cases hp
 rename_i K ps hps
 simp only[Bool.and_eq_true,List.all_eq_true] at hp
 obtain ⟨⟨⟨h1,h2⟩,h3⟩,h4⟩:=hp
 cases K with
 |box T ks=>exact ⟨args,ts,t,T,ks,ps,hop,hd,hargs,hm,rfl,hps,h2,h3,h4,hc.1.1,hc.1.2,hc.2⟩
 |_=>simp[Kd.isBox] at h1
theorem Zhe {G:List Ent} (hG:∀e∈G,FnOk P e) {e:Ent} {q d:Nat} {rest:List Operand} (hi:Zfg G o κ=some (e,q,d,rest)) (hlv:Z7 κ σ o.op.operands.toList=true) {xs:List PV} {r y:PV}
 (hx:ZaB (rest.map (sv κ)) (rest.map (dv κ σ))=some xs) (hs:e.spec (vl σ q::xs)=some (.tup [r,y]))
 (h:St w0 F0 X0 κ σ a.tmps w F fp) {K:Act→World→Prop} {Q:Exit→Act→World→Prop} (hK:∀v w' F' fp',St w0 F0 X0 (ZcJ (bxK κ q e.k0) d e.rk) ((σ.set q y).set d r) (a.put o.dst v).tmps w' F' fp'→K (a.put o.dst v) w'):o.wp P a w K Q:=by
 obtain ⟨args,ts,t,T,ks,ps,hop,hd,hargs,hm,hqt,hps,hwk,hfit,hisv,hdq,hdl,hql⟩:=Zdr hi
 have hop':o.op.operands.toList=.func e.f::.tmp t::rest:=by rw[hop];simp[Op.operands,Call.operands,hargs]
 have hv:tv a.tmps q=tv a.tmps t:=by
  unfold bxq at hqt
  split at hqt
  ·rename_i q' hk
   subst hqt
   have hne:vl σ t≠.undef:=by
    have:=Zc hlv (x:=.tmp t) (by rw[hop'];simp)
    exact this (by show (kd κ t).hangs=true;rw[hk];rfl)
   have hal:=h.al t hne
   rw[hk] at hal
   exact hal
  ·rw[hqt]
 obtain ⟨lq,hnd,hsub,hsr⟩:=h.sr q
 obtain ⟨l0,hnd0,hsub0,hsr0⟩:=Zfq hwk hnd hsr
 have hl0:∀b∈l0,b∈fp q:=fun b hb=>hsub b (hsub0 b hb)
 have hargsR:=ZcO (sc:=false) h ps rest xs (fun x hxm=>Zc hlv (by rw[hop'];exact List.mem_cons_of_mem _ (List.mem_cons_of_mem _ hxm))) hfit hx F (fun _ h=>h) (fun hc=>by cases hc)
  (fun x hxm app e' sz q' i l lb g1 _ _ _=>by
   have:=hisv x hxm
   unfold Z8 at g1
   rw[if_pos this] at g1
   cases g1)
 have run:(execOp a.eval o).run P w=.ok (.enter e.f (tv a.tmps q::rest.map a.eval).toArray) w:=by
  rw[Zdx hop (f:=e.f) (cap:= #[]) ⟨.func e.f,rfl,rfl⟩]
  have:=(hG e hm).body (tv a.tmps q::rest.map a.eval).toArray w
  obtain ⟨al⟩:=args
  simp only at hargs
  subst hargs
  have e1:a.eval (.tmp t)=tv a.tmps q:=by rw[hv];rfl
  simpa[e1] using this
 unfold Oper.wp
 rw[run,Oper.upon_enter]
 refine ((hG e hm).ipb T ks ps hps w F (vl σ q) (tv a.tmps q) l0 xs (rest.map a.eval) r y ⟨h.fl,h.gk⟩ hnd0 (fun b hb=>⟨(h.pr q b (hl0 b hb)).1,(h.pr q b (hl0 b hb)).2.1⟩) hsr0 hargsR hs).mono fun en w' hpost=> ?_
 obtain ⟨v,F',l',rfl,e2,e3,e4,e5,e6,e7,e8,e9,e10⟩:=hpost
 have hmod:=h.rebox (q:=q) (T:=T) (ks:=ks) (y:=y) hql e2 (fun b hb hn=>e3 b hb fun hc=>hn (hl0 b hc)) e4 (fun b hb=>by rcases e5 b hb with h|h|h;exact .inl h;exact .inr (.inl h);exact .inr (.inr (hl0 b h))) e6 e7 e8
  (fun b hb=>⟨by rcases (e9 b hb).1 with h|h;exact .inl (hl0 b h);exact .inr h,(e9 b hb).2⟩)
 have hk0:e.k0=.box T ks:=by unfold Ent.k0;rw[hps];rfl
 have hdl':d<(bxK κ q (.box T ks)).length:=by unfold bxK;simp[Zn,hdl]
 have:=hmod.putA (d:=d) (k:=e.rk) (x:=r) (v:=v) (l:=[]) hdl' (Adds.refl w' e6) List.nodup_nil e10 (by simp) (fun _=>ZbV (hG e hm).dep _ _) (fun q hq=>by have hq':=Zab hq;rw[(hG e hm).dep] at hq';cases hq')
 refine hK v w' F' (fun s=>if s=d then [] else if s=q then l' else fp s) ?_
 rw[hd,hk0]
 exact this
theorem ZpV {G:List Ent} (hG:∀e∈G,FnOk P e) {e:Ent} {q d:Nat} {rest:List Operand} (hi:Zfg G o κ=some (e,q,d,rest)) (hrk:e.rk=.ck .val) (h:St w0 F0 X0 κ σ a.tmps w F fp):
 ∃fp',St w0 F0 X0 (ZcJ (bxK κ q e.k0) d e.rk) ((σ.set q (vl σ q)).set d .undef) (a.put o.dst undef).tmps w F fp':=by
 obtain ⟨args,ts,t,T,ks,ps,hop,hd,hargs,hm,hqt,hps,hwk,hfit,hisv,hdq,hdl,hql⟩:=Zdr hi
 obtain ⟨lq,hnd,hsub,hsr⟩:=h.sr q
 obtain ⟨l0,hnd0,hsub0,hsr0⟩:=Zfq hwk hnd hsr
 have hl0:∀b∈l0,b∈fp q:=fun b hb=>hsub b (hsub0 b hb)
 have hmod:=h.rebox (q:=q) (T:=T) (ks:=ks) (y:=vl σ q) hql ⟨rfl,rfl,rfl,Nat.le_refl _⟩ (fun _ _ _=>rfl) (fun _ h=>h) (fun _ h=>.inl h) h.fl hnd0 hsr0 (fun b hb=>⟨.inl (hl0 b hb),(h.pr q b (hl0 b hb)).1,(h.pr q b (hl0 b hb)).2.1⟩)
 have hk0:e.k0=.box T ks:=by unfold Ent.k0;rw[hps];rfl
 have hdl':d<(bxK κ q (.box T ks)).length:=by unfold bxK;simp[Zn,hdl]
 have:=hmod.putA (d:=d) (k:=e.rk) (x:=.undef) (v:=Go.undef) (l:=[]) hdl' (Adds.refl w h.fl) List.nodup_nil (by rw[hrk];exact ⟨.undef,rfl⟩) (by simp) (fun hc=>absurd rfl hc) (fun q hq=>by rw[hrk] at hq;cases hq)
 refine ⟨fun s=>if s=d then [] else if s=q then l0 else fp s, ?_⟩
 rw[hd,hk0]
 exact this
end
def u8n :PV→Option Int
 |.int .u8 n=>some n
 |_=>none
theorem Zr4 {x:PV} {n:Int} (h:u8n x=some n):x=.int .u8 n:=by
 unfold u8n at h
 split at h
 ·cases h;rfl
 ·cases h
def elU8 (l:List PV) (x:PV):Option Int:=
 match x with
 |.int .i64 i=>if 0≤i then (l[i.toNat]?).bind u8n else none
 |_=>none
def ZpW (s:SV) (d:DV):Option Int:=
 match s.boxAt with
 | some (_,ks,off)=>match ks[off]? with
  |some .val=>((ZcQ s d)[off]?).bind u8n
  |_=>none
 | none=>match s.k with
  | .elm p sz off=>match Zfj s with
   | some (app,e,sz')=>if sz=1∧off=0∧sz'=1 then (Zbw s d).bind fun l=>elU8 l d.v
    else none
   |none=>none
  |_=>none
def cSV :SV:=⟨.ck .val,.ck .none,none⟩
def cDV (y:Int):DV:=⟨.int .u8 y,.undef⟩
def as4 :PV→Option (Bool×Bool×Int×Int)
 |.tup [.bool a,.bool b,.int .u8 x,.int .u8 y]=>some (a,b,x,y)
 |_=>none
theorem as4_eq {z:PV} {a b:Bool} {x y:Int} (h:as4 z=some (a,b,x,y)):z=.tup [.bool a,.bool b,.int .u8 x,.int .u8 y]:=by
 unfold as4 at h
 split at h
 ·cases h;rfl
 ·cases h
def ptRk :Kd:=.grp true [.val,.val]
def tyU8 (T:Tab):Option TypeId:=(T.find? fun p=>match T.lookup p.1 with|some ti=>decide (ti.desc=TD.int .u8)&&decide (ti.size=1)|none=>false).map (·.1)
theorem Ztg {T:Tab} {ty:TypeId} (h:tyU8 T=some ty):∃ti,T.lookup ty=some ti∧ti.size=1:=by
 unfold tyU8 at h
 obtain ⟨p,hp,rfl⟩:=Option.map_eq_some_iff.1 h
 have:=List.find?_some hp
 split at this
 ·rename_i ti hl
  simp only[Bool.and_eq_true,decide_eq_true_eq] at this
  exact ⟨ti,hl,this.2⟩
 ·cases this
def ptOf (T:Tab) (G:List Ent) (o:Oper) (κ:List Kd):Option (Ent×Nat×Nat×Nat×Eff PV×Eff PV×List Kd×List Kd):=
 match o.op,o.dst with
 | .call {callee:=.value (.func f),args:=args,argTypes:=_},some d=>
  match args.toList with
  | [.tmp t1,.tmp t2]=>
   match G.find? (fun e=>e.f=f&&e.ps=[.bxf 0 0,.bxf 0 0]&&e.rk=.ck .none) with
   |none=>none
   |some e=>
   match tyU8 T with
   |none=>none
   |some ty=>
   match Zfy (R:=PV) T ty (sv κ (.tmp t1)) cSV with
   |none=>none
   |some E1=>
   match E1.κ κ with
   |none=>none
   |some κ1=>
   match Zfy (R:=PV) T ty (sv κ1 (.tmp t2)) cSV with
   |none=>none
   |some E2=>
   match E2.κ κ1 with
   |none=>none
   |some κ2=>if d<κ2.length then some (e,t1,t2,d,E1,E2,κ1,κ2) else none
  |_=>none
 |_,_=>none
section
variable {P :Program} {T:Tab} {o:Oper} {κ:List Kd} {w0:World} {F0:Nat→Prop} {X0:List Nat} {σ:List PV} {a:Act} {w:World} {F:Nat→Prop} {fp:Nat→List Nat}
theorem Znj (h:St w0 F0 X0 κ σ a.tmps w F fp) {x:Operand} (hlx:ZaM κ σ x) {n:Int} (hp:ZpW (sv κ x) (dv κ σ x)=some n):∃p:Addr,a.eval x=.pointer (some p)∧w.cell? p=some (.int .u8 n)∧w.frozen? p=false:=by
 unfold ZpW at hp
 split at hp
 ·rename_i q ks off hb
  obtain ⟨b,cs,TT,xs,fps,_,e1,e2,e3,e4,e5,e6,e7,e8,e9⟩:=Zda h hlx hb
  split at hp
  case h_2=>cases hp
  rename_i hk
  obtain ⟨y,hy,hu⟩:=Option.bind_eq_some_iff.1 hp
  have:=Zr4 hu
  subst this
  rw[e3] at hy
  obtain ⟨k,v,f,h1,h2,h3,h4,h5⟩:=e7.at off _ hy
  rw[hk] at h1
  cases h1
  have h6:=h4.1
  cases h6
  refine ⟨_,e5,by rw[show (⟨b,off,none⟩:Addr)=⟨b,off+0,none⟩ from rfl,cell_of_row w b _ cs TT (0,0) e6];simpa using h2, ?_⟩
  simp[World.frozen?,e6]
 ·rename_i hb
  split at hp
  case h_2=>cases hp
  rename_i p sz off hk
  split at hp
  case h_2=>cases hp
  rename_i app e sz' hK
  split at hp
  case isFalse=>cases hp
  rename_i hc
  obtain ⟨rfl,rfl,rfl⟩:=hc
  obtain ⟨l,hl,hp⟩:=Option.bind_eq_some_iff.1 hp
  obtain ⟨i,n',cap,g,cur,fr,lb,g1,g2,g3,g4,g5,g6,g7,g8,g9,g10,g11,g12⟩:=ZfY h hlx hk hl hK (Zaa (by decide))
  rw[g1] at hp
  unfold elU8 at hp
  dsimp only at hp
  rw[if_pos (by omega),Int.toNat_natCast] at hp
  obtain ⟨y,hy,hu⟩:=Option.bind_eq_some_iff.1 hp
  have:=Zr4 hu
  subst this
  obtain ⟨k1,k2,u,k3,k4⟩:=g10 i _ hy
  cases k3
  have hcell:=k4 0 (.int .u8 n) rfl
  have hlt:i<cur.size:=by omega
  refine ⟨_,g3, ?_, ?_⟩
  ·rw[show (⟨g,i * 1+0,none⟩:Addr)=⟨g,i,none⟩ by simp]
   rw[show (⟨g,i,none⟩:Addr)=⟨g,i+0,none⟩ from rfl,cell_of_row w g _ cur e fr g4]
   simpa using hcell
  ·unfold World.frozen?
   dsimp only
   rw[g4]
   obtain ⟨lo,hi⟩:=fr
   dsimp only at g5⊢
   simp only[Bool.and_eq_false_iff,decide_eq_false_iff_not]
   omega
def Znk (e:Ent) (t1 t2:Nat) (E1 E2:Eff PV) (κ κ1:List Kd) (σ:List PV):Option (PV×PV×PV):=
 if Z7 κ σ [.tmp t1,.tmp t2] then
  (ZpW (sv κ (.tmp t1)) (dv κ σ (.tmp t1))).bind fun n1=>(ZpW (sv κ (.tmp t2)) (dv κ σ (.tmp t2))).bind fun n2=>((e.spec [.bool true,.int .u8 n1,.int .u8 n2]).bind as4).bind fun q=>
   (E1.dyn [dv κ σ (.tmp t1),cDV q.2.2.1] some).bind fun x1=>
    if Z7 κ1 (σ.set E1.tgt x1) [.tmp t2] then (E2.dyn [dv κ1 (σ.set E1.tgt x1) (.tmp t2),cDV q.2.2.2] some).bind fun x2=>some (.tup [.bool q.1,.bool q.2.1],x1,x2) else none
 else none
def stO (o:Oper) (t:TypeId) (x:Operand) (y:Int):Oper:={o with op:=.store t x (.const (.int .u8 y)),dst:=none,guard:=none}
theorem Zjx {t:TypeId} {ti:TI} (ht:TyOk P t ti) (h1:ti.size=1) {x:Operand} {y:Int} {ρ:Operand→Value} {p:Addr} {c:Value} (hx:ρ x=.pointer (some p)) (hv:ρ (.const (.int .u8 y))=.int .u8 y) (hc:w.cell? p=some c) (hf:w.frozen? p=false):
 (execOp ρ (stO o t x y)).run P w=.ok .skip (w.setCell p (.int .u8 y)):=by
 refine ZcS (t:=t) (x:=x) (y:=.const (.int .u8 y)) rfl ?_
 have h2:=ht.run_sizeOf w
 have h3:p.add 0=p:=by cases p;simp[Addr.add]
 have h4:(Value.int .u8 y).cells= #[.int .u8 y]:=rfl
 rw[hx,hv]
 simp[Instr.storeAt,Instr.sureAddr,storeVar,h2,h1,h4,storeCells,h3,store]
 simp only[Sem.run,hc,hf]
 rfl
theorem St.same_heap {τ:Array Value} {w':World} (h:St w0 F0 X0 κ σ τ w F fp) (hh:w'.heap=w.heap) (h1:w'.os=w.os) (h2:w'.tape=w.tape) (h3:w'.output=w.output):St w0 F0 X0 κ σ τ w' F fp:=by
 have hb:∀b:Nat,w'.heap[b]?=w.heap[b]?:=fun b=>by rw[hh]
 exact {h with
  sr:=fun s=>by obtain ⟨l,a1,a2,a3⟩:=h.sr s;exact ⟨l,a1,a2,a3.keep ⟨fun _ h=>h,fun b _=>hb b⟩ fun b _=>hb b⟩
  al:=fun s hs=>Al.keep h (h.al s hs) (fun _ _=>rfl) (fun q hq=>⟨h.bx s q hq,fun b _=>hb b⟩) (fun _=>⟨by rw[hh];exact Nat.le_refl _,fun b _=>hb b⟩) (let ⟨l,_,_,hr⟩:=h.sr s;⟨l,hr⟩) (fun b _=>hb b)
  gk:=h.gk.keep ⟨fun _ h=>h,fun b _=>hb b⟩
  pr:=fun q b hq=>by rw[hh];exact h.pr q b hq
  fl:=fun b hF=>by rw[hh];exact h.fl b hF
  os:=h1.trans h.os
  tape:=h2.trans h.tape
  output:=h3.trans h.output
  size:=by rw[hh];exact h.size
  kept:=fun b hb0=>by rw[hb b];exact h.kept b hb0
  stay:=h.stay.trans ⟨fun _ h=>h,fun b _=>hb b⟩}
theorem Zr6 {G:List Ent} (hT:TabOk P T) (hG:∀e∈G,FnOk P e) {e:Ent} {t1 t2 d:Nat} {E1 E2:Eff PV} {κ1 κ2:List Kd} (hi:ptOf T G o κ=some (e,t1,t2,d,E1,E2,κ1,κ2)) {r x1 x2:PV} (hr:Znk e t1 t2 E1 E2 κ κ1 σ=some (r,x1,x2)) (h:St w0 F0 X0 κ σ a.tmps w F fp)
 {K:Act→World→Prop} {Q:Exit→Act→World→Prop} (hK:∀v w' F' fp',St w0 F0 X0 (ZcJ κ2 d ptRk) (((σ.set E1.tgt x1).set E2.tgt x2).set d r) (a.put o.dst v).tmps w' F' fp'→K (a.put o.dst v) w'):o.wp P a w K Q:=by
 unfold ptOf at hi
 split at hi
 case h_2=>cases hi
 rename_i f args ts d' hop hd
 split at hi
 case h_2=>cases hi
 rename_i t1' t2' hargs
 split at hi
 ·cases hi
 rename_i e' hf
 split at hi
 ·cases hi
 rename_i ty hty
 split at hi
 ·cases hi
 rename_i E1' hE1
 split at hi
 ·cases hi
 rename_i κ1' hκ1
 split at hi
 ·cases hi
 rename_i E2' hE2
 split at hi
 ·cases hi
 rename_i κ2' hκ2
 split at hi
 case isFalse=>cases hi
 rename_i hdl
 simp only[Option.some.injEq,Prod.mk.injEq] at hi
 obtain ⟨rfl,rfl,rfl,rfl,rfl,rfl,rfl,rfl⟩:=hi
 have hm:=List.mem_of_find?_eq_some hf
 have hp:=List.find?_some hf
 simp only[Bool.and_eq_true,decide_eq_true_eq] at hp
 obtain ⟨⟨rfl,hps⟩,hrk⟩:=hp
 obtain ⟨ti,hti,hsz⟩:=Ztg hty
 obtain ⟨ht⟩:=hT.ty hti
 unfold Znk at hr
 split at hr
 case isFalse=>cases hr
 rename_i hlv
 obtain ⟨n1,hn1,hr⟩:=Option.bind_eq_some_iff.1 hr
 obtain ⟨n2,hn2,hr⟩:=Option.bind_eq_some_iff.1 hr
 obtain ⟨q,hq,hr⟩:=Option.bind_eq_some_iff.1 hr
 obtain ⟨z,hz,hq⟩:=Option.bind_eq_some_iff.1 hq
 obtain ⟨b1,b2,y1,y2⟩:=q
 have:=as4_eq hq
 subst this
 obtain ⟨x1',hx1,hr⟩:=Option.bind_eq_some_iff.1 hr
 split at hr
 case isFalse=>cases hr
 rename_i hlv2
 obtain ⟨x2',hx2,hr⟩:=Option.bind_eq_some_iff.1 hr
 simp only[Option.some.injEq,Prod.mk.injEq] at hr
 obtain ⟨rfl,rfl,rfl⟩:=hr
 dsimp only at hx1 hx2 hlv2
 have hl1:ZaM κ σ (.tmp t1'):=Zc hlv (by simp)
 have hl2:ZaM κ σ (.tmp t2'):=Zc hlv (by simp)
 obtain ⟨p1,a1,c1,f1⟩:=Znj h hl1 hn1
 obtain ⟨p2,a2,c2,f2⟩:=Znj h hl2 hn2
 have run:(execOp a.eval o).run P w=.ok (.enter e'.f #[.pointer (some p1),.pointer (some p2)]) w:=by
  rw[Zdx hop (f:=e'.f) (cap:= #[]) ⟨.func e'.f,rfl,rfl⟩]
  have:=(hG e' hm).body #[.pointer (some p1),.pointer (some p2)] w
  obtain ⟨al⟩:=args
  simp only at hargs
  subst hargs
  simpa[a1,a2] using this
 unfold Oper.wp
 rw[run,Oper.upon_enter]
 refine ((hG e' hm).ptc hrk hps w p1 p2 n1 n2 y1 y2 b1 b2 c1 f1 c2 f2 hz).mono fun en w' hpost=> ?_
 obtain ⟨rfl,e1,e2,e3,e4⟩:=hpost
 have lc:∀{κ0:List Kd} {σ0:List PV} {t:Nat} {y:Int},ZaM κ0 σ0 (.tmp t)→Z7 κ0 σ0 [.tmp t,.const (.int .u8 y)]=true:=fun {κ0 σ0 t y} hl=>by
  unfold Z7
  simp only[List.all_cons,List.all_nil,Bool.and_true,Bool.and_eq_true]
  refine ⟨?_,rfl⟩
  cases hh:(kOp κ0 (.tmp t)).hangs with
  |false=>rfl
  | true=>
   have:=hl hh
   cases hv:vOp σ0 (.tmp t)<;>first|rfl|exact absurd hv this
 obtain ⟨F1,fp1,hs1⟩:∃F1 fp1,St w0 F0 X0 κ1' (σ.set E1'.tgt x1') a.tmps (w.setCell p1 (.int .u8 y1)) F1 fp1:=by
  have k1:=Zfz hT (o:=stO o ty (.tmp t1') y1) (κ:=κ) (x:=.tmp t1') (y:=.const (.int .u8 y1)) rfl rfl hE1
  have hw:=k1 w0 F0 X0 κ1' σ a w F fp some x1' (fun a1 w1=>∃F1 fp1,St w0 F0 X0 κ1' (σ.set E1'.tgt x1') a1.tmps w1 F1 fp1) (fun _ _ _=>True) h hκ1 (lc hl1) hx1 (fun x v w' F' fp' hst hk=>by cases hk;exact ⟨F',fp',hst⟩)
  unfold Oper.wp at hw
  rw[Zjx ht hsz a1 rfl c1 f1] at hw
  exact hw
 have hl2':ZaM κ1' (σ.set E1'.tgt x1') (.tmp t2'):=Zc hlv2 (by simp)
 obtain ⟨c2',hc2'⟩:∃c,(w.setCell p1 (.int .u8 y1)).cell? p2=some c:=by
  by_cases hpp:p1=p2
  ·subst hpp
   exact ⟨_,World.cell?_setCell_same w p1 _ c1⟩
  ·exact ⟨_,(World.cell?_setCell_other w p1 p2 _ hpp).trans c2⟩
 have f2':(w.setCell p1 (.int .u8 y1)).frozen? p2=false:=by rw[World.frozen?_setCell];exact f2
 obtain ⟨F2,fp2,hs2⟩:∃F2 fp2,St w0 F0 X0 κ2' ((σ.set E1'.tgt x1').set E2'.tgt x2') a.tmps ((w.setCell p1 (.int .u8 y1)).setCell p2 (.int .u8 y2)) F2 fp2:=by
  have k2:=Zfz hT (o:=stO o ty (.tmp t2') y2) (κ:=κ1') (x:=.tmp t2') (y:=.const (.int .u8 y2)) rfl rfl hE2
  have hw:=k2 w0 F0 X0 κ2' (σ.set E1'.tgt x1') a (w.setCell p1 (.int .u8 y1)) F1 fp1 some x2' (fun a1 w1=>∃F1 fp1,St w0 F0 X0 κ2' ((σ.set E1'.tgt x1').set E2'.tgt x2') a1.tmps w1 F1 fp1) (fun _ _ _=>True) hs1 hκ2 (lc hl2') hx2 (fun x v w' F' fp' hst hk=>by cases hk;exact ⟨F',fp',hst⟩)
  unfold Oper.wp at hw
  rw[Zjx ht hsz a2 rfl hc2' f2'] at hw
  exact hw
 have hs3:=hs2.same_heap (w':=w') e4 e1 e2 e3
 have:=hs3.putA (d:=d') (k:=ptRk) (x:=.tup [.bool b1,.bool b2]) (v:=.tuple #[.bool b1,.bool b2]) (l:=[]) hdl (Adds.refl w' hs3.fl) List.nodup_nil
  ⟨#[.bool b1,.bool b2],[.bool b1,.bool b2],[[],[]],rfl,rfl,.cons ⟨.bool _,rfl⟩ (fun hc=>by cases hc) (.cons ⟨.bool _,rfl⟩ (fun hc=>by cases hc) .nil),rfl⟩ (by simp) (fun _=>ZbV rfl _ _) (fun q hq=>by cases hq)
 refine hK (.tuple #[.bool b1,.bool b2]) w' F2 (fun s=>if s=d' then [] else fp2 s) ?_
 rw[hd]
 exact this
end
def mxV (mx:Bool):PV→PV→Option PV
 |.int k x,.int k' y=>if k=k' then some (.int k (if mx then (if y>x then y else x) else (if y<x then y else x))) else none
 |_,_=>none
def ZpX {R:Type} (d:Nat) (mx:Bool) (x y:SV):Option (Eff R):=
 if x.isV∧y.isV then some (Zj d (.ck .val) (ZaV fun x y=>mxV mx x.v y.v)) else none
def ZoG {R:Type} (T:Tab) (d:Nat) (t:TypeId) (x:SV):Option (Eff R):=
 match T.lookup t with
 | some ti=>
  match ti.desc with
  |.slice _=>if x.k=.ck .nil then some (Zj d (.ck .val) (Zbl fun _=>some (.int .i64 0))) else none
  |_=>none
 |none=>none
def ZoH (te:TI) (x:PV):Option PV:=
 match x with
 |.int _ n=>if 0<n∧n≤4294967296 then some (.lst (List.replicate n.toNat (ZaN te))) else none
 |_=>none
def ZlU {R:Type} (T:Tab) (d:Nat) (t t2:TypeId) (s x:SV):Option (Eff R):=
 match T.lookup t,T.lookup t2 with
 | some ti,some ti2=>
  match ti.desc,ti2.desc with
  | .slice e,.int _=>
   match T.lookup e with
   |none=>none
   |some te=>if s.k=.ck .nil∧x.isV∧te.size≠0∧te.bytes≤32768∧(te.agg=true∨te.size=1)∧(te.zero.all fun z=>z≠.other)=true then some (Zj d (.ck (.own true e te.size)) (ZaV fun _ x=>ZoH te x.v)) else none
  |_,_=>none
 |_,_=>none
def Zgz {R:Type} (T:Tab) (d:Nat) (t t2:TypeId) (s x:SV):Option (Eff R):=
 match Zh4 T d t t2 s x with
 |some E=>some E
 |none=>ZlU T d t t2 s x
def Zr7 (x:SV) (dx dh:DV):Option PV:=(Zh x dx).bind fun l=>(ZfE l.length (some dh.v)).map fun h=>.lst (l.take h)
def ZpY (x h:PV):Option PV:=
 match x with
 |.lst l=>(ZfE l.length (some h)).map fun h=>.lst (l.take h)
 |_=>none
def ZlV {R:Type} (T:Tab) (d:Nat) (t:TypeId) (x hi:SV):Option (Eff R):=
 match T.lookup t with
 |none=>none
 | some ti=>
  match ti.desc with
  | .slice e=>
   match T.lookup e with
   |none=>none
   | some te=>
    if hi.isV then
     match Z8 x,ZaJ x with
     |some (some (true,e',sz)),some (q,i)=>if q=d∨e'≠e∨sz≠te.size then none else some {gh:=[⟨q,i,false,true,e',sz⟩],tgt:=d,put:=true,k:=.ck (.own true e' sz),cut:=.no,dyn:=ZaV (Zr7 x)}
     |_,_=>if x.k=.ck .nil then some (Zj d (.ck .nil) (ZaV fun dx dh=>ZpY dx.v dh.v)) else none
    else none
  |_=>none
def ZhY {R:Type} (T:Tab) (d:Nat) (t:TypeId) (x:SV) (lo hi:Option SV):Option (Eff R):=
 match lo,hi with
 | none,some h=>match ZlV T d t x h with
  |some E=>some E
  |none=>Zhp T d t x none (some h)
 |lo,hi=>Zhp T d t x lo hi
def Zdy {R:Type} (T:Tab) (d:Nat) (t:TypeId) (len:Nat) (parts:List (Nat×Operand)) (svs:List SV):Option (Eff R):=
 match Zek T d t len parts svs with
 |some E=>some E
 | none=>
  match T.lookup t with
  |none=>none
  | some ti=>
   match ti.desc with
   | .slice e=>
    match T.lookup e with
    |none=>none
    | some te=>
     if parts.length=len∧ZjN 0 parts=true∧ZbU false (List.replicate svs.length (.ck .val)) svs=true∧te.size≠0∧len * te.size≤65536 then
      some {gh:=Zej svs,tgt:=d,put:=true,k:=.ck (.own true e te.size),cut:=.no,dyn:=fun ds kk=>(ZaB svs ds).bind fun xs=>if xs.all (Zag te.size)=true then kk (.lst xs) else none}
     else none
   |_=>none
section
variable {R :Type} {P:Program} {T:Tab} {o:Oper} {κ κ1:List Kd} {E:Eff R}
variable {w0 :World} {F0:Nat→Prop} {X0:List Nat} {σ:List PV} {a:Act} {w:World} {F F1:Nat→Prop} {fp fp1:Nat→List Nat}
theorem Znl {mx:Bool} {ts:Array TypeId} {x y:Operand} {d:Nat} (hop:o.op=.call {callee:=.builtin (if mx then .max else .min),args:= #[x,y],argTypes:=ts}) (hd:o.dst=some d) (hE:ZpX d mx (sv κ x) (sv κ y)=some E):ZN P o κ E:=by
 unfold ZpX at hE
 split at hE
 case isFalse=>cases hE
 rename_i hv
 cases hE
 refine ZaC hd rfl rfl rfl fun w0 F0 X0 σ a w F fp kk r h htt hlv hdy=> ?_
 have hdy':((mxV mx (dv κ σ x).v (dv κ σ y).v).bind kk)=some r:=by simpa[hop,Op.operands,Call.operands,Zj,ZaV] using hdy
 obtain ⟨z,hz,hkk⟩:=Option.bind_eq_some_iff.1 hdy'
 have hx:=rdS h hv.1
 have hy:=rdS h hv.2
 unfold mxV at hz
 split at hz
 case h_2=>cases hz
 rename_i k m k' n e1 e2
 split at hz
 case isFalse=>cases hz
 rename_i hkk'
 subst hkk'
 cases hz
 rw[e1] at hx
 rw[e2] at hy
 have hx:=hx.int_eq
 have hy:=hy.int_eq
 refine ⟨_,_, ?_,hkk,.int _ _⟩
 obtain ⟨cs,hcs⟩:=Zai (P:=P) hop a.eval w
 rw[hcs]
 cases mx
 ·simp[builtin,hx,hy,run_min_int2]
 ·simp[builtin,hx,hy,run_max_int2]
theorem ZqI (hT:TabOk P T) {t:TypeId} {x:Operand} {d:Nat} (hop:o.op=.call {callee:=.builtin .cap,args:= #[x],argTypes:= #[t]}) (hd:o.dst=some d) (hE:ZoG T d t (sv κ x)=some E):ZN P o κ E:=by
 unfold ZoG at hE
 split at hE
 case h_2=>cases hE
 rename_i ti hi
 obtain ⟨ht⟩:=hT.ty hi
 split at hE
 case h_2=>cases hE
 rename_i e hds
 have hus:=ZT ht hds
 split at hE
 case isFalse=>cases hE
 rename_i hk
 cases hE
 refine ZaC hd rfl rfl rfl fun w0 F0 X0 σ a w F fp kk r h htt hlv hdy=> ?_
 have hkk:kk (.int .i64 0)=some r:=by simpa[hop,Op.operands,Call.operands,Zj,Zbl] using hdy
 obtain ⟨l,_,hsr⟩:=h.at' x (by rw[hk];simp)
 rw[hk] at hsr
 obtain ⟨_,hx,_⟩:=hsr
 refine ⟨_,_, ?_,hkk,.int _ _⟩
 obtain ⟨cs,hcs⟩:=Zai (P:=P) hop a.eval w
 rw[hcs]
 simp[builtin,hx,Builtin.cap_,run_underlying hus]
 rfl
theorem ZoI (hT:TabOk P T) {t t2:TypeId} {s x:Operand} {d:Nat} (hop:o.op=.call {callee:=.builtin .append,args:= #[s,x],argTypes:= #[t,t2]}) (hd:o.dst=some d) (hE:ZlU T d t t2 (sv κ s) (sv κ x)=some E):ZN P o κ E:=by
 unfold ZlU at hE
 split at hE
 case h_2=>cases hE
 rename_i ti ti2 hi hi2
 obtain ⟨ht⟩:=hT.ty hi
 obtain ⟨ht2⟩:=hT.ty hi2
 split at hE
 case h_2=>cases hE
 rename_i e kn hds hds2
 have hus:=ZT ht hds
 have hus2:=ZdF ht2 hds2
 split at hE
 case h_1=>cases hE
 rename_i te hte
 obtain ⟨he⟩:=hT.ty hte
 split at hE
 case isFalse=>cases hE
 rename_i hc
 obtain ⟨c1,c2,c3,c4,c5,c6⟩:=hc
 cases hE
 refine ZJ hd rfl rfl fun w0 F0 X0 σ a w F fp kk r h htt hlv hdy=> ?_
 have hdy':((ZoH te (dv κ σ x).v).bind kk)=some r:=by simpa[hop,Op.operands,Call.operands,Zj,ZaV] using hdy
 obtain ⟨z,hz,hkk⟩:=Option.bind_eq_some_iff.1 hdy'
 have hx:=rdS h c2
 obtain ⟨_,_,hsr⟩:=h.at' s (by rw[c1];simp)
 rw[c1] at hsr
 obtain ⟨_,hs0,_⟩:=hsr
 unfold ZoH at hz
 split at hz
 case h_2=>cases hz
 rename_i k n hv
 rw[hv] at hx
 have hx:=hx.int_eq
 split at hz
 case isFalse=>cases hz
 rename_i hn
 cases hz
 obtain ⟨m,rfl⟩:∃m:Nat,n=m:=⟨n.toNat,by omega⟩
 have hm0:0<m:=by omega
 have hby:m * he.row.bytes≤281474976710656:=by
  rw[he.hbytes]
  have:m * te.bytes≤4294967296 * 32768:=Nat.mul_le_mul (by omega) c4
  omega
 have hmx:m≤maxLen:=by unfold maxLen;omega
 have hsz:0<he.row.size:=by rw[he.hsize];omega
 have hr:=Lib.run_append_nil_zeros (P:=P) w t t2 o.type e he.row he.zv k kn hus hus2 he.hrow he.hz m hm0 hsz (by omega) hby
 have hge:=grownCap_ge w m 0 e
 have hcm:=grownCap_le_maxLen w m 0 e hmx
 have hzs:he.zv.cells.size=te.size:=he.hzs
 obtain ⟨obj,hobj⟩:∃obj,obj=Obj.cells (Builtin.zeroCells he.zv.cells m++Builtin.zeroCells he.zv.cells (grownCap w m 0 e - m)) e:=⟨_,rfl⟩
 obtain ⟨u,z1,z2,z3,z4⟩:=Zi3 he c6 c5 (w:=w.drew.alloc obj) (F:=F)
 have hus':u.cells.size=te.size:=by rw[z2];exact he.hzs
 have hrun:(execOp a.eval o).run P w=.ok (.value (.slice (some ⟨w.heap.size,0,none⟩) m (grownCap w m 0 e))) (w.drew.alloc obj):=by
  obtain ⟨cs,hcs⟩:=Zai (P:=P) hop a.eval w
  rw[hcs,hobj]
  simp[builtin,hx,hs0,hr]
 refine ⟨_,.slice (some ⟨w.heap.size,0,none⟩) m (grownCap w m 0 e),_,F,[w.heap.size],hrun,hkk,(Adds.refl w h.fl).drew.alloc _,by simp,⟨_,rfl,(Zr (Zaa he.hsm)).2<| .inr ⟨w.heap.size,grownCap w m 0 e,_,(0,0), ?_,rfl,by rw[hobj];exact heap_alloc_new w.drew _,fun _=>rfl,.inl (Nat.le_refl _), ?_,hcm, ?_,fun i y hy=> ?_⟩⟩,fun b hb=> ?_,fun _=>trivial,fun q hq=>by simp[Zj,Kd.bdep] at hq⟩
 ·simp
 ·simpa using hge
 ·simp only[Array.size_append,size_zeroCells,hzs,←Nat.add_mul]
  congr 1
  omega
 ·have hi:i<m:=by have:=(List.getElem?_eq_some_iff.1 hy).1;simpa using this
  have hy':y=ZaN te:=by
   rw[List.getElem?_replicate] at hy
   simp only[Int.toNat_natCast,hi,if_true,Option.some.injEq] at hy
   exact hy.symm
  subst hy'
  refine ⟨z3,z4,u,z1,fun j c hcc=> ?_⟩
  have hj:j<te.size:=by rw[←hus'];exact (Array.getElem?_eq_some_iff.1 hcc).1
  have hlt:i * te.size+j<m * te.size:=by
   have:(i+1) * te.size≤m * te.size:=Nat.mul_le_mul_right _ hi
   rw[Nat.succ_mul] at this
   omega
  rw[Array.getElem?_append_left (by rw[size_zeroCells,hzs];exact hlt)]
  unfold Builtin.zeroCells
  rw[Array.getElem?_map,Array.getElem?_range,if_pos (by rw[hzs];exact hlt)]
  simp only[Option.map_some,Option.some.injEq]
  have e1:(i * te.size+j) % he.zv.cells.size=j:=by rw[he.hzs,Nat.mul_comm,Nat.mul_add_mod,Nat.mod_eq_of_lt hj]
  rw[e1]
  rw[z2] at hcc
  obtain ⟨hlt2,rfl⟩:=Array.getElem?_eq_some_iff.1 hcc
  exact getElem!_pos he.zv.cells j hlt2
 ·simp at hb;subst hb;exact ⟨Nat.le_refl _,by simp,fun hc=>by have:=h.fl _ hc;omega⟩
theorem ZkB (hT:TabOk P T) {t t2:TypeId} {s x:Operand} {d:Nat} (hop:o.op=.call {callee:=.builtin .append,args:= #[s,x],argTypes:= #[t,t2]}) (hd:o.dst=some d) (hE:Zgz T d t t2 (sv κ s) (sv κ x)=some E):ZN P o κ E:=by
 unfold Zgz at hE
 split at hE
 ·rename_i E' hE'
  cases hE
  exact Zme hT hop hd hE'
 ·exact ZoI hT hop hd hE
theorem ZoJ (hT:TabOk P T) {t:TypeId} {x hi:Operand} {d:Nat} (hop:o.op=.slice t x none (some hi) none) (hd:o.dst=some d) (hE:ZlV T d t (sv κ x) (sv κ hi)=some E):ZN P o κ E:=by
 have hops:o.op.operands.toList=[x,hi]:=by rw[hop];rfl
 unfold ZlV at hE
 split at hE
 case h_1=>cases hE
 rename_i ti hti
 obtain ⟨ht⟩:=hT.ty hti
 split at hE
 case h_2=>cases hE
 rename_i e hds
 have hus:=ZT ht hds
 split at hE
 case h_1=>cases hE
 rename_i te hte
 obtain ⟨he⟩:=hT.ty hte
 split at hE
 case isFalse=>cases hE
 rename_i hhv
 have hel:P.elem t=e:=by simp[Program.elem,hus]
 have hus':P.underlying t=some (.slice (P.elem t)):=by rw[hel];exact hus
 have run:∀(w0:World) (F0:Nat→Prop) (X0:List Nat) (σ:List PV) (a:Act) (w:World) (F:Nat→Prop) (fp:Nat→List Nat),St w0 F0 X0 κ σ a.tmps w F fp→∀(A:Option Addr) (n c hh:Nat),a.eval x=.slice A n c→n≤c→ZfE n (some (dv κ σ hi).v)=some hh→
  (execOp a.eval o).run P w=.ok (.value (sliced A 0 hh c te.size)) w∧hh≤n:=by
  intro w0 F0 X0 σ a w F fp h A n c hh hx hnc hb
  have hu:=rdS h hhv
  have e2:∀z,some (dv κ σ hi).v=some z→∃v,some (a.eval hi)=some v∧∀k i,z=.int k i→v=.int k i:=fun z hz=>⟨_,rfl,fun k i ee=>by
   simp only[Option.some.injEq] at hz
   rw[hz,ee] at hu
   exact hu.int_eq⟩
  obtain ⟨r1,r2,r3⟩:=Zhq (P:=P) (c:=c) hnc (isS:=true) (lo:=none) (vl:=none) (l:=0) hb rfl (fun z hz=>by cases hz) (fun _=>rfl) e2 (fun hc=>by cases hc) w
  refine ⟨?_,r3⟩
  have h4:=he.run_sizeOf w
  simp only[execOp,hop,Option.map_none,Option.map_some,Sem.run_bind,run_sliceAt_slice w t _ _ _ _ hus']
  rw[hx,run_slice_any w t A n c hus',r1]
  simp[hel,h4]
 split at hE
 ·rename_i e' sz q i hK hA
  split at hE
  ·cases hE
  rename_i hne
  simp only[not_or,Decidable.not_not] at hne
  obtain ⟨hqd,rfl,rfl⟩:=hne
  cases hE
  refine Zb5 hd rfl fun w0 F0 X0 κ1 σ a w F F1 fp fp1 kk r h h1 htt hgh hF hall hlv hdy=> ?_
  rw[hops] at hdy
  obtain ⟨z,hz,hkk⟩:=Option.bind_eq_some_iff.1 (show (Zr7 (sv κ x) (dv κ σ x) (dv κ σ hi)).bind kk=some r from hdy)
  unfold Zr7 at hz
  obtain ⟨l,hl,hz⟩:=Option.bind_eq_some_iff.1 hz
  obtain ⟨hh,hb,rfl⟩:=Option.map_eq_some_iff.1 hz
  have hlx:ZaM κ σ x:=Zc hlv (by rw[hops];exact .head _)
  obtain ⟨q',i',lb,q1,q2,q3,q4⟩:=ZbA h (x:=x) hlx (l:=l) hl hK
  obtain ⟨y',v0,l',lb',m1,m2,m3,m4,m5⟩:=hall _ (List.mem_singleton.2 rfl)
  simp only[Bool.false_eq_true,if_false] at m5
  have hv0:=ZcZ h hlx hA m1
  subst hv0
  have hlb:=q2.lb_eq m3
  subst hlb
  have hst:Stays w F w F1:=⟨hF,fun _ _=>rfl⟩
  have hrow:=q2.keep hst fun _ _=>rfl
  rw[Zr (Zaa he.hsm)] at hrow
  rcases hrow with ⟨g1,rfl,g3⟩|⟨g,cap,cur,fr,g1,g2,g3,g4,g5,g6,g7,g8,g9⟩
  ·obtain ⟨r1,r2⟩:=run w0 F0 X0 σ a w F fp h none 0 0 hh g1 (Nat.le_refl _) hb
   refine ⟨_,_,w,F1,[],r1,hkk,rfl,rfl,rfl,Nat.le_refl _,fun _ _ _=>rfl,fun _ h=>h,fun _ h=>.inl h,h1.fl,List.nodup_nil,⟨_,rfl,(Zr (Zaa he.hsm)).2<| .inl ⟨?_,by simp,rfl⟩⟩,by simp,fun _=>trivial,fun q hq=>by simp[Kd.bdep] at hq⟩
   have:hh=0:=by omega
   subst this
   simp[sliced]
  ·obtain ⟨r1,r2⟩:=run w0 F0 X0 σ a w F fp h (some ⟨g,0,none⟩) l.length cap hh g1 g6 hb
   have hlen:(l.take hh).length=hh:=by simp;omega
   refine ⟨_,_,w,F1,lb,r1,hkk,rfl,rfl,rfl,Nat.le_refl _,fun _ _ _=>rfl,fun _ h=>h,fun _ h=>.inl h,h1.fl,m4,⟨_,rfl,(Zr (Zaa he.hsm)).2<| .inr ⟨g,cap,cur,fr, ?_,g2,g3,g4,g5,by rw[hlen];omega,g7,g8,fun i y hy=> ?_⟩⟩,fun b hb=>⟨.inr (m5 b hb),(h1.pr _ b (m5 b hb)).1,(h1.pr _ b (m5 b hb)).2.1⟩,fun _=>trivial,fun q hq=>by simp[Kd.bdep] at hq⟩
   ·rw[hlen];simp[sliced,Addr.add]
   ·refine g9 i y ?_
    rw[List.getElem?_take] at hy
    split at hy
    ·exact hy
    ·cases hy
 ·split at hE
  case isFalse=>cases hE
  rename_i hk
  cases hE
  refine ZJ hd rfl rfl fun w0 F0 X0 σ a w F fp kk r h htt hlv hdy=> ?_
  rw[hops] at hdy
  obtain ⟨z,hz,hkk⟩:=Option.bind_eq_some_iff.1 (show (ZpY (dv κ σ x).v (dv κ σ hi).v).bind kk=some r from hdy)
  obtain ⟨l,_,hsr⟩:=h.at' x (by rw[hk];simp)
  rw[hk] at hsr
  obtain ⟨hv,hx,_⟩:=hsr
  rw[hv] at hz
  obtain ⟨hh,hb,rfl⟩:=Option.map_eq_some_iff.1 (show (ZfE 0 (some (dv κ σ hi).v)).map (fun h=>PV.lst (([]:List PV).take h))=some z from hz)
  obtain ⟨r1,r2⟩:=run w0 F0 X0 σ a w F fp h none 0 0 hh hx (Nat.le_refl _) hb
  have:hh=0:=by omega
  subst this
  refine ⟨_,_,w,F,[],r1,hkk,Adds.refl w h.fl,List.nodup_nil,⟨by simp,by simp[sliced],rfl⟩,by simp,fun _=>trivial,fun q hq=>by have hq:(none:Option Nat)=some q:=hq;cases hq⟩
theorem ZlW (hT:TabOk P T) {t:TypeId} {x:Operand} {lo hi:Option Operand} {d:Nat} (hop:o.op=.slice t x lo hi none) (hd:o.dst=some d) (hE:ZhY T d t (sv κ x) (lo.map (sv κ)) (hi.map (sv κ))=some E):ZN P o κ E:=by
 unfold ZhY at hE
 cases lo with
 | none=>
  cases hi with
  |none=>exact ZfF hT hop hd hE
  | some h=>
   simp only[Option.map_none,Option.map_some] at hE
   split at hE
   ·rename_i E' hE'
    cases hE
    exact ZoJ hT hop hd hE'
   ·exact ZfF hT hop hd hE
 |some l=>exact ZfF hT hop hd hE
theorem Zjy {w:World} {F:Nat→Prop}:∀{xs:List PV} {vs:List Value} {n:Nat},ArgsR w F (List.replicate n (.ck .val)) xs vs→n=xs.length∧vs.length=xs.length∧∀(i:Nat) (x:PV),xs[i]?=some x→∃v,vs[i]?=some v∧VR w F x v
 |xs,vs,0,h=>by cases h;exact ⟨rfl,rfl,by simp⟩
 | xs,vs,n+1,h=>by
  cases h with
  | cons h hu ht=>
   obtain ⟨e1,e2,e3⟩:=Zjy ht
   refine ⟨by simp[e1],by simp[e2],fun i x hx=> ?_⟩
   cases i with
   |zero=>simp at hx;subst hx;exact ⟨_,rfl,h.1⟩
   |succ i=>simpa using e3 i x (by simpa using hx)
theorem Zhf (hT:TabOk P T) {t:TypeId} {len:Nat} {parts:Array (Nat×Operand)} {d:Nat} (hop:o.op=.buildSlice t len parts) (hd:o.dst=some d) (hE:Zdy T d t len parts.toList (o.op.operands.toList.map (sv κ))=some E):ZN P o κ E:=by
 unfold Zdy at hE
 split at hE
 ·rename_i E' hE'
  cases hE
  exact Zh6 hT hop hd hE'
 have hops:o.op.operands.toList=parts.toList.map (·.2):=by rw[hop];simp[Op.operands]
 rw[hops] at hE
 split at hE
 case h_1=>cases hE
 rename_i ti hi
 obtain ⟨ht⟩:=hT.ty hi
 split at hE
 case h_2=>cases hE
 rename_i e hds
 have hus:=ZT ht hds
 split at hE
 case h_1=>cases hE
 rename_i te hte
 obtain ⟨he⟩:=hT.ty hte
 split at hE
 case isFalse=>cases hE
 rename_i hc
 obtain ⟨c1,c2,c3,c4,c5⟩:=hc
 cases hE
 refine Zb5 hd rfl fun w0 F0 X0 κ1 σ a w F F1 fp fp1 kk r h h1 htt hgh hF hall hlv hdy=> ?_
 rw[hops] at hdy
 obtain ⟨xs,hxs,hdy⟩:=Option.bind_eq_some_iff.1 hdy
 split at hdy
 case isFalse=>cases hdy
 rename_i hok
 have hlive:∀x∈parts.toList.map (·.2),ZaM κ σ x:=fun x hx=>Zc hlv (by rw[hops];exact hx)
 have hargs:=ZcO (sc:=false) h (List.replicate ((parts.toList.map (·.2)).map (sv κ)).length (.ck .val)) (parts.toList.map (·.2)) xs hlive c3 hxs F1 hF (fun hc=>by cases hc) fun x hx app e' sz q i l lb g1 g2 g3 g4 b hb=>by
  obtain ⟨y',v0,l',lb',m1,m2,m3,m4,m5⟩:=hall _ (Zgx (parts.toList.map (·.2)) hx g1 g2)
  simp only[if_true] at m5
  have hv0:=ZcZ h (hlive x hx) g2 m1
  subst hv0
  have hlb:=g3.lb_eq m3
  subst hlb
  exact m5.2 b hb
 obtain ⟨n1,n2,n3⟩:=Zjy hargs
 simp only[List.length_map] at n1 n2
 have hvs:(parts.toList.map (·.2)).map a.eval=parts.toList.map (fun p=>a.eval p.2):=by rw[List.map_map];rfl
 rw[hvs] at n3
 have hel:∀(i:Nat) (y:PV),xs[i]?=some y→∃v,(parts.toList.map (fun p=>a.eval p.2))[i]?=some v∧VR w F1 y v∧y.width=te.size∧y≠.undef:=fun i y hy=>by
  obtain ⟨v,e1,e2⟩:=n3 i y hy
  have h2:=List.all_eq_true.1 hok y (List.mem_of_getElem? hy)
  obtain ⟨cl,hcl⟩:=Option.isSome_iff_exists.1 h2
  obtain ⟨_,_,h3,h4⟩:=Za8 hcl
  exact ⟨v,e1,e2,h3,h4⟩
 have hcl:∀(v:Value),v∈parts.toList.map (fun p=>a.eval p.2)→v.cells.size=te.size:=fun v hv=>by
  obtain ⟨i,hi⟩:=List.mem_iff_getElem?.1 hv
  have hil:i<xs.length:=by
   have:=(List.getElem?_eq_some_iff.1 hi).1
   simp only[List.length_map] at this
   omega
  obtain ⟨v',e1,e2,e3,e4⟩:=hel i xs[i] (List.getElem?_eq_getElem hil)
  rw[hi] at e1
  cases e1
  rw[←(e2.cells e4).1];exact e3
 have hlen:xs.length=len:=by omega
 have hparts:(parts.map fun (i,x)=>(i,a.eval x)).toList=((parts.toList.map fun p=>a.eval p.2).zipIdx 0).map fun x=>(x.2,x.1):=by
  rw[←Zh5 parts.toList 0 c2 a.eval]
  simp
 have hfin:∀(cells:Array Value),cells.size=len * te.size→(∀(k:Nat),k<len * te.size→cells[k]?=(((parts.toList.map fun p=>a.eval p.2)[k / te.size]?).bind fun v=>v.cells[k % te.size]?))→
  (Instr.buildSlice t len (parts.map fun (i,x)=>(i,a.eval x))).run P w=.ok (.slice (some ⟨w.heap.size,0,none⟩) len len) (w.alloc (.cells cells e))→
  ∃ (x:PV) (v:Value) (w':World) (F':Nat→Prop) (l:List Nat),(execOp a.eval o).run P w=.ok (.value v) w'∧kk x=some r∧
   w'.os=w.os∧w'.tape=w.tape∧w'.output=w.output∧w.heap.size≤w'.heap.size∧(∀b,b<w.heap.size→(b∉fp1 d∨Zej ((parts.toList.map (·.2)).map (sv κ))=[])→w'.heap[b]?=w.heap[b]?)∧
   (∀b,F1 b→F' b)∧(∀b,F' b→F1 b∨w.heap.size≤b∨b∈fp1 d)∧(∀b,F' b→b<w'.heap.size)∧
   l.Nodup∧SR w' F' (.ck (.own true e te.size)) x v l∧(∀b∈l,(w.heap.size≤b∨b∈fp1 d)∧b<w'.heap.size∧¬F' b)∧
   (x≠.undef→Al (a.tmps.setIfInBounds d v) w' (.ck (.own true e te.size)) x v)∧(∀q,(Kd.ck (.own true e te.size)).bdep=some q→q≠d∧(kd κ1 q).isBox=true):=by
  intro cells hcs hcell hrun
  have hA:=(Adds.refl w h1.fl).alloc (.cells cells e)
  refine ⟨_,.slice (some ⟨w.heap.size,0,none⟩) len len,_,F1,[w.heap.size],by simp[execOp,hop,hrun],hdy,hA.os,hA.tape,hA.output,hA.size,fun b hb _=>hA.block b hb,fun _ h=>h,fun _ h=>.inl h,hA.lt,by simp,
   ⟨_,rfl,(Zr (Zaa he.hsm)).2<| .inr ⟨w.heap.size,len,cells,(0,0),by rw[hlen],rfl,heap_alloc_new w _,fun _=>rfl,.inl (Nat.le_refl _),by rw[hlen];exact Nat.le_refl _, ?_,hcs,fun i y hy=> ?_⟩⟩,fun b hb=> ?_,fun _=>trivial,fun q hq=>by simp[Kd.bdep] at hq⟩
  ·have:len≤len * te.size:=Nat.le_mul_of_pos_right _ (by omega)
   unfold maxLen;omega
  ·obtain ⟨v,q1,q2,q3,q4⟩:=hel i y hy
   refine ⟨q3,q4,v,q2.keep (hA.stays h1.fl),fun j c hc=> ?_⟩
   have hj:j<te.size:=by rw[←q3,(q2.cells q4).1];exact (Array.getElem?_eq_some_iff.1 hc).1
   have hi:i<len:=by rw[←hlen];exact (List.getElem?_eq_some_iff.1 hy).1
   have:(i+1) * te.size≤len * te.size:=Nat.mul_le_mul_right _ hi
   rw[Nat.succ_mul] at this
   rw[hcell _ (by omega)]
   have e1:(i * te.size+j) / te.size=i:=by rw[Nat.mul_comm,Nat.mul_add_div (by omega),Nat.div_eq_of_lt hj,Nat.add_zero]
   have e2:(i * te.size+j) % te.size=j:=by rw[Nat.mul_comm,Nat.mul_add_mod,Nat.mod_eq_of_lt hj]
   rw[e1,e2,q1]
   exact hc
  ·simp at hb;subst hb;exact ⟨.inl (Nat.le_refl _),by simp,fun hc=>by have:=h1.fl _ hc;omega⟩
 by_cases hl0:len=0
 ·subst hl0
  have hp0:parts= #[]:=by
   have:parts.toList=[]:=List.eq_nil_of_length_eq_zero c1
   simpa using this
  refine hfin #[] (by simp) (fun k hk=>by simp at hk) ?_
  have h2:=he.run_sizeOf w
  have h3:Array.range 0= #[]:=by simp[Array.range]
  simp[Instr.buildSlice,underlying,hus,h2,hp0,Instr.fill,newRow,h3]
 ·have hpos:¬len * te.size=0:=Nat.mul_ne_zero hl0 c4
  obtain ⟨cells,f1,f2,f3⟩:=Great.fill_dense (s:=te.size) (by omega) (parts.toList.map fun p=>a.eval p.2) 0 ((Array.range (len * te.size)).map (he.zv.cells[· % he.zv.cells.size]!)) hcl (by simp[c1])
  refine hfin cells (by rw[f2];simp) (fun k hk=> ?_) ?_
  ·rw[f3 k]
   rw[if_pos ⟨by omega,by rw[List.length_map,c1,Nat.zero_add];exact hk⟩,Nat.sub_zero]
  ·refine run_buildSlice w t e len _ cells he.row he.zv hus he.hrow he.hz (by rw[he.hsize];omega) (by rw[he.hsize];exact hpos) ?_
   rw[he.hsize,hparts]
   exact f1
end
section
variable {R :Type} {P:Program} {T:Tab} {o:Oper} {κ:List Kd} {E:Eff R}
def pvS :Value→Option PV
 |.int k n=>some (.int k n)
 |.string s=>some (.str s.data.toList)
 |_=>none
theorem Zr8 {w:World} {F:Nat→Prop} {v:Value} {x:PV} (h:pvS v=some x):VR w F x v∧x.one=true:=by
 unfold pvS at h
 split at h
 ·cases h;exact ⟨.int _ _,rfl⟩
 ·rename_i s
  cases h
  have:=VR.str (w:=w) (F:=F) s.data.toList
  rw[Array.toArray_toList] at this
  exact ⟨this,rfl⟩
 ·cases h
def Zr9 (l:List Value):PV→Option PV
 |.int _ n=>if 0≤n then (l[n.toNat]?).bind pvS else none
 |_=>none
def ZiK (g:Nat) (y:PV):Option PV:=match GT.lookup g with|some l=>Zr9 l y|none=>none
def Zjz {R:Type} (T:Tab) (d:Nat) (t:TypeId) (g:Nat) (i:SV):Option (Eff R):=
 match GA.lookup t,GT.lookup g with
 | some (n,e),some l=>
  match T.lookup e with
  |some te=>if te.size=1∧l.length=n∧i.isV=true then some (Zj d .ipt (ZaV fun x y=>(ZiK g y.v).map fun p=>.agg [p])) else none
  |none=>none
 |_,_=>none
theorem Zdz {α β:Type} [BEq α] [LawfulBEq α] {a:α} {b:β}:∀{l:List (α×β)},l.lookup a=some b→(a,b)∈l
 |[],h=>by cases h
 | (c,e)::r,h=>by
  simp only[List.lookup] at h
  split at h
  ·rename_i he
   cases h
   rw[eq_of_beq he];exact List.mem_cons_self
  ·exact List.mem_cons_of_mem _ (Zdz h)
theorem Zsa {t e:TypeId} {te:TI} {n:Nat} (hu:P.underlying t=some (.array n e)) (he:TyOk P e te) {b:Nat} {k:IntKind} {i:Int} (h0:0≤i) (hn:i<n) (w:World):
 (Instr.indexAt t (.pointer (some ⟨b,0,none⟩)) (.int k i)).run P w=.ok (.pointer (some ⟨b,0+i.toNat * te.size,none⟩)) w:=by
 have h1:=he.run_sizeOf w
 simp[Instr.indexAt,asIntOf,underlying,hu,h0,hn,h1,Addr.add_lit,Instr.sureAddr]
theorem Znm (hT:TabOk P T) {t:TypeId} {g:Nat} {i:Operand} {d:Nat} (hop:o.op=.indexAddr t (.global g) i) (hd:o.dst=some d) (hE:Zjz T d t g (sv κ i)=some E):ZN P o κ E:=by
 have hops:o.op.operands.toList=[.global g,i]:=by rw[hop];rfl
 unfold Zjz at hE
 split at hE
 case h_2=>cases hE
 rename_i n e l hga hgt
 split at hE
 case h_2=>cases hE
 rename_i te hte
 split at hE
 case isFalse=>cases hE
 rename_i hc
 obtain ⟨hsz,hlen,hiv⟩:=hc
 cases hE
 obtain ⟨he⟩:=hT.ty hte
 have hu:=hT.arr t n e (Zdz hga)
 refine ZJ hd rfl rfl fun w0 F0 X0 σ a w F fp kk r h htt hlv hdy=> ?_
 rw[hops] at hdy
 obtain ⟨z,hz,hkk⟩:=Option.bind_eq_some_iff.1 (show ((ZiK g (dv κ σ i).v).map fun p=>PV.agg [p]).bind kk=some r from hdy)
 obtain ⟨p,hp,rfl⟩:=Option.map_eq_some_iff.1 hz
 have hii:=rdS h hiv
 have hp:Zr9 l (dv κ σ i).v=some p:=by
  have:ZiK g (dv κ σ i).v=some p:=hp
  unfold ZiK at this
  rw[hgt] at this
  exact this
 unfold Zr9 at hp
 split at hp
 case h_2=>cases hp
 rename_i k m em
 split at hp
 case isFalse=>cases hp
 rename_i hm
 rw[em] at hii
 have hii:=hii.int_eq
 obtain ⟨v,hv,hpv⟩:=Option.bind_eq_some_iff.1 hp
 have hlt:=(List.getElem?_eq_some_iff.1 hv).1
 obtain ⟨hFg,TT,fr,cs,hw,hcs⟩:=h.gk g l (Zdz hgt)
 have hrun:=Zsa hu he (b:=g) (k:=k) hm (show m<(n:Int) by omega) w
 have hev:a.eval (.global g)=.pointer (some ⟨g,0,none⟩):=rfl
 refine ⟨_,.pointer (some ⟨g,0+m.toNat * te.size,none⟩),w,F,[],by simp[execOp,hop,hev,hii,hrun],hkk,Adds.refl w h.fl,List.nodup_nil,⟨fun _=>⟨g,0+m.toNat * te.size,[p],rfl,rfl,hFg,fun j y hy=> ?_⟩,rfl⟩,by simp,fun _=>trivial,fun q hq=>by simp[Zj,Kd.bdep] at hq⟩
 cases j with
 |succ j=>simp at hy
 | zero=>
  simp only[List.getElem?_cons_zero,Option.some.injEq] at hy
  subst hy
  have h2:=Zr8 (w:=w) (F:=F) hpv
  refine ⟨h2.2,v, ?_,h2.1⟩
  rw[cell_of_row w g _ cs TT fr hw,hsz,←Array.getElem?_toList,hcs]
  simpa using hv
def ZlX {R:Type} (T:Tab) (d:Nat) (t:TypeId) (x:Operand) (xs i:SV):Option (Eff R):=
 match x with
 |.global g=>Zjz T d t g i
 |_=>ZoW T d t xs i
theorem ZoK (hT:TabOk P T) {t:TypeId} {x i:Operand} {d:Nat} (hop:o.op=.indexAddr t x i) (hd:o.dst=some d) (hE:ZlX T d t x (sv κ x) (sv κ i)=some E):ZN P o κ E:=by
 unfold ZlX at hE
 split at hE
 ·exact Znm hT hop hd hE
 ·exact ZqQ hT hop hd hE
end
def Zhg :List DK→List CK→Bool
 |[],[]=>true
 |none::ks,c::cs=>decide (c=.val)&&Zhg ks cs
 |some (e,sz)::ks,c::cs=>(decide (c=.own true e sz)||decide (c=.nil))&&decide (sz<dB)&&Zhg ks cs
 |_,_=>false
def aggL (n:Nat):PV→Option PV
 |.agg xs=>if xs.length=n then some (.lst [.agg xs]) else none
 |_=>none
def ZoL (T:Tab) (e:TypeId):Option (Nat×List DK):=
 match isMv T e,DE.lookup e with
 |true,some i=>(DT[i]?).map fun ks=>(dB+i,ks)
 |_,_=>none
def ZhZ {R:Type} (T:Tab) (d:Nat) (t:TypeId) (len:Nat) (parts:List (Nat×Operand)) (svs:List SV):Option (Eff R):=
 match T.lookup t with
 |none=>none
 | some ti=>
  match ti.desc with
  | .slice e=>
   match T.lookup e,ZoL T e with
   | some te,some (sz,ks)=>
    if ks.length≠te.size∨te.size=0 then none else
    match parts,svs with
    |[],[]=>if len=0 then some (Zj d (.ck (.own true e sz)) fun _ kk=>kk (.lst [])) else none
    | [(0,_)],[s]=>
     if len≠1 then none else
     match s.grpS with
     |some (q,cs)=>if q≠d∧Zhg ks cs=true∧te.size≤65536 then some {gh:=ZcA q 0 cs,tgt:=d,put:=true,k:=.ck (.own true e sz),cut:=.no,dyn:=fun ds kk=>match ds with|[x]=>(aggL te.size x.v).bind kk|_=>none} else none
     |none=>none
    |_,_=>none
   |_,_=>none
  |_=>none
def neL :List PV→Option (List PV)
 |[]=>none
 |x::r=>some (x::r)
def appD (s x:SV):DV→DV→Option PV:=fun ds dx=>
 (Zh s ds).bind fun ls=>((Zh x dx).bind neL).bind fun lx=>if ls.length+lx.length≤4294967296 then some (.lst (ls++lx)) else none
def ZlY {R:Type} (T:Tab) (d:Nat) (t t2:TypeId) (s x:SV):Option (Eff R):=
 match T.lookup t with
 |none=>none
 | some ti=>
  match ti.desc with
  | .slice e=>
   match T.lookup e with
   |none=>none
   | some te=>
    match Z8 x,ZaJ x with
    | some (some (true,e',sz)),some (qx,ix)=>
     if t≠t2∨te.size=0∨32768<te.bytes∨e'≠e∨sz<dB then none else
     match ZgB sz with
     |none=>none
     | some ks=>
      if ks.length≠te.size then none else
      match s.k with
      |.ck .nil=>some {gh:=[⟨qx,ix,false,true,e,sz⟩],tgt:=d,put:=true,k:=.ck (.own true e sz),cut:=.no,dyn:=ZaV (appD s x)}
      | _=>
       match Z8 s,ZaJ s with
       | some (some (true,e2,sz2)),some (qs,is)=>
        if e2=e∧sz2=sz∧qs≠qx then some {gh:=[⟨qs,is,false,true,e,sz⟩,⟨qx,ix,false,true,e,sz⟩],tgt:=d,put:=true,k:=.ck (.own true e sz),cut:=.no,dyn:=ZaV (appD s x)} else none
       |_,_=>none
    |_,_=>none
  |_=>none
section
variable {R :Type} {P:Program} {T:Tab} {o:Oper} {κ κ1:List Kd} {E:Eff R}
variable {w0 :World} {F0:Nat→Prop} {X0:List Nat} {σ:List PV} {a:Act} {w w1:World} {F F1:Nat→Prop} {fp fp1:Nat→List Nat}
def Zct (w:World) (F:Nat→Prop) (ks:List DK) (l:List PV) (xs:List Value) (fpss:List (List (List Nat))):Prop:=
 fpss.length=l.length∧xs.length=l.length * ks.length∧∀(i:Nat) (x:PV),l[i]?=some x→∃(u:Value) (fps:List (List Nat)),fpss[i]?=some fps∧ElD w F ks x u fps∧∀(j:Nat) (c:Value),u.cells[j]?=some c→xs[i * ks.length+j]?=some c
theorem Zct.append {ks:List DK} {l l':List PV} {xs ys:List Value} {f f':List (List (List Nat))} (h:Zct w F ks l xs f) (h':Zct w F ks l' ys f'):Zct w F ks (l++l') (xs++ys) (f++f'):=by
 obtain ⟨a1,a2,a3⟩:=h
 obtain ⟨b1,b2,b3⟩:=h'
 refine ⟨by simp[a1,b1],by simp[a2,b2,Nat.add_mul],fun i x hx=> ?_⟩
 rw[List.getElem?_append] at hx
 split at hx
 ·rename_i hi
  obtain ⟨u,fps,e1,e2,e3⟩:=a3 i x hx
  refine ⟨u,fps,by rw[List.getElem?_append_left (by omega)];exact e1,e2,fun j c hc=> ?_⟩
  have:=e3 j c hc
  rw[List.getElem?_append_left (List.getElem?_eq_some_iff.1 this).1]
  exact this
 ·rename_i hi
  obtain ⟨u,fps,e1,e2,e3⟩:=b3 _ x hx
  refine ⟨u,fps,by rw[List.getElem?_append_right (by omega),a1];exact e1,e2,fun j c hc=> ?_⟩
  have:=e3 j c hc
  have q:i * ks.length=l.length * ks.length+(i - l.length) * ks.length:=by rw[←Nat.add_mul];congr 1;omega
  rw[List.getElem?_append_right (by omega),show i * ks.length+j - xs.length=(i - l.length) * ks.length+j from by omega]
  exact this
theorem Zct.keep {ks:List DK} {l:List PV} {xs:List Value} {f:List (List (List Nat))} (h:Zct w F ks l xs f) (hs:Stays w F w1 F1) (hb:∀b∈(f.map List.flatten).flatten,w1.heap[b]?=w.heap[b]?):Zct w1 F1 ks l xs f:=by
 obtain ⟨a1,a2,a3⟩:=h
 refine ⟨a1,a2,fun i x hx=> ?_⟩
 obtain ⟨u,fps,e1,e2,e3⟩:=a3 i x hx
 exact ⟨u,fps,e1,e2.keep hs fun b hb'=>hb b (Zft e1 hb'),e3⟩
theorem Za4.cells {e:TypeId} {ks:List DK} {l:List PV} {v:Value} {lb:List Nat} (h:Za4 w F e ks l v lb):(v=.slice none 0 0∧l=[]∧lb=[])∨
 ∃(g cap:Nat) (cur:Array Value) (f:List (List (List Nat))),v=.slice (some ⟨g,0,none⟩) l.length cap∧lb=g::(f.map List.flatten).flatten∧w.heap[g]?=some (.cells cur e (0,0))∧l.length≤cap∧cap≤maxLen∧cur.size=cap * ks.length∧Zct w F ks l (cur.toList.take (l.length * ks.length)) f:=by
 rcases h with h|⟨g,cap,cur,f,h1,h2,h3,h4,h5,h6,h7,h8⟩
 ·exact .inl h
 ·have hle:l.length * ks.length≤cur.size:=by rw[h6];exact Nat.mul_le_mul_right _ h4
  refine .inr ⟨g,cap,cur,f,h1,h2,h3,h4,h5,h6,h7,by simp;omega,fun i x hx=> ?_⟩
  obtain ⟨u,fps,e1,e2,e3⟩:=h8 i x hx
  refine ⟨u,fps,e1,e2,fun j c hc=> ?_⟩
  have hj:j<ks.length:=by rw[←e2.size];exact (Array.getElem?_eq_some_iff.1 hc).1
  have hi:=(List.getElem?_eq_some_iff.1 hx).1
  have:(i+1) * ks.length≤l.length * ks.length:=Nat.mul_le_mul_right _ hi
  rw[Nat.succ_mul] at this
  rw[List.getElem?_take,if_pos (by omega)]
  simpa using e3 j c hc
theorem Za4.of_cells {e:TypeId} {ks:List DK} {l:List PV} {g cap:Nat} {cur:Array Value} {f:List (List (List Nat))} (hg:w.heap[g]?=some (.cells cur e (0,0))) (hle:l.length≤cap) (hm:cap≤maxLen) (hs:cur.size=cap * ks.length)
 (h:Zct w F ks l (cur.toList.take (l.length * ks.length)) f):Za4 w F e ks l (.slice (some ⟨g,0,none⟩) l.length cap) (g::(f.map List.flatten).flatten):=by
 obtain ⟨h1,h2,h3⟩:=h
 refine .inr ⟨g,cap,cur,f,rfl,rfl,hg,hle,hm,hs,h1,fun i x hx=> ?_⟩
 obtain ⟨u,fps,e1,e2,e3⟩:=h3 i x hx
 refine ⟨u,fps,e1,e2,fun j c hc=> ?_⟩
 have:=e3 j c hc
 rw[List.getElem?_take] at this
 split at this
 ·simpa using this
 ·cases this
theorem DElR.one {ks:List DK} {xs:List PV} {vs:List Value} {fps:List (List Nat)} (h:DElR w F ks xs vs fps):∀v∈vs,v.oneCell'=true:=by
 induction h with
 |nil=>simp
 | val h ho ht ih=>
  intro v hv
  rcases List.mem_cons.1 hv with rfl|hv
  ·exact h.one' ho
  ·exact ih v hv
 | row h ht ih=>
  intro v hv
  rcases List.mem_cons.1 hv with rfl|hv
  ·obtain ⟨A,c,rfl⟩:=h.slice_eq;rfl
  ·exact ih v hv
theorem ElD.one {ks:List DK} {x:PV} {u:Value} {fps:List (List Nat)} (h:ElD w F ks x u fps):∀v∈u.cells.toList,v.oneCell'=true:=by
 rcases h with ⟨xs,cs,rfl,rfl,h3⟩|⟨h1,h2,h3⟩
 ·exact h3.one
 ·rw[h2];exact h3.one
theorem Zct.one {ks:List DK} {l:List PV} {xs:List Value} {f:List (List (List Nat))} (h:Zct w F ks l xs f) (hk:ks.length≠0):∀u∈xs,u.oneCell'=true:=by
 obtain ⟨h1,h2,h3⟩:=h
 intro u hu
 obtain ⟨k,hk'⟩:=List.mem_iff_getElem?.1 hu
 have hlt:=(List.getElem?_eq_some_iff.1 hk').1
 have a1:k / ks.length<l.length:=(Nat.div_lt_iff_lt_mul (by omega)).2 (by omega)
 obtain ⟨uu,fps,e1,e2,e3⟩:=h3 _ _ (List.getElem?_eq_getElem a1)
 have hj:k % ks.length<uu.cells.size:=by rw[e2.size];exact Nat.mod_lt _ (by omega)
 have:=e3 (k % ks.length) _ (Array.getElem?_eq_getElem hj)
 rw[show k / ks.length * ks.length+k % ks.length=k from by rw[Nat.mul_comm];exact Nat.div_add_mod k ks.length,hk'] at this
 rw[Option.some.inj this]
 exact e2.one _ (Array.getElem_mem_toList hj)
theorem ZlZ {t ty e:TypeId} {te:TI} (ht:P.underlying t=some (.slice e)) (he:TyOk P e te) (hsz:te.size≠0) (hby:te.bytes≤32768) {n m:Nat} {v:Value} (xs news:List Value) (hxs:xs.length=n * te.size) (hnews:news.length=m * te.size) (hm0:0<m)
 (hs:(v=.slice none 0 0∧n=0)∨∃(g cap:Nat) (cur:Array Value),v=.slice (some ⟨g,0,none⟩) n cap∧w.heap[g]?=some (.cells cur e (0,0))∧n≤cap∧cap≤maxLen∧cur.size=cap * te.size∧cur.toList.take (n * te.size)=xs)
 {ad:Addr} {c:Nat} (hcells:∀(j:Nat) (u:Value),news[j]?=some u→w.cell? (ad.add j)=some u) (hone:∀u∈news,u.oneCell'=true) (hlen:n+m≤4294967296):
 ∃ (w':World) (g' cap':Nat) (cur':Array Value),(Builtin.append_ #[t,t] ty #[v,.slice (some ad) m c]).run P w=.ok (.slice (some ⟨g',0,none⟩) (n+m) cap') w'∧w'.os=w.os∧w'.tape=w.tape∧w'.output=w.output∧w.heap.size≤w'.heap.size∧
  w'.heap[g']?=some (.cells cur' e (0,0))∧n+m≤cap'∧cap'≤maxLen∧cur'.size=cap' * te.size∧cur'.toList.take ((n+m) * te.size)=xs++news∧(w.heap.size≤g'∨∃cap,v=.slice (some ⟨g',0,none⟩) n cap)∧
  (∀b,b<w.heap.size→(∀cap,v≠.slice (some ⟨b,0,none⟩) n cap)→w'.heap[b]?=w.heap[b]?):=by
 have hbyt:=ZfA hlen hby
 have hrb:(n+m) * he.row.bytes≤140737488355328:=by rw[he.hbytes];exact hbyt
 have hmx:n+m≤maxLen:=by unfold maxLen;omega
 have n1':news.length=m * he.row.size:=by rw[he.hsize];exact hnews
 have grown:∀(old:Nat) (ys:List Value),ys=xs→old<n+m→∀w',w'=w.drew.alloc (.cells (ys.toArray++news.toArray++Builtin.zeroCells he.zv.cells (grownCap w (n+m) old e - (n+m))) e)→
  ∃ (g':Nat) (cur':Array Value),g'=w.heap.size∧w'.os=w.os∧w'.tape=w.tape∧w'.output=w.output∧w.heap.size≤w'.heap.size∧w'.heap[g']?=some (.cells cur' e (0,0))∧n+m≤grownCap w (n+m) old e∧grownCap w (n+m) old e≤maxLen∧cur'.size=grownCap w (n+m) old e * te.size∧
   cur'.toList.take ((n+m) * te.size)=xs++news∧(∀b,b<w.heap.size→w'.heap[b]?=w.heap[b]?):=by
  intro old ys hys ho w' hw'
  subst hys
  have hge:=grownCap_ge w (n+m) old e
  have hcm:=grownCap_le_maxLen w (n+m) old e hmx
  have hz:he.zv.cells.size=te.size:=he.hzs
  refine ⟨w.heap.size,_,rfl,by rw[hw'];rfl,by rw[hw'];rfl,by rw[hw'];rfl,by rw[hw'];simp,by rw[hw'];exact heap_alloc_new w.drew _,hge,hcm, ?_, ?_,fun b hb=>by rw[hw'];exact Below.heap_alloc w.drew _ b hb⟩
  ·simp only[Array.size_append,List.size_toArray,size_zeroCells,hz,hxs,hnews,←Nat.add_mul]
   congr 1
   omega
  ·simp only[Array.toList_append]
   rw[List.take_append_of_le_length (by simp[hxs,hnews,Nat.add_mul]),List.take_of_length_le (by simp[hxs,hnews,Nat.add_mul])]
 rcases hs with ⟨rfl,rfl⟩|⟨g,cap,cur,rfl,s3,s6,s7,s8,s9⟩
 ·have hx0:xs=[]:=List.eq_nil_of_length_eq_zero (by simpa using hxs)
  subst hx0
  have hr:=run_append_nil (P:=P) w t ty e he.row he.zv ht he.hrow he.hz ad m c news n1' hcells hm0 (by omega) (by simp only[Nat.zero_add] at hrb;omega)
  obtain ⟨g',cur',rfl,k1,k2,k3,k4,k5,k6,k7,k8,k9,k10⟩:=grown 0 [] rfl (by omega) _ rfl
  simp only[Nat.zero_add,Array.empty_append] at k1 k2 k3 k4 k5 k6 k7 k8 k9 k10⊢
  exact ⟨_,_,_,cur',hr,k1,k2,k3,k4,k5,k6,k7,k8,k9,.inl (Nat.le_refl _),fun b hb _=>k10 b hb⟩
 ·have hle:n * te.size≤cur.size:=by rw[s8];exact Nat.mul_le_mul_right _ s6
  by_cases hroom:n+m≤cap
  ·have hfit:n * te.size+news.length≤cur.size:=by rw[hnews,s8,←Nat.add_mul];exact Nat.mul_le_mul_right _ hroom
   have hfit':n * he.row.size+news.length≤cur.size:=by rw[he.hsize];exact hfit
   have hr:=run_append_room (P:=P) w t ty e he.row ht he.hrow g n cap cur s3 ad m c news n1' hcells hone hroom hfit'
   rw[he.hsize] at hr
   refine ⟨_,g,cap,_,hr,rfl,rfl,rfl,by rw[size_setRow];exact Nat.le_refl _,setRow_heap w g cur _ e _ s3,hroom,s7, ?_, ?_,.inr ⟨cap,rfl⟩,fun b hb hne=>setRow_other w g b _ (fun e=>hne cap (by rw[e]))⟩
   ·simp only[List.size_toArray,List.length_append,List.length_take,List.length_drop,Array.length_toList]
    omega
   ·show List.take _ _=_
    rw[s9,List.take_append_of_le_length (by simp[hxs,hnews,Nat.add_mul]),List.take_of_length_le (by simp[hxs,hnews,Nat.add_mul])]
  ·have holds:∀(j:Nat) (u:Value),xs[j]?=some u→w.cell? ((⟨g,0,none⟩:Addr).add j)=some u:=fun j u hj=>by
    rw[Addr.add_lit,Nat.zero_add,cell_of_row w g j cur e (0,0) s3]
    rw[←s9,List.getElem?_take] at hj
    split at hj
    ·simpa using hj
    ·cases hj
   have hr:=run_append_grow (P:=P) w t ty e he.row he.zv ht he.hrow he.hz ⟨g,0,none⟩ n cap xs (by rw[he.hsize];exact hxs) holds ad m c news n1' hcells (by omega) (by omega) (growslice_fits (by omega) hrb)
   obtain ⟨g',cur',rfl,k1,k2,k3,k4,k5,k6,k7,k8,k9,k10⟩:=grown cap xs rfl (by omega) _ rfl
   exact ⟨_,_,_,cur',hr,k1,k2,k3,k4,k5,k6,k7,k8,k9,.inl (Nat.le_refl _),fun b hb _=>k10 b hb⟩
theorem Ztj {ks:List DK} {cs:List CK} {xs:List PV} {vs:List Value} {fps:List (List Nat)} (hf:Zhg ks cs=true) (h:GrpR w F true cs xs vs fps):DElR w F ks xs vs fps:=by
 induction h generalizing ks with
 | nil=>
  cases ks with
  |nil=>exact .nil
  |cons k r=>cases k<;>simp[Zhg] at hf
 | @cons c x v fp cs xs vs fps h ho ht ih=>
  cases ks with
  |nil=>simp[Zhg] at hf
  | cons k r=>
   cases k with
   | none=>
    simp only[Zhg,Bool.and_eq_true,decide_eq_true_eq] at hf
    obtain ⟨rfl,hf⟩:=hf
    obtain ⟨h1,rfl⟩:=h
    exact .val h1 (ho rfl) (ih hf)
   | some p=>
    obtain ⟨e,sz⟩:=p
    simp only[Zhg,Bool.and_eq_true,Bool.or_eq_true,decide_eq_true_eq] at hf
    obtain ⟨⟨h1,h2⟩,hf⟩:=hf
    rcases h1 with rfl|rfl
    ·obtain ⟨l,rfl,hr⟩:=h
     exact .row ((Zr (Zaa h2)).1 hr) (ih hf)
    ·obtain ⟨rfl,rfl,rfl⟩:=h
     exact .row (.inl ⟨rfl,rfl,rfl⟩) (ih hf)
theorem ZqJ {e:TypeId} {sz:Nat} {ks:List DK} (h:ZoL T e=some (sz,ks)):ZgB sz=some ks:=by
 unfold ZoL at h
 split at h
 ·rename_i i _ _
  obtain ⟨k',h1,h2⟩:=Option.map_eq_some_iff.1 h
  simp only[Prod.mk.injEq] at h2
  obtain ⟨rfl,rfl⟩:=h2
  unfold ZgB
  rw[if_neg (by omega),Nat.add_sub_cancel_left]
  exact h1
 ·cases h
theorem Zsb :∀(ks:List CK) (s i:Nat),∀g∈ZcA s i ks,g.fz=false:=by
 intro ks
 induction ks with
 |nil=>intro s i g hg;cases hg
 |cons k r ih=>intro s i g hg;cases k<;>simp only[ZcA] at hg<;>first|exact ih s (i+1) g hg|(rcases List.mem_cons.1 hg with rfl|hg;rfl;exact ih s (i+1) g hg)
theorem Zl0 (hT:TabOk P T) {t:TypeId} {len:Nat} {parts:Array (Nat×Operand)} {d:Nat} (hop:o.op=.buildSlice t len parts) (hd:o.dst=some d) (hE:ZhZ T d t len parts.toList (o.op.operands.toList.map (sv κ))=some E):ZN P o κ E:=by
 have hops:o.op.operands.toList=parts.toList.map (·.2):=by rw[hop];simp[Op.operands]
 unfold ZhZ at hE
 rw[hops] at hE
 split at hE
 case h_1=>cases hE
 rename_i ti hi
 obtain ⟨ht⟩:=hT.ty hi
 split at hE
 case h_2=>cases hE
 rename_i e hds
 have hus:=ZT ht hds
 split at hE
 case h_2=>cases hE
 rename_i te sz ks hte hdo
 obtain ⟨he⟩:=hT.ty hte
 have hdk:=ZqJ hdo
 split at hE
 case isTrue=>cases hE
 rename_i hc
 simp only[not_or,Decidable.not_not] at hc
 obtain ⟨hkl,hs0⟩:=hc
 have h2:∀w,(sizeOf e).run P w=.ok te.size w:=he.run_sizeOf
 split at hE
 ·
  rename_i hp _
  split at hE
  case isFalse=>cases hE
  rename_i hl0
  subst hl0
  cases hE
  refine ZJ hd rfl rfl fun w0 F0 X0 σ a w F fp kk r h htt hlv hdy=> ?_
  have hkk:kk (.lst [])=some r:=hdy
  have hp0:parts= #[]:=by simpa using hp
  have h3:Array.range 0= #[]:=by simp[Array.range]
  have hrun:(execOp a.eval o).run P w=.ok (.value (.slice (some ⟨w.heap.size,0,none⟩) 0 0)) (w.alloc (.cells #[] e)):=by
   simp[execOp,hop,Instr.buildSlice,underlying,hus,h2,hp0,Instr.fill,newRow,h3]
  refine ⟨_,_,_,F,[w.heap.size],hrun,hkk,(Adds.refl w h.fl).alloc _,by simp,⟨[],rfl,(Za5 hdk).2 ⟨rfl, ?_⟩⟩,fun b hb=> ?_,fun _=>trivial,fun q hq=>by simp[Zj,Kd.bdep] at hq⟩
  ·have:=Za4.of_cells (w:=w.alloc (.cells #[] e)) (F:=F) (e:=e) (ks:=ks) (l:=[]) (g:=w.heap.size) (cap:=0) (f:=[]) (heap_alloc_new w _) (Nat.le_refl _) (by simp[maxLen]) (by simp) ⟨rfl,by simp,fun i x hx=>by simp at hx⟩
   simpa using this
  ·simp at hb;subst hb;exact ⟨Nat.le_refl _,by simp,fun hc=>by have:=h.fl _ hc;omega⟩
 ·
  rename_i y s hp hsv
  split at hE
  case isTrue=>cases hE
  rename_i hl1
  have hl1:len=1:=Classical.byContradiction fun h=>hl1 h
  subst hl1
  have hsv':s=sv κ y:=by
   rw[hp] at hsv
   simpa using hsv.symm
  subst hsv'
  obtain ⟨q,cs,hgs⟩:∃q cs,(sv κ y).grpS=some (q,cs):=by
   cases hg:(sv κ y).grpS with
   |none=>rw[hg] at hE;cases hE
   |some p=>exact ⟨p.1,p.2,rfl⟩
  rw[hgs] at hE
  dsimp only at hE
  by_cases hcc:q≠d∧Zhg ks cs=true∧te.size≤65536
  case neg=>rw[if_neg hcc] at hE;cases hE
  rw[if_pos hcc] at hE
  obtain ⟨hqd,hfit,hsmall⟩:=hcc
  cases hE
  refine Zb5 hd rfl fun w0 F0 X0 κ1 σ a w F F1 fp fp1 kk r h h1 htt hg hF hallg hlv hdy=> ?_
  rw[hops,hp] at hdy
  obtain ⟨z,hz,hkk⟩:=Option.bind_eq_some_iff.1 (show (aggL te.size (dv κ σ y).v).bind kk=some r from hdy)
  obtain ⟨cs0,xs,fps,e1,e2,e3,e4,e5,e6,e7,e8⟩:=GrpS.own h hgs
  rw[e4] at hz
  have hz:(if xs.length=te.size then some (PV.lst [.agg xs]) else none)=some z:=hz
  split at hz
  case isFalse=>cases hz
  rename_i hxl
  cases hz
  have hown:=e8 (fun b=>b∈fp1 d) (fun g hg=>by
   obtain ⟨y,v,l,lb,m1,m2,m3,m4,m5⟩:=hallg g hg
   rw[Zsb _ _ _ g hg] at m5
   exact ⟨y,v,l,lb,F1,m1,m3,by simpa using m5⟩)
  have hl5:=e5.lens
  have hcs:cs0.size=te.size:=by have:=hl5.2.1;simp at this;omega
  obtain ⟨cells,f1,f2,f3⟩:=Great.fill_dense (s:=te.size) (by omega) [a.eval y] 0 ((Array.range (1 * te.size)).map (he.zv.cells[· % he.zv.cells.size]!)) (fun v hv=>by rw[List.mem_singleton] at hv;subst hv;rw[e3];exact hcs) (by simp)
  have hcell:∀k,k<te.size→cells[k]?=cs0[k]?:=fun k hk=>by
   rw[f3 k,if_pos ⟨by omega,by simpa using hk⟩]
   rw[Nat.div_eq_of_lt hk,Nat.mod_eq_of_lt hk,e3]
   rfl
  have hcsz:cells.size=te.size:=by rw[f2];simp
  have hrun:(execOp a.eval o).run P w=.ok (.value (.slice (some ⟨w.heap.size,0,none⟩) 1 1)) (w.alloc (.cells cells e)):=by
   have:=run_buildSlice (P:=P) w t e 1 (parts.map fun (i,x)=>(i,a.eval x)) cells he.row he.zv hus he.hrow he.hz (by rw[he.hsize];omega) (by rw[he.hsize];omega) (by
    rw[he.hsize]
    have hpp:(parts.map fun (i,x)=>(i,a.eval x)).toList=[(0,a.eval y)]:=by simp[hp]
    rw[hpp]
    simpa using f1)
   simp[execOp,hop,this]
  have hst:Stays w F (w.alloc (.cells cells e)) F1:=⟨hF,fun b hb=>Below.heap_alloc w _ b (h.fl b hb)⟩
  have hfresh:w.heap.size∉fps.flatten:=fun hc=>by have:=(h.pr q _ (e7 _ hc)).1;omega
  have hdel:DElR (w.alloc (.cells cells e)) F1 ks xs cs0.toList fps:=(Ztj hfit e5).keep hst fun b hb=>Below.heap_alloc w _ b (h.pr q _ (e7 _ hb)).1
  refine ⟨_,_,_,F1,w.heap.size::fps.flatten,hrun,hkk,rfl,rfl,rfl,by simp,fun b hb _=>Below.heap_alloc w _ b hb,fun _ h=>h,fun _ h=>.inl h,fun b hb=>by have:=h1.fl b hb;simp;omega,List.nodup_cons.2 ⟨hfresh,e6⟩,⟨_,rfl,(Za5 hdk).2 ⟨rfl, ?_⟩⟩,fun b hb=> ?_,fun _=>trivial,fun q hq=>by simp[Kd.bdep] at hq⟩
  ·have:=Za4.of_cells (w:=w.alloc (.cells cells e)) (F:=F1) (e:=e) (ks:=ks) (l:=[.agg xs]) (g:=w.heap.size) (cap:=1) (cur:=cells) (f:=[fps]) (heap_alloc_new w _) (Nat.le_refl _) (by simp[maxLen]) (by rw[hcsz];omega) ⟨rfl,by simp[hcsz,hkl],fun i x hx=>by
    cases i with
    |succ i=>simp at hx
    | zero=>
     simp at hx
     subst hx
     refine ⟨.agg cs0,fps,rfl,.inl ⟨xs,cs0,rfl,rfl,hdel⟩,fun j c hc=> ?_⟩
     have hj:j<te.size:=by rw[←hcs];exact (Array.getElem?_eq_some_iff.1 hc).1
     rw[List.getElem?_take,if_pos (by simp;omega),Array.getElem?_toList,Nat.zero_mul,Nat.zero_add,hcell j hj]
     exact hc⟩
   simpa using this
  ·rcases List.mem_cons.1 hb with rfl|hb
   ·exact ⟨.inl (Nat.le_refl _),by simp,fun hc=>by have:=h1.fl _ hc;omega⟩
   ·exact ⟨.inr (hown b hb),by have:=(h1.pr _ b (hown b hb)).1;simp;omega,(h1.pr _ b (hown b hb)).2.1⟩
 ·cases hE
theorem Znn {t ty e:TypeId} {te:TI} {ks:List DK} (ht:P.underlying t=some (.slice e)) (he:TyOk P e te) (hkl:ks.length=te.size) (hsz:te.size≠0) (hby:te.bytes≤32768) {ls lx:List PV} {v vx:Value} {lb lbx:List Nat}
 (hs:Za4 w F e ks ls v lb) (hx:Za4 w F e ks lx vx lbx) (hne:lx≠[]) (hnd:lb.Nodup) (hndx:lbx.Nodup) (hdj:∀b,b∈lb→b∈lbx→False) (hlb:∀b∈lb,b<w.heap.size∧¬F b) (hlbx:∀b∈lbx,b<w.heap.size∧¬F b) (hfl:∀b,F b→b<w.heap.size) (hlen:ls.length+lx.length≤4294967296):
 ∃ (v':Value) (w':World) (lb':List Nat),(Builtin.append_ #[t,t] ty #[v,vx]).run P w=.ok v' w'∧w'.os=w.os∧w'.tape=w.tape∧w'.output=w.output∧w.heap.size≤w'.heap.size∧(∀b,b<w.heap.size→b∉lb→w'.heap[b]?=w.heap[b]?)∧
  Za4 w' F e ks (ls++lx) v' lb'∧lb'.Nodup∧(∀b∈lb',(b∈lb∨b∈lbx∨w.heap.size≤b)∧b<w'.heap.size∧¬F b):=by
 rcases hx.cells with ⟨_,h0,_⟩|⟨gx,capx,curx,fx,rfl,rfl,x3,x4,x5,x6,x7⟩
 ·exact absurd h0 hne
 have hm0:0<lx.length:=List.length_pos_iff.2 hne
 obtain ⟨news,hnews⟩:∃news,curx.toList.take (lx.length * ks.length)=news:=⟨_,rfl⟩
 rw[hnews] at x7
 have hn1:news.length=lx.length * te.size:=by rw[x7.2.1,hkl]
 have hcells:∀(j:Nat) (u:Value),news[j]?=some u→w.cell? ((⟨gx,0,none⟩:Addr).add j)=some u:=fun j u hj=>by
  rw[Addr.add_lit,Nat.zero_add,cell_of_row w gx j curx e (0,0) x3]
  rw[←hnews,List.getElem?_take] at hj
  split at hj
  ·simpa using hj
  ·cases hj
 have hone:=x7.one (by omega)
 obtain ⟨xs,f,hs',hlbf,hxs,hD⟩:∃(xs:List Value) (f:List (List (List Nat))),((v=.slice none 0 0∧ls.length=0)∨∃(g cap:Nat) (cur:Array Value),v=.slice (some ⟨g,0,none⟩) ls.length cap∧w.heap[g]?=some (.cells cur e (0,0))∧ls.length≤cap∧cap≤maxLen∧cur.size=cap * te.size∧cur.toList.take (ls.length * te.size)=xs)∧
  (∀b,b∈(f.map List.flatten).flatten→b∈lb∧∀cap,v≠.slice (some ⟨b,0,none⟩) ls.length cap)∧(f.map List.flatten).flatten.Nodup∧Zct w F ks ls xs f:=by
  rcases hs.cells with ⟨rfl,rfl,rfl⟩|⟨g,cap,cur,f,rfl,rfl,s3,s4,s5,s6,s7⟩
  ·exact ⟨[],[],.inl ⟨rfl,rfl⟩,by simp,by simp,rfl,by simp,fun i x hx=>by simp at hx⟩
  ·refine ⟨cur.toList.take (ls.length * te.size),f,.inr ⟨g,cap,cur,rfl,s3,s4,s5,by rw[s6,hkl],rfl⟩,fun b hb=>⟨List.mem_cons_of_mem _ hb,fun cap' e=> ?_⟩,(List.nodup_cons.1 hnd).2,by rw[←hkl];exact s7⟩
   simp only[Value.slice.injEq,Option.some.injEq,Addr.mk.injEq,and_true,true_and] at e
   exact (List.nodup_cons.1 hnd).1 (e.1▸hb)
 have hxl:xs.length=ls.length * te.size:=by rw[hD.2.1,hkl]
 obtain ⟨w',g',cap',cur',hrun,r1,r2,r3,r4,r5,r6,r7,r8,r9,r10,r11⟩:=ZlZ (P:=P) (w:=w) (ty:=ty) (c:=capx) ht he hsz hby xs news hxl hn1 hm0 hs' hcells hone hlen
 have hx0:=List.nodup_cons.1 hndx
 have hst:Stays w F w' F:=⟨fun _ h=>h,fun b hb=>r11 b (hfl b hb) fun cap hc=>by
  rcases hs' with ⟨hv,_⟩|⟨g,cap2,cur,hv,_⟩
  ·rw[hv] at hc;cases hc
  ·rw [hv] at hc
   simp only[Value.slice.injEq,Option.some.injEq,Addr.mk.injEq,and_true,true_and] at hc
   have hg:g∈lb:=by
    rcases hs.cells with ⟨h1,_⟩|⟨g2,_,_,_,h1,h2,_⟩
    ·rw[hv] at h1;cases h1
    ·rw[hv] at h1
     simp only[Value.slice.injEq,Option.some.injEq,Addr.mk.injEq,and_true,true_and] at h1
     rw[h2,h1.1];exact List.mem_cons_self
   exact (hlb g hg).2 (hc.1▸hb)⟩
 have hDx:Zct w' F ks lx news fx:=x7.keep hst fun b hb=>r11 b (hlbx b (List.mem_cons_of_mem _ hb)).1 fun cap hc=>by
  rcases hs.cells with ⟨h1,_⟩|⟨g2,_,_,_,h1,h2,_⟩
  ·rw[hc] at h1;cases h1
  ·rw[hc] at h1
   simp only[Value.slice.injEq,Option.some.injEq,Addr.mk.injEq,and_true,true_and] at h1
   exact hdj b (by rw[h2,h1.1];exact List.mem_cons_self) (List.mem_cons_of_mem _ hb)
 have hDs:Zct w' F ks ls xs f:=hD.keep hst fun b hb=>r11 b (hlb b (hlbf b hb).1).1 (hlbf b hb).2
 have hdeep:=Za4.of_cells (w:=w') (F:=F) (e:=e) (ks:=ks) (l:=ls++lx) (g:=g') (cap:=cap') (cur:=cur') (f:=f++fx) r5 (by simpa using r6) r7 (by rw[r8,hkl]) (by rw[List.length_append,hkl,r9];exact hDs.append hDx)
 rw[List.length_append] at hdeep
 have hinner:((f++fx).map List.flatten).flatten=(f.map List.flatten).flatten++(fx.map List.flatten).flatten:=by simp
 rw[hinner] at hdeep
 have hg':g'<w'.heap.size:=(Array.getElem?_eq_some_iff.1 r5).1
 have hgn:g'∉(f.map List.flatten).flatten++(fx.map List.flatten).flatten:=fun hc=>by
  rcases List.mem_append.1 hc with hc|hc
  ·rcases r10 with h1|⟨cap,h1⟩
   ·have:=(hlb g' (hlbf g' hc).1).1;omega
   ·exact (hlbf g' hc).2 cap h1
  ·rcases r10 with h1|⟨cap,h1⟩
   ·have:=(hlbx g' (List.mem_cons_of_mem _ hc)).1;omega
   ·rcases hs.cells with ⟨h2,_⟩|⟨g2,_,_,_,h2,h3,_⟩
    ·rw[h1] at h2;cases h2
    ·rw[h1] at h2
     simp only[Value.slice.injEq,Option.some.injEq,Addr.mk.injEq,and_true,true_and] at h2
     exact hdj g' (by rw[h3,h2.1];exact List.mem_cons_self) (List.mem_cons_of_mem _ hc)
 have hgF:¬F g':=fun hc=>by
  rcases r10 with h1|⟨cap,h1⟩
  ·have:=hfl g' hc;omega
  ·rcases hs.cells with ⟨h2,_⟩|⟨g2,_,_,_,h2,h3,_⟩
   ·rw[h1] at h2;cases h2
   ·rw[h1] at h2
    simp only[Value.slice.injEq,Option.some.injEq,Addr.mk.injEq,and_true,true_and] at h2
    exact (hlb g' (by rw[h3,h2.1];exact List.mem_cons_self)).2 hc
 refine ⟨_,w',_,hrun,r1,r2,r3,r4,fun b hb hn=>r11 b hb fun cap hc=> ?_,hdeep,List.nodup_cons.2 ⟨hgn,List.nodup_append.2 ⟨hxs,hx0.2,fun a ha b hb e=> ?_⟩⟩,fun b hb=> ?_⟩
 ·rcases hs.cells with ⟨h2,_⟩|⟨g2,_,_,_,h2,h3,_⟩
  ·rw[hc] at h2;cases h2
  ·rw[hc] at h2
   simp only[Value.slice.injEq,Option.some.injEq,Addr.mk.injEq,and_true,true_and] at h2
   exact hn (by rw[h3,h2.1];exact List.mem_cons_self)
 ·subst e
  exact hdj a (hlbf a ha).1 (List.mem_cons_of_mem _ hb)
 ·rcases List.mem_cons.1 hb with rfl|hb
  ·refine ⟨?_,hg',hgF⟩
   rcases r10 with h1|⟨cap,h1⟩
   ·exact .inr (.inr h1)
   ·rcases hs.cells with ⟨h2,_⟩|⟨g2,_,_,_,h2,h3,_⟩
    ·rw[h1] at h2;cases h2
    ·rw[h1] at h2
     simp only[Value.slice.injEq,Option.some.injEq,Addr.mk.injEq,and_true,true_and] at h2
     exact .inl (by rw[h3,h2.1];exact List.mem_cons_self)
  ·rcases List.mem_append.1 hb with hb|hb
   ·have:=hlb b (hlbf b hb).1
    exact ⟨.inl (hlbf b hb).1,by omega,this.2⟩
   ·have:=hlbx b (List.mem_cons_of_mem _ hb)
    exact ⟨.inr (.inl (List.mem_cons_of_mem _ hb)),by omega,this.2⟩
theorem Zsc {l r:List PV} (h:neL l=some r):r=l∧l≠[]:=by cases l<;>simp[neL] at h;exact ⟨h.symm,by simp⟩
theorem ZoM (hT:TabOk P T) {t t2:TypeId} {s x:Operand} {d:Nat} (hop:o.op=.call {callee:=.builtin .append,args:= #[s,x],argTypes:= #[t,t2]}) (hd:o.dst=some d) (hE:ZlY T d t t2 (sv κ s) (sv κ x)=some E):ZN P o κ E:=by
 have hops:o.op.operands.toList=[s,x]:=by rw[hop];simp[Op.operands,Call.operands]
 unfold ZlY at hE
 split at hE
 case h_1=>cases hE
 rename_i ti hi
 obtain ⟨ht⟩:=hT.ty hi
 split at hE
 case h_2=>cases hE
 rename_i e hds
 have hus:=ZT ht hds
 split at hE
 case h_1=>cases hE
 rename_i te hte
 obtain ⟨he⟩:=hT.ty hte
 split at hE
 case h_2=>cases hE
 rename_i e' sz qx ix hKx hAx
 split at hE
 case isTrue=>cases hE
 rename_i hc
 simp only[not_or,Decidable.not_not] at hc
 obtain ⟨rfl,hsz,hby,rfl,hnb⟩:=hc
 have hby:te.bytes≤32768:=Nat.le_of_not_lt hby
 split at hE
 case h_1=>cases hE
 rename_i ks hdk
 split at hE
 case isTrue=>cases hE
 rename_i hkl
 have hkl:ks.length=te.size:=Classical.byContradiction fun h=>hkl h
 have fin:∀(w0:World) (F0:Nat→Prop) (X0:List Nat) (κ1:List Kd) (σ:List PV) (a:Act) (w:World) (F F1:Nat→Prop) (fp fp1:Nat→List Nat) (kk:PV→Option R) (r:R) (gh:List Gh) (ls lx:List PV) (lb lbx:List Nat),
  St w0 F0 X0 κ σ a.tmps w F fp→St w0 F0 X0 κ1 σ a.tmps w F1 fp1→Za4 w F1 e' ks ls (a.eval s) lb→Za4 w F1 e' ks lx (a.eval x) lbx→lx≠[]→lb.Nodup→lbx.Nodup→(∀b,b∈lb→b∈lbx→False)→(∀b∈lb,b∈fp1 d)→(∀b∈lbx,b∈fp1 d)→(gh=[]→lb=[])→ls.length+lx.length≤4294967296→kk (.lst (ls++lx))=some r→
  ∃ (x:PV) (v:Value) (w':World) (F':Nat→Prop) (l:List Nat),(execOp a.eval o).run P w=.ok (.value v) w'∧kk x=some r∧
   w'.os=w.os∧w'.tape=w.tape∧w'.output=w.output∧w.heap.size≤w'.heap.size∧(∀b,b<w.heap.size→(b∉fp1 d∨gh=[])→w'.heap[b]?=w.heap[b]?)∧
   (∀b,F1 b→F' b)∧(∀b,F' b→F1 b∨w.heap.size≤b∨b∈fp1 d)∧(∀b,F' b→b<w'.heap.size)∧
   l.Nodup∧SR w' F' (.ck (.own true e' sz)) x v l∧(∀b∈l,(w.heap.size≤b∨b∈fp1 d)∧b<w'.heap.size∧¬F' b):=by
  intro w0 F0 X0 κ1 σ a w F F1 fp fp1 kk r gh ls lx lb lbx h h1 hs hx hne hnd hndx hdj hsub hsubx hgh hlen hkk
  obtain ⟨v',w',lb',r1,r2,r3,r4,r5,r6,r7,r8,r9⟩:=Znn (P:=P) (ty:=o.type) hus he hkl hsz hby hs hx hne hnd hndx hdj (fun b hb=>⟨(h1.pr _ b (hsub b hb)).1,(h1.pr _ b (hsub b hb)).2.1⟩) (fun b hb=>⟨(h1.pr _ b (hsubx b hb)).1,(h1.pr _ b (hsubx b hb)).2.1⟩) h1.fl hlen
  have hrun:(execOp a.eval o).run P w=.ok (.value v') w':=by
   obtain ⟨cs,hcs⟩:=Zai (P:=P) hop a.eval w
   rw[hcs]
   simp[builtin]
   rw[r1]
   rfl
  refine ⟨_,v',w',F1,lb',hrun,hkk,r2,r3,r4,r5,fun b hb hbn=>r6 b hb (fun hc=> ?_),fun _ h=>h,fun _ h=>.inl h,fun b hb=>Nat.lt_of_lt_of_le (h1.fl b hb) r5,r8,⟨_,rfl,(Za5 hdk).2 ⟨rfl,r7⟩⟩,fun b hb=> ?_⟩
  ·rcases hbn with hbn|hbn
   ·exact hbn (hsub b hc)
   ·rw[hgh hbn] at hc;cases hc
  ·obtain ⟨t1,t2,t3⟩:=r9 b hb
   refine ⟨?_,t2,t3⟩
   rcases t1 with t1|t1|t1
   ·exact .inr (hsub b t1)
   ·exact .inr (hsubx b t1)
   ·exact .inl t1
 have readX:∀(w0:World) (F0:Nat→Prop) (X0:List Nat) (σ:List PV) (a:Act) (w:World) (F F1:Nat→Prop) (fp:Nat→List Nat) (own:List Nat) (lx:List PV),St w0 F0 X0 κ σ a.tmps w F fp→(∀b,F b→F1 b)→ZaM κ σ x→Zh (sv κ x) (dv κ σ x)=some lx→
  Zff ⟨qx,ix,false,true,e',sz⟩ σ a.tmps w F1 own→∃lbx,Za4 w F1 e' ks lx (a.eval x) lbx∧lbx.Nodup∧(∀b∈lbx,b∈own)∧∀b∈lbx,b∈fp qx:=by
  intro w0 F0 X0 σ a w F F1 fp own lx h hF hlv hlx hg
  obtain ⟨q',i',lb,q1,q2,q3,q4⟩:=ZbA h (x:=x) hlv (l:=lx) hlx hKx
  rw[hAx] at q1
  simp only[Option.some.injEq,Prod.mk.injEq] at q1
  obtain ⟨rfl,rfl⟩:=q1
  obtain ⟨y',v0,l',lb',m1,m2,m3,m4,m5⟩:=hg
  simp only[Bool.false_eq_true,if_false] at m5
  have hv0:=ZcZ h hlv hAx m1
  subst hv0
  have hlb:=q2.lb_eq m3
  subst hlb
  have hrow:=q2.keep (F':=F1) ⟨hF,fun _ _=>rfl⟩ fun _ _=>rfl
  exact ⟨lb,((Za5 hdk).1 hrow).2,q3,m5,q4⟩
 split at hE
 ·rename_i hk
  cases hE
  refine Zb5 hd rfl fun w0 F0 X0 κ1 σ a w F F1 fp fp1 kk r h h1 htt hg hF hall hlv hdy=> ?_
  rw[hops] at hdy
  obtain ⟨z,hz,hkk⟩:=Option.bind_eq_some_iff.1 (show (appD (sv κ s) (sv κ x) (dv κ σ s) (dv κ σ x)).bind kk=some r from hdy)
  obtain ⟨ls,hls,hz⟩:=Option.bind_eq_some_iff.1 hz
  obtain ⟨lx,hlx0,hz⟩:=Option.bind_eq_some_iff.1 hz
  obtain ⟨lxp,hlx,hne0⟩:=Option.bind_eq_some_iff.1 hlx0
  obtain ⟨rfl,hne⟩:=Zsc hne0
  split at hz
  case isFalse=>cases hz
  rename_i hlen
  cases hz
  obtain ⟨l,_,hsr⟩:=h.at' s (by rw[hk];simp)
  rw[hk] at hsr
  obtain ⟨e1,e2,_⟩:=hsr
  have:ls=[]:=by
   unfold Zh at hls
   rw[if_pos (by simp[SV.isV,hk]),e1] at hls
   cases hls;rfl
  subst this
  obtain ⟨lbx,d1,d2,d3,d4⟩:=readX w0 F0 X0 σ a w F F1 fp (fp1 d) lx h hF (Zc hlv (by rw[hops];exact .tail _ (.head _))) hlx (hall _ (List.mem_singleton.2 rfl))
  obtain ⟨x',v',w',F',l',g1,g2,g3,g4,g5,g6,g7,g8,g9,g10,g11,g12,g13⟩:=fin w0 F0 X0 κ1 σ a w F F1 fp fp1 kk r [⟨qx,ix,false,true,e',sz⟩] [] lx [] lbx h h1 (.inl ⟨e2,rfl,rfl⟩) d1 hne List.nodup_nil d2 (by simp) (by simp) d3 (fun _=>rfl) hlen hkk
  exact ⟨x',v',w',F',l',g1,g2,g3,g4,g5,g6,g7,g8,g9,g10,g11,g12,g13,fun _=>trivial,fun q hq=>by simp[Kd.bdep] at hq⟩
 ·split at hE
  case h_2=>cases hE
  rename_i e2 sz2 qs is hKs hAs
  split at hE
  case isFalse=>cases hE
  rename_i hc2
  obtain ⟨rfl,rfl,hqq⟩:=hc2
  cases hE
  refine Zb5 hd rfl fun w0 F0 X0 κ1 σ a w F F1 fp fp1 kk r h h1 htt hg hF hall hlv hdy=> ?_
  rw[hops] at hdy
  obtain ⟨z,hz,hkk⟩:=Option.bind_eq_some_iff.1 (show (appD (sv κ s) (sv κ x) (dv κ σ s) (dv κ σ x)).bind kk=some r from hdy)
  obtain ⟨ls,hls,hz⟩:=Option.bind_eq_some_iff.1 hz
  obtain ⟨lx,hlx0,hz⟩:=Option.bind_eq_some_iff.1 hz
  obtain ⟨lxp,hlx,hne0⟩:=Option.bind_eq_some_iff.1 hlx0
  obtain ⟨rfl,hne⟩:=Zsc hne0
  split at hz
  case isFalse=>cases hz
  rename_i hlen
  cases hz
  have hlS:=Zc hlv (x:=s) (by rw[hops];exact .head _)
  obtain ⟨lbx,d1,d2,d3,d4⟩:=readX w0 F0 X0 σ a w F F1 fp (fp1 d) lx h hF (Zc hlv (by rw[hops];exact .tail _ (.head _))) hlx (hall _ (List.mem_cons_of_mem _ (List.mem_singleton.2 rfl)))
  obtain ⟨q',i',lb,q1,q2,q3,q4⟩:=ZbA h (x:=s) hlS (l:=ls) hls hKs
  rw[hAs] at q1
  simp only[Option.some.injEq,Prod.mk.injEq] at q1
  obtain ⟨rfl,rfl⟩:=q1
  obtain ⟨y',v0,l',lb',m1,m2,m3,m4,m5⟩:=hall _ List.mem_cons_self
  simp only[Bool.false_eq_true,if_false] at m5
  have hv0:=ZcZ h hlS hAs m1
  subst hv0
  have hlb:=q2.lb_eq m3
  subst hlb
  have hrow:=q2.keep (F':=F1) ⟨hF,fun _ _=>rfl⟩ fun _ _=>rfl
  obtain ⟨x',v',w',F',l',g1,g2,g3,g4,g5,g6,g7,g8,g9,g10,g11,g12,g13⟩:=fin w0 F0 X0 κ1 σ a w F F1 fp fp1 kk r [⟨qs,is,false,true,e2,sz2⟩,⟨qx,ix,false,true,e2,sz2⟩] ls lx lb lbx h h1 ((Za5 hdk).1 hrow).2 d1 hne q3 d2 (fun b hb hb'=>h.dj qs qx b hqq (q4 b hb) (d4 b hb')) m5 d3 (fun hc=>by cases hc) hlen hkk
  exact ⟨x',v',w',F',l',g1,g2,g3,g4,g5,g6,g7,g8,g9,g10,g11,g12,g13,fun _=>trivial,fun q hq=>by simp[Kd.bdep] at hq⟩
def Zlb (off:Nat) (el:PV) (lx:List PV):Option PV:=
 match el with
 |.agg xs=>some (.agg (xs.set off (.lst lx)))
 |_=>none
def ZfV (a x:SV) (off:Nat):DV→DV→Option PV:=fun da dx=>
 match da.v with
 |.int _ i=>(Zbw a da).bind fun l=>(l[i.toNat]?).bind fun el=>(Zh x dx).bind fun lx=>(Zlb off el lx).map fun el'=>.lst (l.set i.toNat el')
 |_=>none
def Zh0 {R:Type} (T:Tab) (t:TypeId) (a x:SV):Option (Eff R):=
 match T.lookup t,a.k,Zfj a with
 | some ti,.elm p sz off,some (true,e,szD)=>
  match ZgB szD,Z8 x,ZaJ x with
  | some ks,some (some (true,e2,sz2)),some (qy,iy)=>
   if ks.length=sz∧ks[off]?=some (some (e2,sz2))∧sz2<dB∧ti.size=1∧qy≠p.of then
    match p with
    |.slot q=>some {gh:=[⟨qy,iy,false,true,e2,sz2⟩],tgt:=q,put:=false,k:=.ck (.own true e szD),cut:=.no,dyn:=ZaV (ZfV a x off)}
    | .cell q oo=>match a.pk with
     |.box TT ks0=>some {gh:=[⟨qy,iy,false,true,e2,sz2⟩],tgt:=q,put:=false,k:=.box TT ks0,cut:=.no,dyn:=ZaV (ZjL p a (ZfV a x off))}
     |_=>none
   else none
  |_,_,_=>none
 |_,_,_=>none
theorem ZoN {α:Type} (l:List α) (off:Nat) (z:α) (h:off<l.length):splice l off [z]=l.set off z:=by
 apply List.ext_getElem?
 intro j
 rw[Z5 (by simp only[List.length_singleton];omega),List.getElem?_set]
 by_cases hj:off=j
 ·subst hj;simp[h]
 ·rw[if_neg (by simp;omega),if_neg hj]
theorem Zno {fps:List (List Nat)} (h:fps.flatten.Nodup) {i:Nat} {a:List Nat} (hi:fps[i]?=some a):a.Nodup:=by
 induction fps generalizing i with
 |nil=>simp at hi
 | cons l r ih=>
  simp only[List.flatten_cons] at h
  obtain ⟨h1,h2,_⟩:=List.nodup_append.1 h
  cases i with
  |zero=>simp at hi;subst hi;exact h1
  |succ i=>exact ih h2 (by simpa using hi)
theorem Zbj {fps:List (List Nat)} {i b:Nat} {m:List Nat} (h:b∈(fps.set i m).flatten):b∈(fps.set i []).flatten∨b∈m:=by
 induction fps generalizing i with
 |nil=>simp at h
 | cons l r ih=>
  cases i with
  |zero=>simp only[List.set_cons_zero,List.flatten_cons,List.mem_append,List.nil_append] at h⊢;exact h.symm
  | succ i=>
   simp only[List.set_cons_succ,List.flatten_cons,List.mem_append] at h⊢
   rcases h with h|h
   ·exact .inl (.inl h)
   ·rcases ih h with h|h
    ·exact .inl (.inr h)
    ·exact .inr h
theorem ZdA {fps:List (List Nat)} {i:Nat} {m a:List Nat} (hn:fps.flatten.Nodup) (hi:fps[i]?=some a) (hm:m.Nodup) (hd:∀b∈m,b∈a∨b∉fps.flatten):(fps.set i m).flatten.Nodup:=by
 induction fps generalizing i with
 |nil=>simp at hi
 | cons l r ih=>
  simp only[List.flatten_cons] at hn hd
  obtain ⟨h1,h2,h3⟩:=List.nodup_append.1 hn
  cases i with
  | zero=>
   simp at hi;subst hi
   simp only[List.set_cons_zero,List.flatten_cons]
   refine List.nodup_append.2 ⟨hm,h2,fun x hx y hy e=> ?_⟩
   subst e
   rcases hd x hx with h|h
   ·exact h3 x h x hy rfl
   ·exact h (List.mem_append.2 (.inr hy))
  | succ i=>
   simp only[List.set_cons_succ,List.flatten_cons]
   have hi':r[i]?=some a:=by simpa using hi
   refine List.nodup_append.2 ⟨h1,ih h2 hi' (fun b hb=> ?_),fun x hx y hy e=> ?_⟩
   ·rcases hd b hb with h|h
    ·exact .inl h
    ·exact .inr fun hc=>h (List.mem_append.2 (.inr hc))
   ·subst e
    rcases Zbj hy with hy|hy
    ·exact h3 x hx x (ZM hy) rfl
    ·rcases hd x hy with h|h
     ·exact h3 x hx x (List.mem_flatten.2 ⟨a,List.mem_of_getElem? hi',h⟩) rfl
     ·exact h (List.mem_append.2 (.inl hx))
theorem DElR.set {ks:List DK} {xs:List PV} {vs:List Value} {fps:List (List Nat)} (h:DElR w F ks xs vs fps) {off:Nat} {e:TypeId} {sz:Nat} {lx:List PV} {vy:Value} {lb:List Nat} (hk:ks[off]?=some (some (e,sz))) (hy:Zfh w F true e sz lx vy lb):
 DElR w F ks (xs.set off (.lst lx)) (vs.set off vy) (fps.set off lb):=by
 induction h generalizing off with
 |nil=>simp at hk
 | val h ho ht ih=>
  cases off with
  |zero=>simp at hk
  |succ i=>simp only[List.set_cons_succ];exact .val h ho (ih (by simpa using hk))
 | row h ht ih=>
  cases off with
  |zero=>simp at hk;obtain ⟨rfl,rfl⟩:=hk;simp only[List.set_cons_zero];exact .row hy ht
  |succ i=>simp only[List.set_cons_succ];exact .row h (ih (by simpa using hk))
theorem Zhh {f:List (List (List Nat))} {i:Nat} {m:List (List Nat)}:(f.set i m).map List.flatten=(f.map List.flatten).set i m.flatten:=by simp[List.map_set]
theorem Ztk (h:St w0 F0 X0 κ σ a.tmps w F fp) {x:Operand} (hlx:ZaM κ σ x) {p:Place} {sz off:Nat} {l:List PV} {app:Bool} {e:TypeId} {sz':Nat} (hk:(sv κ x).k=.elm p sz off) (hl:Zbw (sv κ x) (dv κ σ x)=some l) (hK:Zfj (sv κ x)=some (app,e,sz')):
 ∃(i n cap g:Nat) (lb:List Nat),(dv κ σ x).v=.int .i64 i∧i<n∧a.eval x=.pointer (some ⟨g,i * sz+off,none⟩)∧Zal w F app e sz' l (.slice (some ⟨g,0,none⟩) n cap) lb∧lb.Nodup∧(∀b∈lb,b∈fp p.of)∧PlV a.tmps w p (.slice (some ⟨g,0,none⟩) n cap):=by
 have hal:=h.al' x hlx
 rw[hk] at hal
 obtain ⟨i,g,n,cap,e1,e2,e3,e4⟩:=hal
 unfold Zbw at hl
 unfold Zfj at hK
 rw[hk] at hl hK
 cases p with
 | slot q=>
  dsimp only at hl hK
  have hk':kOp κ x=.elm (.slot q) sz off:=hk
  split at hK
  case h_2=>cases hK
  rename_i a' e' s' hpk
  cases hK
  rw[hpk] at hl
  dsimp only at hl
  have hq:kd κ q=.ck (.own app e sz'):=by simpa[sv,hk',Kd.dep,Place.of] using hpk
  obtain ⟨lb,hn,hsub,hsr⟩:=h.sr q
  rw[hq] at hsr
  obtain ⟨l',ex,hrow⟩:=hsr
  have e5:(dv κ σ x).pv=.lst l':=by simpa[dv,hk',Kd.dep,Place.of] using ex
  rw[e5] at hl
  cases hl
  have e3':tv a.tmps q=.slice (some ⟨g,0,none⟩) n cap:=e3
  rw[e3'] at hrow
  exact ⟨i,n,cap,g,lb,e1,e2,e4,hrow,hn,hsub,e3⟩
 | cell q oo=>
  dsimp only at hl hK
  have hk':kOp κ x=.elm (.cell q oo) sz off:=hk
  split at hK
  case h_2=>cases hK
  rename_i a' e' s' hpk
  cases hK
  rw[hpk] at hl
  dsimp only at hl
  obtain ⟨TT,ks,hbox,hks⟩:=ZcP hpk
  have hq:kd κ q=.box TT ks:=by simpa[sv,hk',Kd.dep,Place.of] using hbox
  obtain ⟨lb,hn,hsub,hsr⟩:=h.sr q
  rw[hq] at hsr
  obtain ⟨b0,cs,xs,fps,ev,ex,hheap,hgrp,rfl⟩:=hsr
  obtain ⟨y,v,lb',hx,hv',hfi,hcr⟩:=hgrp.ks_at hks
  obtain ⟨l',rfl,hrow⟩:=hcr
  have e5:(dv κ σ x).pv=.agg xs:=by simpa[dv,hk',Kd.dep,Place.of] using ex
  rw[e5] at hl
  simp only[PV.cells,hx,Option.bind_some] at hl
  cases hl
  obtain ⟨b,hb1,hb2⟩:=e3
  rw[ev] at hb1
  simp at hb1
  subst hb1
  have hb3:=hb2
  rw[cell_of_row w b0 oo cs TT (0,0) hheap] at hb2
  have e6:v=.slice (some ⟨g,0,none⟩) n cap:=by
   have:cs[oo]?=some v:=by simpa using hv'
   rw[this] at hb2
   exact Option.some.inj hb2
  rw[e6] at hrow
  have hmem:∀b∈lb',b∈fps.flatten:=fun b hb=>List.mem_flatten.2 ⟨lb',List.mem_of_getElem? hfi,hb⟩
  exact ⟨i,n,cap,g,lb',e1,e2,e4,hrow,Zno (List.nodup_cons.1 hn).2 hfi,fun b hb=>hsub b (List.mem_cons_of_mem _ (hmem b hb)),⟨b0,ev,hb3⟩⟩
theorem Za4.store {e:TypeId} {ks:List DK} {l:List PV} {g n cap:Nat} {lb:List Nat} (h:Za4 w F e ks l (.slice (some ⟨g,0,none⟩) n cap) lb) (hn:lb.Nodup) (hnF:∀b∈lb,¬F b) {i off:Nat} {xs:List PV} (hi:l[i]?=some (.agg xs)) {e2:TypeId} {sz2:Nat} (hk:ks[off]?=some (some (e2,sz2)))
 {lx:List PV} {vy:Value} {lby:List Nat} (hy:Zfh w F true e2 sz2 lx vy lby) (hny:lby.Nodup) (hdj:∀b∈lby,b∉lb):
 ∃ (cur:Array Value) (lb':List Nat),w.heap[g]?=some (.cells cur e (0,0))∧i * ks.length+off<cur.size∧g∈lb∧n=l.length∧
  Za4 (w.setRow g (cur.toList.set (i * ks.length+off) vy).toArray) F e ks (l.set i (.agg (xs.set off (.lst lx)))) (.slice (some ⟨g,0,none⟩) n cap) lb'∧lb'.Nodup∧∀b∈lb',b∈lb∨b∈lby:=by
 rcases h with ⟨h1,_⟩|⟨g',cap',cur,f,h1,rfl,h3,h4,h5,h6,h7,h8⟩
 ·simp at h1
 simp only[Value.slice.injEq,Option.some.injEq,Addr.mk.injEq,and_true,true_and] at h1
 obtain ⟨rfl,rfl,rfl⟩:=h1
 obtain ⟨hgn,hfn⟩:=List.nodup_cons.1 hn
 have hil:=(List.getElem?_eq_some_iff.1 hi).1
 have hoff:off<ks.length:=(List.getElem?_eq_some_iff.1 hk).1
 have hpos:i * ks.length+off<cur.size:=by
  have:(i+1) * ks.length≤cap * ks.length:=Nat.mul_le_mul_right _ (by omega)
  rw[Nat.succ_mul] at this
  omega
 obtain ⟨u,fps,m1,m2,m3⟩:=h8 i _ hi
 have hgy:g∉lby:=fun hc=>hdj g hc List.mem_cons_self
 have hfi:(f.map List.flatten)[i]?=some fps.flatten:=by rw[List.getElem?_map,m1];rfl
 have hfpsub:∀b∈fps.flatten,b∈(f.map List.flatten).flatten:=fun b hb=>List.mem_flatten.2 ⟨_,List.mem_of_getElem? hfi,hb⟩
 have hst:Stays w F (w.setRow g (cur.toList.set (i * ks.length+off) vy).toArray) F:=⟨fun _ h=>h,fun c hc=>setRow_other w g c _ (fun e=>hnF g List.mem_cons_self (e▸hc))⟩
 obtain ⟨cs,rfl,hel⟩:∃cs:Array Value,u=.agg cs∧DElR w F ks xs cs.toList fps:=by
  rcases m2 with ⟨xs',cs,q1,q2,q3⟩|⟨q1,_⟩
  ·cases q1;exact ⟨cs,q2,q3⟩
  ·simp[PV.one] at q1
 have hcs:cs.size=ks.length:=by simpa using hel.lens.2.1
 have hflen:fps.length=ks.length:=hel.lens.2.2
 obtain ⟨a0,ha0⟩:∃a0,fps[off]?=some a0:=⟨_,List.getElem?_eq_getElem (by omega)⟩
 have hfpn:fps.flatten.Nodup:=Zno hfn hfi
 have hset:((f.set i (fps.set off lby)).map List.flatten).flatten.Nodup:=by
  rw[Zhh]
  refine ZdA hfn hfi (ZdA hfpn ha0 hny fun b hb=>.inr fun hc=>hdj b hb (List.mem_cons_of_mem _ (hfpsub b hc))) fun b hb=> ?_
  rcases Zbj hb with hb|hb
  ·exact .inl (ZM hb)
  ·exact .inr fun hc=>hdj b hb (List.mem_cons_of_mem _ hc)
 have hsub:∀b∈((f.set i (fps.set off lby)).map List.flatten).flatten,b∈(f.map List.flatten).flatten∨b∈lby:=fun b hb=>by
  rw[Zhh] at hb
  rcases Zbj hb with hb|hb
  ·exact .inl (ZM hb)
  ·rcases Zbj hb with hb|hb
   ·exact .inl (hfpsub b (ZM hb))
   ·exact .inr hb
 have hgn':g∉((f.set i (fps.set off lby)).map List.flatten).flatten:=fun hc=>by
  rcases hsub g hc with hc|hc
  ·exact hgn hc
  ·exact hgy hc
 refine ⟨cur,g::((f.set i (fps.set off lby)).map List.flatten).flatten,h3,hpos,List.mem_cons_self,rfl,.inr ⟨g,cap,(cur.toList.set (i * ks.length+off) vy).toArray,f.set i (fps.set off lby),by simp,rfl,setRow_heap w g cur _ e (0,0) h3,by simpa using h4,h5,by simpa using h6,by simpa using h7,fun j z hz=> ?_⟩,List.nodup_cons.2 ⟨hgn',hset⟩,fun b hb=> ?_⟩
 ·have hother:∀fps':List (List Nat),(∀b∈fps'.flatten,b∈(f.map List.flatten).flatten∨b∈lby)→∀b∈fps'.flatten,(w.setRow g (cur.toList.set (i * ks.length+off) vy).toArray).heap[b]?=w.heap[b]?:=fun fps' hs b hb=>setRow_other w g b _ fun e=>by
   subst e
   rcases hs b hb with h|h
   ·exact hgn h
   ·exact hgy h
  rw[List.getElem?_set] at hz
  by_cases hj:i=j
  ·subst hj
   rw[if_pos rfl,if_pos hil] at hz
   cases hz
   have hd:=hel.set hk hy
   refine ⟨.agg (cs.toList.set off vy).toArray,fps.set off lby,by rw[List.getElem?_set,if_pos rfl,if_pos (by omega)],.inl ⟨_,_,rfl,rfl,hd.keep hst (hother _ fun b hb=> ?_)⟩,fun j' c hc=> ?_⟩
   ·rcases Zbj hb with hb|hb
    ·exact .inl (hfpsub b (ZM hb))
    ·exact .inr hb
   ·have hc':(cs.toList.set off vy)[j']?=some c:=by simpa[Value.cells] using hc
    rw[List.getElem?_set] at hc'
    rw[List.getElem?_toArray,List.getElem?_set]
    by_cases ho:off=j'
    ·subst ho
     rw[if_pos rfl,if_pos (by simpa using hcs▸hoff)] at hc'
     rw[if_pos rfl,if_pos (by simpa using hpos)]
     exact hc'
    ·rw[if_neg ho] at hc'
     rw[if_neg (by omega)]
     simpa using m3 j' c (by simpa[Value.cells] using hc')
  ·rw [if_neg hj] at hz
   obtain ⟨u',fps',q1,q2,q3⟩:=h8 j z hz
   have hfj:(f.map List.flatten)[j]?=some fps'.flatten:=by rw[List.getElem?_map,q1];rfl
   refine ⟨u',fps',by rw[List.getElem?_set,if_neg hj];exact q1,q2.keep hst (hother _ fun b hb=>.inl (List.mem_flatten.2 ⟨_,List.mem_of_getElem? hfj,hb⟩)),fun j' c hc=> ?_⟩
   have hc':=q3 j' c hc
   have hjs:j'<ks.length:=by have:=(Array.getElem?_eq_some_iff.1 hc).1;rw[q2.size] at this;exact this
   have hne:i * ks.length+off≠j * ks.length+j':=fun he=>by
    rcases Nat.lt_or_ge i j with h1|h1
    ·have:(i+1) * ks.length≤j * ks.length:=Nat.mul_le_mul_right _ h1
     rw[Nat.succ_mul] at this
     omega
    ·have:(j+1) * ks.length≤i * ks.length:=Nat.mul_le_mul_right _ (by omega)
     rw[Nat.succ_mul] at this
     omega
   rw[List.getElem?_toArray,List.getElem?_set,if_neg hne]
   simpa using hc'
 ·rcases List.mem_cons.1 hb with rfl|hb
  ·exact .inl List.mem_cons_self
  ·rcases hsub b hb with h|h
   ·exact .inl (List.mem_cons_of_mem _ h)
   ·exact .inr h
theorem ZpZ {tgt q:Nat} {g:Gh} {κ κ1:List Kd} (h:Zac tgt [g] κ=some κ1) (hq:g.s≠q) (hb:(kd κ1 q).isBox=true):(kd κ q).isBox=true:=by
 unfold Zac at h
 obtain ⟨κ2,h1,h2⟩:=Option.bind_eq_some_iff.1 h
 unfold Zac at h2
 cases h2
 unfold Gh.act at h1
 split at h1
 ·cases h1
 split at h1
 case isFalse=>cases h1
 rename_i hlt
 obtain ⟨k,hk,rfl⟩:=Option.map_eq_some_iff.1 h1
 rw[ZbI κ g.s q g.cut k hlt,if_neg (fun e=>hq e.symm)] at hb
 split at hb
 ·cases hb
 ·exact hb
theorem Zl1 (hT:TabOk P T) {t:TypeId} {x y:Operand} (hop:o.op=.store t x y) (hd:o.dst=none) (hE:Zh0 T t (sv κ x) (sv κ y)=some E):ZN P o κ E:=by
 have hops:o.op.operands.toList=[x,y]:=by rw[hop];rfl
 unfold Zh0 at hE
 split at hE
 case h_2=>cases hE
 rename_i ti p sz off e szD hti hk hK
 obtain ⟨ht⟩:=hT.ty hti
 split at hE
 case h_2=>cases hE
 rename_i ks e2 sz2 qy iy hdk hKy hAy
 split at hE
 case isFalse=>cases hE
 rename_i hc
 obtain ⟨rfl,hko,hsm,hts,hqq⟩:=hc
 have hfl2:=Zaa hsm
 have main:∀(w0:World) (F0:Nat→Prop) (X0:List Nat) (σ:List PV) (a:Act) (w:World) (F F1:Nat→Prop) (fp fp1:Nat→List Nat) (κ1:List Kd) (z:PV),St w0 F0 X0 κ σ a.tmps w F fp→St w0 F0 X0 κ1 σ a.tmps w F1 fp1→(∀b,F b→F1 b)→(∀b∈fp p.of,b∈fp1 p.of)→Zff ⟨qy,iy,false,true,e2,sz2⟩ σ a.tmps w F1 (fp1 p.of)→ZaM κ σ x→ZaM κ σ y→ZfV (sv κ x) (sv κ y) off (dv κ σ x) (dv κ σ y)=some z→
  ∃ (l l':List PV) (w':World) (g n cap:Nat) (lb lb':List Nat),z=.lst l'∧(execOp a.eval o).run P w=.ok .skip w'∧w'.os=w.os∧w'.tape=w.tape∧w'.output=w.output∧w'.heap.size=w.heap.size∧g∈lb∧(∀b,b≠g→w'.heap[b]?=w.heap[b]?)∧Zbw (sv κ x) (dv κ σ x)=some l∧
   PlV a.tmps w p (.slice (some ⟨g,0,none⟩) n cap)∧Zal w F true e szD l (.slice (some ⟨g,0,none⟩) n cap) lb∧Zal w' F1 true e szD l' (.slice (some ⟨g,0,none⟩) n cap) lb'∧lb'.Nodup∧(∀b∈lb,b∈fp p.of)∧(∀b∈lb',b∈lb∨(b∈fp1 p.of∧b∉fp p.of)):=by
  intro w0 F0 X0 σ a w F F1 fp fp1 κ1 z h h1 hF hfp hgiv hlx hly hz
  unfold ZfV at hz
  split at hz
  case h_2=>cases hz
  rename_i k i hvi
  obtain ⟨l,hl,hz⟩:=Option.bind_eq_some_iff.1 hz
  obtain ⟨el,hel,hz⟩:=Option.bind_eq_some_iff.1 hz
  obtain ⟨lx,hlx',hz⟩:=Option.bind_eq_some_iff.1 hz
  obtain ⟨el',hel',rfl⟩:=Option.map_eq_some_iff.1 hz
  obtain ⟨xs,rfl,rfl⟩:∃xs,el=.agg xs∧el'=.agg (xs.set off (.lst lx)):=by
   unfold Zlb at hel'
   split at hel'
   ·cases hel';exact ⟨_,rfl,rfl⟩
   ·cases hel'
  obtain ⟨i',n,cap,g,lb,g1,g2,g3,g4,g5,g6,g7⟩:=Ztk h hlx hk hl hK
  rw[hvi] at g1
  simp only[PV.int.injEq] at g1
  obtain ⟨_,rfl⟩:=g1
  simp only[Int.toNat_natCast] at hel
  obtain ⟨q',i'',lby,q1,q2,q3,q4⟩:=ZbA h (x:=y) hly (l:=lx) hlx' hKy
  rw[hAy] at q1
  simp only[Option.some.injEq,Prod.mk.injEq] at q1
  obtain ⟨rfl,rfl⟩:=q1
  obtain ⟨y',v0,l0,lb0,m1,m2,m3,m4,m5⟩:=hgiv
  simp only[Bool.false_eq_true,if_false] at m5
  have hv0:=ZcZ h hly hAy m1
  subst hv0
  have hlb:=q2.lb_eq m3
  subst hlb
  have hst1:Stays w F w F1:=⟨hF,fun _ _=>rfl⟩
  have hdeep:=((Za5 hdk).1 g4).2
  obtain ⟨_,hd2⟩:=(Za5 hdk).1 (g4.keep hst1 fun _ _=>rfl)
  have hy1:=(Zr hfl2).1 (q2.keep hst1 fun _ _=>rfl)
  have hdj:∀b∈lby,b∉fp p.of:=fun b hb hc=>h.dj _ _ b hqq (q4 b hb) hc
  obtain ⟨cur,lb',s1,s2,s3,s4,s5,s6,s7⟩:=hd2.store g5 (fun b hb=>(h1.pr _ b (hfp b (g6 b hb))).2.1) hel hko hy1 q3 (fun b hb hc=>hdj b hb (g6 b hc))
  obtain ⟨A,c,hsl⟩:=hy1.slice_eq
  have hcells:(a.eval y).cells= #[a.eval y]:=by rw[hsl];rfl
  have hrun:=Zcz (P:=P) ht (g:=g) (off:=i' * ks.length+off) (v:=a.eval y) s1 (.inl (Nat.le_refl _)) (by rw[hcells,hts];rfl) (by omega) (by rw[hcells,hsl];simp[Value.oneCell'])
  have hspl:splice cur.toList (i' * ks.length+off) (a.eval y).cells.toList=cur.toList.set (i' * ks.length+off) (a.eval y):=by
   rw[hcells]
   exact ZoN _ _ _ (by simpa using s2)
  rw[hspl] at hrun
  refine ⟨l,_,w.setRow g (cur.toList.set (i' * ks.length+off) (a.eval y)).toArray,g,n,cap,lb,lb',rfl,ZcS hop (by rw[g3];exact hrun),rfl,rfl,rfl,ZbX _ _ _,s3,fun b hb=>setRow_other w g b _ hb,hl,g7,g4,(Za5 hdk).2 ⟨rfl, ?_⟩,s6,g6,fun b hb=> ?_⟩
  ·simpa using s5
  ·rcases s7 b hb with hb|hb
   ·exact .inl hb
   ·exact .inr ⟨m5 b hb,hdj b hb⟩
 split at hE
 ·rename_i q
  cases hE
  refine ZdC hd rfl fun w0 F0 X0 κ1 σ a w F F1 fp fp1 kk r h h1 htt hg hF hfp hall hlv hdy=> ?_
  have hdy':((ZfV (sv κ x) (sv κ y) off (dv κ σ x) (dv κ σ y)).bind kk)=some r:=by rw[hops] at hdy;exact hdy
  obtain ⟨z,hz,hkk⟩:=Option.bind_eq_some_iff.1 hdy'
  obtain ⟨l,l',w',g,n,cap,lb,lb',rfl,r1,r2,r3,r4,r5,r6,r7,r8,r9,r10,r11,r12,r13,r14⟩:=main w0 F0 X0 σ a w F F1 fp fp1 κ1 z h h1 hF hfp (hall _ (List.mem_singleton.2 rfl)) (Zc hlv (by rw[hops];exact .head _)) (Zc hlv (by rw[hops];exact .tail _ (.head _))) hz
  have e1:tv a.tmps q=.slice (some ⟨g,0,none⟩) n cap:=r9
  have hgq:g∈fp1 q:=hfp g (r13 g r6)
  refine ⟨_,w',lb',r1,hkk,r2,r3,r4,r5,fun b _ hbn=>r7 b (fun e=>hbn (e▸hgq)),r12,⟨l',rfl,by rw[e1];exact r11⟩,fun b hb=> ?_,rfl,fun hbx=> ?_⟩
  ·rcases r14 b hb with hb|hb
   ·exact hfp b (r13 b hb)
   ·exact hb.1
  ·exfalso
   have hk':kOp κ x=.elm (.slot q) ks.length off:=hk
   have hbx':(kd κ q).isBox=true:=ZpZ hg hqq hbx
   unfold Zfj at hK
   rw[hk] at hK
   dsimp only at hK
   split at hK
   case h_2=>cases hK
   rename_i a' e' s' hpk
   have hq:kd κ q=.ck (.own a' e' s'):=by simpa[sv,hk',Kd.dep,Place.of] using hpk
   rw[hq] at hbx'
   cases hbx'
 ·rename_i q oo
  split at hE
  case h_2=>cases hE
  rename_i TT ks0 hpk
  cases hE
  refine ZdC hd rfl fun w0 F0 X0 κ1 σ a w F F1 fp fp1 kk r h h1 htt hg hF hfp hall hlv hdy=> ?_
  have hk':kOp κ x=.elm (.cell q oo) ks.length off:=hk
  have hq:kd κ q=.box TT ks0:=by simpa[sv,hk',Kd.dep,Place.of] using hpk
  have hdy':(((ZfV (sv κ x) (sv κ y) off (dv κ σ x) (dv κ σ y)).map fun y'=>PV.agg ((dv κ σ x).pv.cells.set oo y')).bind kk)=some r:=by rw[hops] at hdy;exact hdy
  obtain ⟨z,hz,hkk⟩:=Option.bind_eq_some_iff.1 hdy'
  obtain ⟨z',hz',rfl⟩:=Option.map_eq_some_iff.1 hz
  obtain ⟨l,l',w',g,n,cap,lb,lb',rfl,r1,r2,r3,r4,r5,r6,r7,r8,r9,r10,r11,r12,r13,r14⟩:=main w0 F0 X0 σ a w F F1 fp fp1 κ1 z' h h1 hF hfp (hall _ (List.mem_singleton.2 rfl)) (Zc hlv (by rw[hops];exact .head _)) (Zc hlv (by rw[hops];exact .tail _ (.head _))) hz'
  obtain ⟨lbq,hn,hsub,hsr⟩:=h.sr q
  rw[hq] at hsr
  obtain ⟨b0,cs,xs,fps,ev,ex,hheap,hgrp,rfl⟩:=hsr
  have e2':(dv κ σ x).pv=.agg xs:=by simpa[dv,hk',Kd.dep,Place.of] using ex
  rw[e2'] at hkk
  obtain ⟨b1,t1,t2⟩:=r9
  rw[ev] at t1
  simp at t1
  subst t1
  rw[cell_of_row w b0 oo cs TT (0,0) hheap] at t2
  have hks:ks0[oo]?=some (.own true e szD):=by
   unfold Zfj at hK
   rw[hk] at hK
   dsimp only at hK
   split at hK
   case h_2=>cases hK
   rename_i a' e' s' hpk'
   cases hK
   obtain ⟨T2,ks2,hb2,hk2⟩:=ZcP hpk'
   rw[hpk] at hb2
   cases hb2
   exact hk2
  obtain ⟨y0,v0,lb0,hx0,hv0,hf0,hcr0⟩:=hgrp.ks_at hks
  obtain ⟨l00,rfl,hrow0⟩:=hcr0
  have hv0':v0=.slice (some ⟨g,0,none⟩) n cap:=by
   have:cs[oo]?=some v0:=by simpa using hv0
   rw[this] at t2
   exact Option.some.inj t2
  subst hv0'
  have hlb0:lb0=lb:=hrow0.lb_eq r10
  subst hlb0
  have hmem:∀b∈lb0,b∈fps.flatten:=fun b hb=>List.mem_flatten.2 ⟨lb0,List.mem_of_getElem? hf0,hb⟩
  have hgf:g∈fps.flatten:=hmem g r6
  obtain ⟨hn0,hn1⟩:=List.nodup_cons.1 hn
  have hb0g:b0≠g:=fun e=>hn0 (e▸hgf)
  have hgq:g∈fp1 q:=hfp g (r13 g r6)
  have hst1:Stays w F w F1:=⟨hF,fun _ _=>rfl⟩
  have hst:Stays w F1 w' F1:=⟨fun _ h=>h,fun c hc=>r7 c (fun e=>(h1.pr _ g hgq).2.1 (e▸hc))⟩
  have hgrp':GrpR w' F1 true ks0 (xs.set oo (.lst l')) cs.toList (fps.set oo lb'):=by
   have hw:=(hgrp.keep hst1 fun _ _=>rfl).weak (c:=.none) hx0 hv0 rfl
   have hw2:=hw.keep hst (fun c hc=>r7 c (fun e=>Zaf hn1 hf0 r6 (e▸hc)))
   have hw3:=hw2.set oo (k:=.own true e szD) (x:=.lst l') (v:=.slice (some ⟨g,0,none⟩) n cap) (fp:=lb') ⟨l',rfl,r11⟩ (fun _=>rfl)
   have s1:(ks0.set oo CK.none).set oo (.own true e szD)=ks0:=by
    rw[List.set_set]
    apply List.ext_getElem?
    intro j
    rw[List.getElem?_set]
    by_cases ej:oo=j
    ·subst ej;rw[hks];simp[(List.getElem?_eq_some_iff.1 hks).1]
    ·simp[ej]
   have s2:cs.toList.set oo (.slice (some ⟨g,0,none⟩) n cap)=cs.toList:=by
    apply List.ext_getElem?
    intro j
    rw[List.getElem?_set]
    by_cases ej:oo=j
    ·subst ej;have hlt:=(List.getElem?_eq_some_iff.1 hv0).1;rw[hv0];simpa using hlt
    ·simp[ej]
   rw[s1,s2,List.set_set] at hw3
   exact hw3
  have hb0q:b0∈fp q:=hsub b0 List.mem_cons_self
  have hsub':∀b∈fps.flatten,b∈fp q:=fun b hb=>hsub b (List.mem_cons_of_mem _ hb)
  refine ⟨_,w',b0::(fps.set oo lb').flatten,r1,hkk,r2,r3,r4,r5,fun b _ hbn=>r7 b (fun e=>hbn (e▸hgq)),List.nodup_cons.2 ⟨fun hc=> ?_,ZdA hn1 hf0 r12 fun b hb=> ?_⟩,⟨b0,cs,_,_,ev,rfl,by rw[r7 b0 hb0g];exact hheap,hgrp',rfl⟩,fun b hb=> ?_,rfl,fun _=>⟨rfl,fun k y' u hk hcut hal=> ?_⟩⟩
  ·rcases Zbj hc with hc|hc
   ·exact hn0 (ZM hc)
   ·rcases r14 b0 hc with hc|hc
    ·exact hn0 (hmem b0 hc)
    ·exact hc.2 hb0q
  ·rcases r14 b hb with hb|hb
   ·exact .inl hb
   ·exact .inr fun hc=>hb.2 (hsub' b hc)
  ·rcases List.mem_cons.1 hb with rfl|hb
   ·exact hfp _ hb0q
   ·rcases Zbj hb with hb|hb
    ·exact hfp b (hsub' b (ZM hb))
    ·rcases r14 b hb with hb|hb
     ·exact hfp b (r13 b hb)
     ·exact hb.1
  have cell:∀o2 (v:Value),(∃b',tv a.tmps q=.pointer (some ⟨b',0,none⟩)∧w.cell? ⟨b',o2,none⟩=some v)→∃b',tv a.tmps q=.pointer (some ⟨b',0,none⟩)∧w'.cell? ⟨b',o2,none⟩=some v:=by
   rintro o2 v ⟨b',hb1,hb2⟩
   rw[ev] at hb1
   simp at hb1
   subst hb1
   exact ⟨b0,ev,(World.cell?_of_block (w:=w) (a:=⟨b0,o2,none⟩) (r7 b0 hb0g)).trans hb2⟩
  cases k with
  | ali p'=>
   cases p' with
   |slot q'=>simp[Kd.bdep] at hk
   |cell q' o2=>simp only[Kd.bdep,Option.some.injEq] at hk;subst hk;exact cell o2 u hal
  | elm p' sz'' o'=>
   cases p' with
   |slot q'=>simp[Kd.bdep] at hk
   | cell q' o2=>
    simp only[Kd.bdep,Option.some.injEq] at hk
    subst hk
    obtain ⟨i,b',m,cap',u1,u2,u3,u4⟩:=hal
    exact ⟨i,b',m,cap',u1,u2,cell o2 _ u3,u4⟩
  |bxf q' o'=>obtain ⟨b',u1,u2⟩:=hal;exact ⟨b',u1,u2⟩
  | gal q' n'=>
   simp only[Kd.bdep,Option.some.injEq] at hk
   subst hk
   obtain ⟨cs',u1,u2,u3⟩:=hal
   exact ⟨cs',u1,u2,fun j c hc=>cell j c (u3 j c hc)⟩
  |ck c=>simp[Kd.bdep] at hk
  |box T ks=>simp[Kd.bdep] at hk
  |grp t ks=>simp[Kd.bdep] at hk
  |ipt=>simp[Kd.bdep] at hk
  |clo f=>simp[Kd.bdep] at hk
  |cln f=>simp[Kd.bdep] at hk
  |mp kt et=>simp[Kd.bdep] at hk
  |mbx s=>simp[Kd.bdep] at hk
  |tl q=>simp[Kd.bdep] at hk
  |tt=>simp[Kd.bdep] at hk
  |tgr sh ks=>simp[Kd.bdep] at hk
  |tip=>simp[Kd.bdep] at hk
theorem ZoO {t:TypeId} {ti:TI} (ht:TyOk P t ti) {x y:Operand} (hop:o.op=.store t x y) (hlx:ZaM κ σ x) {p:Place} {off:Nat} {l:List PV} {app:Bool} {e:TypeId} {sz:Nat} (h:St w0 F0 X0 κ σ a.tmps w F fp) (hF:∀b,F b→F1 b) (hnF:∀b∈fp p.of,¬F1 b)
 (hk:(sv κ x).k=.elm p sz off) (hl:Zbw (sv κ x) (dv κ σ x)=some l) (hK:Zfj (sv κ x)=some (app,e,sz)) (hfl:ZgB sz=none) {yv:PV} (hvy:VR w F1 yv (a.eval y)) {i:Nat} {k:IntKind} (hi:(dv κ σ x).v=.int k i) {el el':PV} (hel:l[i]?=some el) (hel':ZcY off ti.size el.cells el yv=some el'):
 ∃ (w':World) (g cap:Nat) (cur':Array Value) (fr:Nat×Nat),(execOp a.eval o).run P w=.ok .skip w'∧w'.os=w.os∧w'.tape=w.tape∧w'.output=w.output∧w'.heap.size=w.heap.size∧g∈fp p.of∧(∀b,b≠g→w'.heap[b]?=w.heap[b]?)∧
  PlV a.tmps w p (.slice (some ⟨g,0,none⟩) l.length cap)∧Zal w' F1 app e sz (l.set i el') (.slice (some ⟨g,0,none⟩) l.length cap) [g]:=by
 obtain ⟨i',n,cap,g,cur,fr,lb,g1,g2,g3,g4,g5,g6,g7,g8,g9,g10,g11,g12⟩:=ZfY h hlx hk hl hK hfl
 rw[hi] at g1
 simp only[PV.int.injEq] at g1
 have hii:i=i':=by omega
 subst hii
 unfold ZcY at hel'
 obtain ⟨cl,hcl,hel'⟩:=Option.bind_eq_some_iff.1 hel'
 split at hel'
 case isFalse=>cases hel'
 rename_i hle
 cases hel'
 obtain ⟨rfl,c1,c2,c3⟩:=Za8 hcl
 have hv:=hvy
 have hst0:Stays w F w F1:=⟨hF,fun _ _=>rfl⟩
 obtain ⟨v1,v2⟩:=hv.cells c3
 obtain ⟨k1,k2,u,k3,k4⟩:=g10 i el hel
 replace k3:=k3.keep hst0
 obtain ⟨u1,u2⟩:=k3.cells k2
 have hsz:el.cells.length=sz:=by rw[PV.length_cells];exact k1
 have hcap:(i+1) * sz≤cap * sz:=Nat.mul_le_mul_right _ (by omega)
 rw[Nat.succ_mul] at hcap
 have hrun:=Zcz (P:=P) ht (g:=g) (off:=i * sz+off) (v:=a.eval y) g4 g5 (by omega) (by omega) (hv.store c3)
 have hvl:(a.eval y).cells.toList.length=ti.size:=by simp;omega
 have hspl:i * sz+off+(a.eval y).cells.toList.length≤cur.toList.length:=by simp only[Array.length_toList] at hvl⊢;omega
 have hst:Stays w F1 (w.setRow g (splice cur.toList (i * sz+off) (a.eval y).cells.toList).toArray) F1:=⟨fun _ h=>h,fun c hc=>setRow_other w g c _ (fun e=>hnF g g11 (e▸hc))⟩
 refine ⟨w.setRow g (splice cur.toList (i * sz+off) (a.eval y).cells.toList).toArray,g,cap,(splice cur.toList (i * sz+off) (a.eval y).cells.toList).toArray,fr,ZcS hop (by rw[g3];exact hrun),rfl,rfl,rfl,ZbX _ _ _,g11,fun b hb=>setRow_other w g b _ hb,g12,(Zr hfl).2<| .inr ⟨g,cap,_,fr,by simp,rfl,setRow_heap w g cur _ e fr g4,g6,by simpa[Z3 hspl] using g5,by simpa using g7,g8,by simp only[List.size_toArray];rw[Z3 hspl];simpa using g9,fun j z hz=> ?_⟩⟩
 rw[List.getElem?_set] at hz
 by_cases hj:i=j
 ·subst hj
  have hlt:i<l.length:=g2
  simp[hlt] at hz
  subst hz
  have hul:u.cells.toList.length=sz:=by simp;omega
  have hsu:off+(a.eval y).cells.toList.length≤u.cells.toList.length:=by omega
  have hcells:∀(j:Nat) (c:Value),(splice u.cells.toList off (a.eval y).cells.toList)[j]?=some c→(splice cur.toList (i * sz+off) (a.eval y).cells.toList)[i * sz+j]?=some c:=by
   intro j c hc
   rw[Z5 hspl]
   rw[Z5 hsu] at hc
   by_cases hin:off≤j∧j<off+(a.eval y).cells.toList.length
   ·rw[if_pos hin] at hc
    rw[if_pos (by omega)]
    rw[show i * sz+j - (i * sz+off)=j - off from by omega]
    exact hc
   ·rw[if_neg hin] at hc
    rw[if_neg (by omega)]
    have:=k4 j c (by simpa using hc)
    simpa using this
  have hread:∀(j:Nat) (z:PV),(splice el.cells off yv.cells)[j]?=some z→z.one=true∧VR (w.setRow g (splice cur.toList (i * sz+off) (a.eval y).cells.toList).toArray) F1 z ((splice u.cells.toList off (a.eval y).cells.toList).getD j Go.undef):=by
   intro j z hz
   rw[Z5 (by omega)] at hz
   have hget:(splice u.cells.toList off (a.eval y).cells.toList).getD j Go.undef=if off≤j∧j<off+(a.eval y).cells.toList.length then (a.eval y).cells.getD (j - off) Go.undef else u.cells.getD j Go.undef:=by
    rw[List.getD_eq_getElem?_getD,Z5 hsu]
    split<;>simp[Array.getD_eq_getD_getElem?]
   rw[hget]
   rw[PV.length_cells,v1] at hz
   have e1:(a.eval y).cells.toList.length=(a.eval y).cells.size:=by simp
   rw[e1]
   split at hz
   ·rename_i hin
    rw[if_pos hin]
    obtain ⟨r1,r2⟩:=v2 _ z hz
    exact ⟨r1,r2.keep hst⟩
   ·rename_i hin
    rw[if_neg hin]
    obtain ⟨r1,r2⟩:=u2 _ z hz
    exact ⟨r1,r2.keep hst⟩
  have hslen:(splice el.cells off yv.cells).length=sz:=by rw[Z3 (by omega)];exact hsz
  have hulen:(splice u.cells.toList off (a.eval y).cells.toList).length=sz:=by rw[Z3 hsu];exact hul
  by_cases hagg:∃l0,el=.agg l0
  ·obtain ⟨l0,rfl⟩:=hagg
   obtain ⟨cs0,rfl⟩:∃cs0,u=.agg cs0:=by cases k3;exact ⟨_,rfl⟩
   refine ⟨?_,by simp[ZeT],.agg (splice cs0.toList off (a.eval y).cells.toList).toArray, ?_,fun j c hc=> ?_⟩
   ·simpa[ZeT,PV.width] using hslen
   ·refine VR.of_cells (by simp only[List.size_toArray];rw[hslen];exact hulen.symm) fun j z hz=> ?_
    obtain ⟨r1,r2⟩:=hread j z hz
    refine ⟨r1, ?_⟩
    have:(splice cs0.toList off (a.eval y).cells.toList).toArray.getD j Go.undef=(splice cs0.toList off (a.eval y).cells.toList).getD j Go.undef:=by simp[Array.getD_eq_getD_getElem?,List.getD]
    rw[this]
    exact r2
   ·have:=hcells j c (by simpa[Value.cells] using hc)
    simpa using this
  ·have hreb:ZeT el (splice el.cells off yv.cells)=(splice el.cells off yv.cells).headD .undef:=by
    cases el<;>first|rfl|exact absurd ⟨_,rfl⟩ hagg
   have hsz1:sz=1:=by
    rw[←k1]
    cases el<;>first|rfl|exact absurd ⟨_,rfl⟩ hagg
   obtain ⟨z0,hz0⟩:∃z0,splice el.cells off yv.cells=[z0]:=by
    have:=hslen
    rw[hsz1] at this
    exact List.length_eq_one_iff.1 this
   obtain ⟨r1,r2⟩:=hread 0 z0 (by rw[hz0];rfl)
   have hone:=r2.oneCell r1
   rw[hreb,hz0,List.headD_cons]
   refine ⟨?_, ?_,(splice u.cells.toList off (a.eval y).cells.toList).getD 0 Go.undef,r2,fun j c hc=> ?_⟩
   ·rw[hsz1]
    cases z0<;>first|rfl|(simp[PV.one] at r1)
   ·rintro rfl
    simp[PV.one] at r1
   ·rw[hone] at hc
    have hj0:j=0:=by cases j<;>simp at hc⊢
    subst hj0
    have hlt0:0<(splice u.cells.toList off (a.eval y).cells.toList).length:=by rw[hulen,hsz1];exact Nat.one_pos
    have hc':(splice u.cells.toList off (a.eval y).cells.toList)[0]?=some c:=by
     simp only[List.getElem?_toArray,List.getElem?_cons_zero,Option.some.injEq] at hc
     rw[←hc,List.getD_eq_getElem?_getD,List.getElem?_eq_getElem hlt0]
     rfl
    have:=hcells 0 c hc'
    simpa using this
 ·simp[hj] at hz
  obtain ⟨m1,m2,u',m3,m4⟩:=g10 j z hz
  refine ⟨m1,m2,u',(m3.keep hst0).keep hst,fun j' c hc=> ?_⟩
  have hc':=m4 j' c hc
  have hjs:j'<sz:=by
   have h1:=(m3.cells m2).1
   have:=(Array.getElem?_eq_some_iff.1 hc).1
   omega
  have hne:¬(i * sz+off≤j * sz+j'∧j * sz+j'<i * sz+off+(a.eval y).cells.toList.length):=by
   rintro ⟨t1,t2⟩
   rcases Nat.lt_or_ge i j with h1|h1
   ·have:(i+1) * sz≤j * sz:=Nat.mul_le_mul_right _ h1
    rw[Nat.succ_mul] at this
    omega
   ·have h2:j<i:=by omega
    have:(j+1) * sz≤i * sz:=Nat.mul_le_mul_right _ h2
    rw[Nat.succ_mul] at this
    omega
  have:=Z5 hspl (j * sz+j')
  rw[if_neg hne] at this
  simp only[List.getElem?_toArray,this]
  simpa using hc'
theorem Znp {s:Nat} {app:Bool} {e:TypeId} {sz:Nat}:∀(ks:List CK) (i j:Nat),ks[j]?=some (.own app e sz)→(⟨s,some (i+j),true,app,e,sz⟩:Gh)∈ZhV s i ks
 |[],_,_,h=>by simp at h
 |k::r,i,0,h=>by simp at h;subst h;simp[ZhV]
 | k::r,i,j+1,h=>by
  have ih:=Znp (s:=s) r (i+1) j (by simpa using h)
  rw[show i+1+j=i+(j+1) from by omega] at ih
  cases k<;>simp only[ZhV]<;>first|exact ih|exact List.mem_cons_of_mem _ ih
def frG (x:SV):Option (List Gh×Nat):=
 match x.grpS with
 |some (s,cs)=>if (cs.any fun k=>k=.none)=true then none else some (ZhV s 0 cs,s)
 | none=>
  match Z8 x,ZaJ x with
  |some (some (app,e,sz)),some (q,i)=>some ([⟨q,i,true,app,e,sz⟩],q)
  |_,_=>none
def frV (x:SV) (d:DV):Option PV:=match x.grpS with|some _=>some d.v|none=>(Zh x d).map .lst
theorem Ztl (h:St w0 F0 X0 κ σ a.tmps w F fp) {y:Operand} (hl:ZaM κ σ y) {gh:List Gh} {s:Nat} (hg:frG (sv κ y)=some (gh,s)) {yv:PV} (hy:frV (sv κ y) (dv κ σ y)=some yv) (hF:∀b,F b→F1 b) {own:List Nat} (hall:∀g∈gh,Zff g σ a.tmps w F1 own):VR w F1 yv (a.eval y):=by
 unfold frG at hg
 unfold frV at hy
 cases hgs:(sv κ y).grpS with
 | some p=>
  obtain ⟨s',cs⟩:=p
  rw[hgs] at hg hy
  dsimp only at hg hy
  split at hg
  case isTrue=>cases hg
  rename_i hnn
  simp only[Option.some.injEq,Prod.mk.injEq] at hg
  obtain ⟨rfl,rfl⟩:=hg
  cases hy
  obtain ⟨cs0,xs,fps,e1,e2,e3,e4,e5,e6,e7,_⟩:=GrpS.own h hgs
  rw[e4,e3]
  refine ZoD e5 ?_ hF fun k hk e=>hnn (List.any_eq_true.2 ⟨k,hk,by simp[e]⟩)
  refine Zc4 e5 (own:=F1) fun i app e sz x' v' lb' k1 k2 k3 k4 b hbb=> ?_
  have hm:=Znp (s:=s') cs 0 i k1
  rw[Nat.zero_add] at hm
  obtain ⟨y',v'',l',lb'',m1,m2,m3,m4,m5⟩:=hall _ hm
  simp only[if_true] at m5
  have ev:tv a.tmps s'=.agg cs0:=by rw[e1] at e3;exact e3
  have hvv:v''=v':=by
   rcases m1 with ⟨b',xs',t1,t2,t3,t4⟩|⟨tt,cs',xs',t1,t2,t3,t4,_⟩|⟨cs',xs',t1,_⟩
   ·simp only at t1;rw[ev] at t1;cases t1
   ·simp only at t1
    rw[ev] at t1
    cases tt<;>simp at t1
    subst t1
    have:cs0[i]?=some v':=by simpa using k3
    rw[this] at t2
    exact (Option.some.inj t2).symm
   ·simp only at t1;rw[ev] at t1;cases t1
  subst hvv
  obtain ⟨l0,rfl,hr0⟩:=k4
  have:=hr0.lb_eq m3
  subst this
  exact m5.2 b hbb
 | none=>
  rw[hgs] at hg hy
  dsimp only at hg hy
  split at hg
  case h_2=>cases hg
  rename_i app e sz q i hK hA
  simp only[Option.some.injEq,Prod.mk.injEq] at hg
  obtain ⟨rfl,rfl⟩:=hg
  obtain ⟨l,hl',rfl⟩:=Option.map_eq_some_iff.1 hy
  obtain ⟨q',i',lb,r1,r2,r3,r4⟩:=ZbA h hl (l:=l) hl' hK
  rw[hA] at r1
  cases r1
  obtain ⟨y',v0,l',lb',m1,m2,m3,m4,m5⟩:=hall _ (List.mem_singleton.2 rfl)
  simp only[if_true] at m5
  have hv0:=ZcZ h hl hA m1
  subst hv0
  have hlb:=r2.lb_eq m3
  subst hlb
  exact r2.vr m5.2 hF
def Zdi (a x:SV) (off n:Nat):DV→DV→Option PV:=fun da dx=>
 match da.v with
 |.int _ i=>(Zbw a da).bind fun l=>(l[i.toNat]?).bind fun el=>(frV x dx).bind fun yv=>(ZcY off n el.cells el yv).map fun el'=>.lst (l.set i.toNat el')
 |_=>none
def Zh1 {R:Type} (T:Tab) (t:TypeId) (a x:SV):Option (Eff R):=
 match T.lookup t,a.k,Zfj a with
 | some ti,.elm p sz off,some (app,e,sz')=>
  if sz=sz'∧sz<dB then
   match frG x with
   |none=>none
   | some (gh,s)=>
    if s=p.of then none else
    match p with
    |.slot q=>some {gh:=gh,tgt:=q,put:=false,k:=.ck (.own app e sz'),cut:=.no,dyn:=ZaV (Zdi a x off ti.size)}
    | .cell q oo=>match a.pk with
     |.box TT ks=>some {gh:=gh,tgt:=q,put:=false,k:=.box TT ks,cut:=.no,dyn:=ZaV (ZjL p a (Zdi a x off ti.size))}
     |_=>none
  else none
 |_,_,_=>none
theorem Zsd {x:SV} {gh:List Gh} {s:Nat} (h:frG x=some (gh,s)):∀g∈gh,g.s=s:=by
 unfold frG at h
 split at h
 ·rename_i s' cs hg
  split at h
  ·cases h
  ·cases h
   intro g hg
   exact (Zju cs 0 g hg).1
 ·split at h
  ·cases h;simp
  ·cases h
theorem Zse {tgt q:Nat}:∀(gh:List Gh) (κ κ1:List Kd),Zac tgt gh κ=some κ1→(∀g∈gh,g.s≠q)→(kd κ1 q).isBox=true→(kd κ q).isBox=true
 |[],κ,κ1,h,_,hb=>by cases h;exact hb
 | g::r,κ,κ1,h,hq,hb=>by
  unfold Zac at h
  obtain ⟨κ2,h1,h2⟩:=Option.bind_eq_some_iff.1 h
  have ih:=Zse r κ2 κ1 h2 (fun g hg=>hq g (List.mem_cons_of_mem _ hg)) hb
  exact ZpZ (tgt:=tgt) (g:=g) (κ1:=κ2) (by unfold Zac;rw[h1];rfl) (hq g List.mem_cons_self) ih
theorem Zl2 (hT:TabOk P T) {t:TypeId} {x y:Operand} (hop:o.op=.store t x y) (hd:o.dst=none) (hE:Zh1 T t (sv κ x) (sv κ y)=some E):ZN P o κ E:=by
 have hops:o.op.operands.toList=[x,y]:=by rw[hop];rfl
 unfold Zh1 at hE
 split at hE
 case h_2=>cases hE
 rename_i ti p sz off app e sz' hti hk hK
 obtain ⟨ht⟩:=hT.ty hti
 split at hE
 case isFalse=>cases hE
 rename_i hc
 obtain ⟨rfl,hsm⟩:=hc
 have hfl:=Zaa hsm
 split at hE
 case h_1=>cases hE
 rename_i gh sy hfr
 split at hE
 case isTrue=>cases hE
 rename_i hqq
 have main:∀(w0:World) (F0:Nat→Prop) (X0:List Nat) (σ:List PV) (a:Act) (w:World) (F F1:Nat→Prop) (fp fp1:Nat→List Nat) (κ1:List Kd) (z:PV),St w0 F0 X0 κ σ a.tmps w F fp→St w0 F0 X0 κ1 σ a.tmps w F1 fp1→(∀b,F b→F1 b)→(∀b∈fp p.of,b∈fp1 p.of)→(∀g∈gh,Zff g σ a.tmps w F1 (fp1 p.of))→ZaM κ σ x→ZaM κ σ y→Zdi (sv κ x) (sv κ y) off ti.size (dv κ σ x) (dv κ σ y)=some z→
  ∃ (l l':List PV) (w':World) (g cap:Nat),z=.lst l'∧(execOp a.eval o).run P w=.ok .skip w'∧w'.os=w.os∧w'.tape=w.tape∧w'.output=w.output∧w'.heap.size=w.heap.size∧g∈fp p.of∧(∀b,b≠g→w'.heap[b]?=w.heap[b]?)∧
   PlV a.tmps w p (.slice (some ⟨g,0,none⟩) l.length cap)∧Zal w' F1 app e sz l' (.slice (some ⟨g,0,none⟩) l.length cap) [g]:=by
  intro w0 F0 X0 σ a w F F1 fp fp1 κ1 z h h1 hF hfp hgiv hlx hly hz
  unfold Zdi at hz
  split at hz
  case h_2=>cases hz
  rename_i k i hvi
  obtain ⟨l,hl,hz⟩:=Option.bind_eq_some_iff.1 hz
  obtain ⟨el,hel,hz⟩:=Option.bind_eq_some_iff.1 hz
  obtain ⟨yv,hyv,hz⟩:=Option.bind_eq_some_iff.1 hz
  obtain ⟨el',hel',rfl⟩:=Option.map_eq_some_iff.1 hz
  have hi0:(dv κ σ x).v=.int k (i.toNat:Int):=by
   obtain ⟨i',n,cap,g,cur,fr,lb,g1,_⟩:=ZfY h hlx hk hl hK hfl
   rw[hvi] at g1
   cases g1
   rw[hvi]
   simp
  obtain ⟨w',g,cap,cur',fr,r1,r2,r3,r4,r5,r6,r7,r8,r9⟩:=ZoO ht hop hlx h hF (fun b hb=>(h1.pr _ b (hfp b hb)).2.1) hk hl hK hfl (Ztl h hly hfr hyv hF hgiv) hi0 hel hel'
  exact ⟨l,_,w',g,cap,rfl,r1,r2,r3,r4,r5,r6,r7,r8,r9⟩
 split at hE
 ·rename_i q
  cases hE
  refine ZdC hd rfl fun w0 F0 X0 κ1 σ a w F F1 fp fp1 kk r h h1 htt hg hF hfp hall hlv hdy=> ?_
  have hdy':((Zdi (sv κ x) (sv κ y) off ti.size (dv κ σ x) (dv κ σ y)).bind kk)=some r:=by rw[hops] at hdy;exact hdy
  obtain ⟨z,hz,hkk⟩:=Option.bind_eq_some_iff.1 hdy'
  obtain ⟨l,l',w',g,cap,rfl,r1,r2,r3,r4,r5,r6,r7,r9,r11⟩:=main w0 F0 X0 σ a w F F1 fp fp1 κ1 z h h1 hF hfp hall (Zc hlv (by rw[hops];exact .head _)) (Zc hlv (by rw[hops];exact .tail _ (.head _))) hz
  have e1:tv a.tmps q=.slice (some ⟨g,0,none⟩) l.length cap:=r9
  have hgq:g∈fp1 q:=hfp g r6
  refine ⟨_,w',[g],r1,hkk,r2,r3,r4,r5,fun b _ hbn=>r7 b (fun e=>hbn (e▸hgq)),by simp,⟨l',rfl,by rw[e1];exact r11⟩,fun b hb=>by rw[List.mem_singleton.1 hb];exact hgq,rfl,fun hbx=> ?_⟩
  ·exfalso
   have hk':kOp κ x=.elm (.slot q) sz off:=hk
   have hbx':(kd κ q).isBox=true:=Zse _ _ _ hg (fun g hm=>by rw[Zsd hfr g hm];exact hqq) hbx
   unfold Zfj at hK
   rw[hk] at hK
   dsimp only at hK
   split at hK
   case h_2=>cases hK
   rename_i a' e' s' hpk
   have hq:kd κ q=.ck (.own a' e' s'):=by simpa[sv,hk',Kd.dep,Place.of] using hpk
   rw[hq] at hbx'
   cases hbx'
 ·rename_i q oo
  split at hE
  case h_2=>cases hE
  rename_i TT ks0 hpk
  cases hE
  refine ZdC hd rfl fun w0 F0 X0 κ1 σ a w F F1 fp fp1 kk r h h1 htt hg hF hfp hall hlv hdy=> ?_
  have hk':kOp κ x=.elm (.cell q oo) sz off:=hk
  have hq:kd κ q=.box TT ks0:=by simpa[sv,hk',Kd.dep,Place.of] using hpk
  have hdy':(((Zdi (sv κ x) (sv κ y) off ti.size (dv κ σ x) (dv κ σ y)).map fun y'=>PV.agg ((dv κ σ x).pv.cells.set oo y')).bind kk)=some r:=by rw[hops] at hdy;exact hdy
  obtain ⟨z,hz,hkk⟩:=Option.bind_eq_some_iff.1 hdy'
  obtain ⟨z',hz',rfl⟩:=Option.map_eq_some_iff.1 hz
  obtain ⟨l,l',w',g,cap,rfl,r1,r2,r3,r4,r5,r6,r7,r9,r11⟩:=main w0 F0 X0 σ a w F F1 fp fp1 κ1 z' h h1 hF hfp hall (Zc hlv (by rw[hops];exact .head _)) (Zc hlv (by rw[hops];exact .tail _ (.head _))) hz'
  obtain ⟨lbq,hn,hsub,hsr⟩:=h.sr q
  rw[hq] at hsr
  obtain ⟨b0,cs,xs,fps,ev,ex,hheap,hgrp,rfl⟩:=hsr
  have e2':(dv κ σ x).pv=.agg xs:=by simpa[dv,hk',Kd.dep,Place.of] using ex
  rw[e2'] at hkk
  obtain ⟨b1,t1,t2⟩:=r9
  rw[ev] at t1
  simp at t1
  subst t1
  rw[cell_of_row w b0 oo cs TT (0,0) hheap] at t2
  have hks:ks0[oo]?=some (.own app e sz):=by
   unfold Zfj at hK
   rw[hk] at hK
   dsimp only at hK
   split at hK
   case h_2=>cases hK
   rename_i a' e' s' hpk'
   cases hK
   obtain ⟨T2,ks2,hb2,hk2⟩:=ZcP hpk'
   rw[hpk] at hb2
   cases hb2
   exact hk2
  obtain ⟨y0,v0,lb0,hx0,hv0,hf0,hcr0⟩:=hgrp.ks_at hks
  obtain ⟨l00,rfl,hrow0⟩:=hcr0
  have hv0':v0=.slice (some ⟨g,0,none⟩) l.length cap:=by
   have:cs[oo]?=some v0:=by simpa using hv0
   rw[this] at t2
   exact Option.some.inj t2
  subst hv0'
  have hlb0:lb0=[g]:=by
   rw[Zr hfl] at hrow0
   rcases hrow0 with ⟨h1',_,_⟩|⟨g',_,_,_,h1',h2',_⟩
   ·simp at h1'
   ·simp at h1';rw[h2',h1'.1]
  subst hlb0
  have hgf:g∈fps.flatten:=List.mem_flatten.2 ⟨[g],List.mem_of_getElem? hf0,by simp⟩
  obtain ⟨hn0,hn1⟩:=List.nodup_cons.1 hn
  have hb0g:b0≠g:=fun e=>hn0 (e▸hgf)
  have hgq:g∈fp1 q:=hfp g r6
  have hst1:Stays w F w F1:=⟨hF,fun _ _=>rfl⟩
  have hst:Stays w F1 w' F1:=⟨fun _ h=>h,fun c hc=>r7 c (fun e=>(h1.pr _ g hgq).2.1 (e▸hc))⟩
  have hgrp':GrpR w' F1 true ks0 (xs.set oo (.lst l')) cs.toList fps:=by
   have hw:=(hgrp.keep hst1 fun _ _=>rfl).weak (c:=.none) hx0 hv0 rfl
   have hw2:=hw.keep hst (fun c hc=>r7 c (fun e=>Zaf hn1 hf0 (by simp) (e▸hc)))
   have hw3:=hw2.set oo (k:=.own app e sz) (x:=.lst l') (v:=.slice (some ⟨g,0,none⟩) l.length cap) (fp:=[g]) ⟨l',rfl,r11⟩ (fun _=>rfl)
   have s1:(ks0.set oo CK.none).set oo (.own app e sz)=ks0:=by
    rw[List.set_set]
    apply List.ext_getElem?
    intro j
    rw[List.getElem?_set]
    by_cases ej:oo=j
    ·subst ej;rw[hks];simp[(List.getElem?_eq_some_iff.1 hks).1]
    ·simp[ej]
   have s2:cs.toList.set oo (.slice (some ⟨g,0,none⟩) l.length cap)=cs.toList:=by
    apply List.ext_getElem?
    intro j
    rw[List.getElem?_set]
    by_cases ej:oo=j
    ·subst ej;have hlt:=(List.getElem?_eq_some_iff.1 hv0).1;rw[hv0];simpa using hlt
    ·simp[ej]
   have s3:(fps.set oo []).set oo [g]=fps:=by
    rw[List.set_set]
    apply List.ext_getElem?
    intro j
    rw[List.getElem?_set]
    by_cases ej:oo=j
    ·subst ej;rw[hf0];simp[(List.getElem?_eq_some_iff.1 hf0).1]
    ·simp[ej]
   rw[s1,s2,s3] at hw3
   exact hw3
  refine ⟨_,w',b0::fps.flatten,r1,hkk,r2,r3,r4,r5,fun b _ hbn=>r7 b (fun e=>hbn (e▸hgq)),hn,⟨b0,cs,_,fps,ev,rfl,by rw[r7 b0 hb0g];exact hheap,hgrp',rfl⟩,fun b hb=>hfp b (hsub b hb),rfl,fun _=>⟨rfl,fun k y' u hk hcut hal=> ?_⟩⟩
  have cell:∀o2 (v:Value),(∃b',tv a.tmps q=.pointer (some ⟨b',0,none⟩)∧w.cell? ⟨b',o2,none⟩=some v)→∃b',tv a.tmps q=.pointer (some ⟨b',0,none⟩)∧w'.cell? ⟨b',o2,none⟩=some v:=by
   rintro o2 v ⟨b',hb1,hb2⟩
   rw[ev] at hb1
   simp at hb1
   subst hb1
   exact ⟨b0,ev,(World.cell?_of_block (w:=w) (a:=⟨b0,o2,none⟩) (r7 b0 hb0g)).trans hb2⟩
  cases k with
  | ali p'=>
   cases p' with
   |slot q'=>simp[Kd.bdep] at hk
   |cell q' o2=>simp only[Kd.bdep,Option.some.injEq] at hk;subst hk;exact cell o2 u hal
  | elm p' sz'' o'=>
   cases p' with
   |slot q'=>simp[Kd.bdep] at hk
   | cell q' o2=>
    simp only[Kd.bdep,Option.some.injEq] at hk
    subst hk
    obtain ⟨i,b',m,cap',u1,u2,u3,u4⟩:=hal
    exact ⟨i,b',m,cap',u1,u2,cell o2 _ u3,u4⟩
  |bxf q' o'=>obtain ⟨b',u1,u2⟩:=hal;exact ⟨b',u1,u2⟩
  | gal q' n'=>
   simp only[Kd.bdep,Option.some.injEq] at hk
   subst hk
   obtain ⟨cs',u1,u2,u3⟩:=hal
   exact ⟨cs',u1,u2,fun j c hc=>cell j c (u3 j c hc)⟩
  |ck c=>simp[Kd.bdep] at hk
  |box T ks=>simp[Kd.bdep] at hk
  |grp t ks=>simp[Kd.bdep] at hk
  |ipt=>simp[Kd.bdep] at hk
  |clo f=>simp[Kd.bdep] at hk
  |cln f=>simp[Kd.bdep] at hk
  |mp kt et=>simp[Kd.bdep] at hk
  |mbx s=>simp[Kd.bdep] at hk
  |tl q=>simp[Kd.bdep] at hk
  |tt=>simp[Kd.bdep] at hk
  |tgr sh ks=>simp[Kd.bdep] at hk
  |tip=>simp[Kd.bdep] at hk
def ZeP {R:Type} (T:Tab) (t:TypeId) (a x:SV):Option (Eff R):=
 match Zh0 T t a x with
 |some E=>some E
 | none=>match ZhX T t a x with
  |some E=>some E
  |none=>Zh1 T t a x
theorem Zgj (hT:TabOk P T) {t:TypeId} {x y:Operand} (hop:o.op=.store t x y) (hd:o.dst=none) (hE:ZeP T t (sv κ x) (sv κ y)=some E):ZN P o κ E:=by
 unfold ZeP at hE
 split at hE
 ·rename_i h;cases hE;exact Zl1 hT hop hd h
 ·split at hE
  ·rename_i h;cases hE;exact ZlS hT hop hd h
  ·exact Zl2 hT hop hd hE
def Zcu {R:Type} (T:Tab) (d:Nat) (t:TypeId) (len:Nat) (parts:List (Nat×Operand)) (svs:List SV):Option (Eff R):=
 match ZhZ T d t len parts svs with
 |some E=>some E
 |none=>Zdy T d t len parts svs
theorem ZdV (hT:TabOk P T) {t:TypeId} {len:Nat} {parts:Array (Nat×Operand)} {d:Nat} (hop:o.op=.buildSlice t len parts) (hd:o.dst=some d) (hE:Zcu T d t len parts.toList (o.op.operands.toList.map (sv κ))=some E):ZN P o κ E:=by
 unfold Zcu at hE
 split at hE
 ·rename_i h;cases hE;exact Zl0 hT hop hd h
 ·exact Zhf hT hop hd hE
def ZgA {R:Type} (T:Tab) (d:Nat) (t t2:TypeId) (s x:SV):Option (Eff R):=
 match ZlY T d t t2 s x with
 |some E=>some E
 |none=>Zgz T d t t2 s x
theorem ZkC (hT:TabOk P T) {t t2:TypeId} {s x:Operand} {d:Nat} (hop:o.op=.call {callee:=.builtin .append,args:= #[s,x],argTypes:= #[t,t2]}) (hd:o.dst=some d) (hE:ZgA T d t t2 (sv κ s) (sv κ x)=some E):ZN P o κ E:=by
 unfold ZgA at hE
 split at hE
 ·rename_i h;cases hE;exact ZoM hT hop hd h
 ·exact ZkB hT hop hd hE
end
def ZkD (q:Nat):Nat→List CK→List Gh
 |_,[]=>[]
 |i,.own app e sz::r=>⟨q,some i,true,app,e,sz⟩::ZkD q (i+1) r
 |i,.none::r=>ZkD q (i+1) r
 |i,.val::r=>ZkD q (i+1) r
 |i,.nil::r=>ZkD q (i+1) r
def Ziz :List SV→List Gh
 |[]=>[]
 |s::r=>match s.k,s.slot with|.grp false ks,some q=>ZkD q 0 ks++Ziz r|_,_=>Ziz r
def ZdW :List SV→List Nat
 |[]=>[]
 |s::r=>match s.k,s.slot with|.grp false ks,some q=>q::ZdW r|_,_=>ZdW r
def ZdX (s:SV):SV:=match s.k with|.grp false ks=>⟨.grp false (ks.map CK.fzd),s.pk,s.slot⟩|_=>s
def okZ (s:SV):Bool:=match s.k,s.slot with|.grp false _,some _=>true|.ck .val,_=>true|.ck .nil,_=>true|_,_=>false
theorem act_kd {g:Gh} {tgt:Nat} {κ κ1:List Kd} (h:g.act tgt κ=some κ1):∃k,g.kind (kd κ g.s)=some k∧kd κ1 g.s=k∧∀s,s≠g.s→(kd κ s).dep=none→kd κ1 s=kd κ s:=by
 unfold Gh.act at h
 split at h
 ·cases h
 split at h
 case isFalse=>cases h
 rename_i hs
 obtain ⟨k,hk,rfl⟩:=Option.map_eq_some_iff.1 h
 refine ⟨k,hk,by rw[ZbI _ _ _ _ _ hs,if_pos rfl],fun s hne hd=> ?_⟩
 rw[ZbI _ _ _ _ _ hs,if_neg hne,if_neg]
 intro hc
 rw[Cut.fn_dep hc] at hd
 cases hd
theorem Zhi {tgt q:Nat}:∀(ks pre:List CK) (κ κ1:List Kd),Zac tgt (ZkD q pre.length ks) κ=some κ1→kd κ q=.grp false (pre++ks)→kd κ1 q=.grp false (pre++ks.map CK.fzd)∧∀s,s≠q→(kd κ s).dep=none→kd κ1 s=kd κ s
 |[],pre,κ,κ1,h,hk=>by cases h;exact ⟨by simpa using hk,fun _ _ _=>rfl⟩
 | .own app e sz::r,pre,κ,κ1,h,hk=>by
  unfold ZkD Zac at h
  obtain ⟨κ2,h2,h⟩:=Option.bind_eq_some_iff.1 h
  obtain ⟨k,e1,e2,e3⟩:=act_kd h2
  dsimp only at e1 e2 e3
  rw[hk] at e1
  unfold Gh.kind at e1
  dsimp only at e1
  split at e1
  case isFalse=>cases e1
  cases e1
  have e4:kd κ2 q=.grp false ((pre++[.val])++r):=by
   rw[e2]
   simp[Gh.ck]
  have:=Zhi r (pre++[.val]) κ2 κ1 (by simpa using h) e4
  refine ⟨by simpa[CK.fzd] using this.1,fun s hs hd=> ?_⟩
  have h3:=e3 s hs hd
  rw[this.2 s hs (by rw[h3];exact hd),h3]
 | .none::r,pre,κ,κ1,h,hk=>by
  have:=Zhi r (pre++[.none]) κ κ1 (by simpa[ZkD] using h) (by simpa using hk)
  exact ⟨by simpa[CK.fzd] using this.1,this.2⟩
 | .val::r,pre,κ,κ1,h,hk=>by
  have:=Zhi r (pre++[.val]) κ κ1 (by simpa[ZkD] using h) (by simpa using hk)
  exact ⟨by simpa[CK.fzd] using this.1,this.2⟩
 | .nil::r,pre,κ,κ1,h,hk=>by
  have:=Zhi r (pre++[.nil]) κ κ1 (by simpa[ZkD] using h) (by simpa using hk)
  exact ⟨by simpa[CK.fzd] using this.1,this.2⟩
theorem Zlc {tgt:Nat}:∀(a b:List Gh) (κ:List Kd),Zac tgt (a++b) κ=(Zac tgt a κ).bind (Zac tgt b)
 |[],b,κ=>rfl
 | g::a,b,κ=>by
  show (g.act tgt κ).bind (Zac tgt (a++b))=((g.act tgt κ).bind (Zac tgt a)).bind (Zac tgt b)
  cases g.act tgt κ with
  |none=>rfl
  |some κ2=>exact Zlc a b κ2
theorem ZdY {κ:List Kd} {x:Operand} (h:okZ (sv κ x)=true):(kOp κ x).dep=none∧(kOp κ x).hangs=false:=by
 unfold okZ at h
 split at h
 ·rename_i e _;rw[show kOp κ x=(sv κ x).k from rfl,e];exact ⟨rfl,rfl⟩
 ·rename_i e;rw[show kOp κ x=(sv κ x).k from rfl,e];exact ⟨rfl,rfl⟩
 ·rename_i e;rw[show kOp κ x=(sv κ x).k from rfl,e];exact ⟨rfl,rfl⟩
 ·cases h
theorem sv_pk {κ:List Kd} {x:Operand} (h:(kOp κ x).dep=none):(sv κ x).pk=.ck .none:=by
 simp only[sv,h]
theorem Zp0 {κ:List Kd} {x:Operand} (h:(kOp κ x).dep=none):sv κ x=⟨kOp κ x,.ck .none,(sv [] x).slot⟩:=by
 show SV.mk (kOp κ x) (sv κ x).pk (sv [] x).slot=_
 rw[sv_pk h]
theorem Zp1 {κ:List Kd} {x:Operand} (h:okZ (sv κ x)=true):sv κ x=⟨kOp κ x,.ck .none,(sv [] x).slot⟩:=Zp0 (ZdY h).1
theorem Zsf (s:SV):ZdX s=⟨(ZdX s).k,s.pk,s.slot⟩:=by
 unfold ZdX
 split<;>rfl
theorem Zl3 {κ κ1:List Kd} {x:Operand} (h:∀t,x=.tmp t→kd κ1 t=kd κ t):kOp κ1 x=kOp κ x:=by
 cases x with
 |tmp t=>exact h t rfl
 |_=>rfl
theorem ZjA {tgt:Nat}:∀(l:List Operand) (κ κ1:List Kd),Zac tgt (Ziz (l.map (sv κ))) κ=some κ1→(∀x∈l,okZ (sv κ x)=true)→(ZdW (l.map (sv κ))).Nodup→
 (∀s,s∉ZdW (l.map (sv κ))→(kd κ s).dep=none→kd κ1 s=kd κ s)∧∀x∈l,kOp κ1 x=(ZdX (sv κ x)).k
 |[],κ,κ1,h,_,_=>by cases h;exact ⟨fun _ _ _=>rfl,fun x hx=>by cases hx⟩
 | x :: l,κ,κ1,h,hok,hn=>by
  have hx:=hok x List.mem_cons_self
  have hok':∀y∈l,okZ (sv κ y)=true:=fun y hy=>hok y (List.mem_cons_of_mem _ hy)
  rw[List.map_cons] at h hn
  by_cases hg:∃ks q,(sv κ x).k=.grp false ks∧(sv κ x).slot=some q
  ·obtain ⟨ks,q,e1,e2⟩:=hg
   unfold Ziz at h
   unfold ZdW at hn
   simp only[e1,e2] at h hn
   rw[Zlc] at h
   obtain ⟨κ2,h2,h3⟩:=Option.bind_eq_some_iff.1 h
   obtain ⟨t,rfl,ht⟩:∃t,x=.tmp t∧t=q:=by
    cases x with
    |tmp t=>exact ⟨t,rfl,by simpa[sv] using e2⟩
    |_=>simp[sv] at e2
   subst ht
   have hkq:kd κ t=.grp false ks:=e1
   obtain ⟨f1,f2⟩:=Zhi ks [] κ κ2 h2 hkq
   obtain ⟨n1,n2⟩:=List.nodup_cons.1 hn
   have hsl:∀y∈l,∀s,y=.tmp s→s≠t:=fun y hy s e es=>by
    subst e es
    have hk:=hok' _ hy
    apply n1
    have key:∀l':List Operand,Operand.tmp s∈l'→s∈ZdW (l'.map (sv κ)):=by
     intro l' hm
     induction l' with
     |nil=>cases hm
     | cons z r ih=>
      rw[List.map_cons]
      unfold ZdW
      rcases List.mem_cons.1 hm with rfl|hm
      ·have e3:(sv κ (.tmp s)).k=.grp false ks:=hkq
       have e4:(sv κ (.tmp s)).slot=some s:=rfl
       simp only[e3,e4]
       exact List.mem_cons_self
      ·split
       ·exact List.mem_cons_of_mem _ (ih hm)
       ·exact ih hm
    exact key l hy
   have hsv:l.map (sv κ2)=l.map (sv κ):=List.map_congr_left fun y hy=>by
    have e3:kOp κ2 y=kOp κ y:=Zl3 fun s es=>f2 s (hsl y hy s es) (by have:=(ZdY (hok' y hy)).1;rw[es] at this;exact this)
    rw[Zp1 (hok' y hy),Zp0 (by rw[e3];exact (ZdY (hok' y hy)).1),e3]
   have hsv1:∀y∈l,sv κ2 y=sv κ y:=fun y hy=>by
    have e3:kOp κ2 y=kOp κ y:=Zl3 fun s es=>f2 s (hsl y hy s es) (by have:=(ZdY (hok' y hy)).1;rw[es] at this;exact this)
    rw[Zp1 (hok' y hy),Zp0 (by rw[e3];exact (ZdY (hok' y hy)).1),e3]
   obtain ⟨g1,g2⟩:=ZjA l κ2 κ1 (by rw[hsv];exact h3) (fun y hy=>by rw[hsv1 y hy];exact hok' y hy) (by rw[hsv];exact n2)
   rw[hsv] at g1
   refine ⟨fun s hs hd=> ?_,fun y hy=> ?_⟩
   ·unfold ZdW at hs
    simp only[List.map_cons,e1,e2,List.mem_cons,not_or] at hs
    have:=f2 s hs.1 hd
    rw[g1 s hs.2 (by rw[this];exact hd),this]
   ·rcases List.mem_cons.1 hy with rfl|hy
    ·have e5:kOp κ1 (.tmp t)=kd κ1 t:=rfl
     rw[e5,g1 t n1 (by rw[f1];rfl),f1]
     unfold ZdX
     rw[e1]
     rfl
    ·rw[g2 y hy,hsv1 y hy]
  ·have e1:Ziz (sv κ x::l.map (sv κ))=Ziz (l.map (sv κ)):=by
    rw[Ziz]
    split
    ·rename_i ks q a b;exact absurd ⟨ks,q,a,b⟩ hg
    ·rfl
   have e2:ZdW (sv κ x::l.map (sv κ))=ZdW (l.map (sv κ)):=by
    rw[ZdW]
    split
    ·rename_i ks q a b;exact absurd ⟨ks,q,a,b⟩ hg
    ·rfl
   rw[e1] at h
   rw[e2] at hn
   obtain ⟨g1,g2⟩:=ZjA l κ κ1 h hok' hn
   refine ⟨fun s hs hd=>g1 s (by rw[List.map_cons,e2] at hs;exact hs) hd,fun y hy=> ?_⟩
   rcases List.mem_cons.1 hy with rfl|hy
   ·have hv:(sv κ y).k=.ck .val∨(sv κ y).k=.ck .nil:=by
     unfold okZ at hx
     split at hx
     ·rename_i ks q a b;exact absurd ⟨ks,q,a,b⟩ hg
     ·rename_i a;exact .inl a
     ·rename_i a;exact .inr a
     ·cases hx
    have hf:(ZdX (sv κ y)).k=kOp κ y:=by
     unfold ZdX
     rcases hv with a|a<;>rw[a]<;>dsimp only<;>rfl
    rw[hf]
    refine Zl3 fun t et=> ?_
    subst et
    have key:∀l':List Operand,t∈ZdW (l'.map (sv κ))→∃ks,kd κ t=.grp false ks:=by
     intro l'
     induction l' with
     |nil=>intro hm;cases hm
     | cons z r ih=>
      intro hm
      rw[List.map_cons,ZdW] at hm
      split at hm
      ·rename_i ks q a b
       rcases List.mem_cons.1 hm with rfl|hm
       ·cases z with
        | tmp u=>
         have:u=t:=by simpa[sv] using b
         subst this
         exact ⟨ks,a⟩
        |_=>simp[sv] at b
       ·exact ih hm
      ·exact ih hm
    refine g1 t (fun hm=> ?_) (ZdY hx).1
    obtain ⟨ks,hk⟩:=key l hm
    have:(sv κ (.tmp t)).k=.grp false ks:=hk
    rcases hv with a|a<;>rw[a] at this<;>cases this
   ·exact g2 y hy
def ZbH {R:Type} (T:Tab) (d:Nat) (t:TypeId) (len:Nat) (parts:List (Nat×Operand)) (svs:List SV):Option (Eff R):=
 match Zcu T d t len parts svs with
 |some E=>some E
 | none=>
  match Ziz svs with
  |[]=>none
  | g::gs=>if svs.all okZ=true∧(ZdW svs).Nodup then
   match Zcu (R:=R) T d t len parts (svs.map ZdX) with
   |some ⟨[],t,true,k,c,dyn⟩=>if t=d then some ⟨g::gs,d,true,k,c,dyn⟩ else none
   |_=>none
   else none
theorem Zcv {R:Type} {P:Program} {T:Tab} {o:Oper} {κ:List Kd} {E:Eff R} (hT:TabOk P T) {t:TypeId} {len:Nat} {parts:Array (Nat×Operand)} {d:Nat} (hop:o.op=.buildSlice t len parts) (hd:o.dst=some d) (hE:ZbH T d t len parts.toList (o.op.operands.toList.map (sv κ))=some E):ZN P o κ E:=by
 unfold ZbH at hE
 split at hE
 ·rename_i h;cases hE;exact ZdV hT hop hd h
 split at hE
 ·cases hE
 rename_i g gs hgs
 split at hE
 case isFalse=>cases hE
 rename_i hall
 split at hE
 case h_2=>cases hE
 rename_i t k c dyn hmk
 split at hE
 case isFalse=>cases hE
 rename_i ht
 subst ht
 cases hE
 intro w0 F0 X0 κ' σ a w F fp kk r K Q h hκ hlv hdn hK
 unfold Eff.κ at hκ
 split at hκ
 case isFalse=>cases hκ
 rename_i htgt
 dsimp only at htgt hκ hdn
 obtain ⟨κ1,h1,hκ⟩:=Option.map_eq_some_iff.1 hκ
 simp only[if_true] at hκ
 obtain ⟨F1,fp1,hst,hF,hfp,_⟩:=Zbq (g::gs) κ κ1 F fp h h1
 have hlen:κ1.length=κ.length:=by rw[hst.lk,h.lk]
 have hst':=hst.noCln true
 have hok:∀x∈o.op.operands.toList,okZ (sv κ x)=true:=fun x hx=>List.all_eq_true.1 hall.1 _ (List.mem_map.2 ⟨x,hx,rfl⟩)
 obtain ⟨_,hk1⟩:=ZjA o.op.operands.toList κ κ1 (by rw[hgs];exact h1) hok hall.2
 have hkn:∀x∈o.op.operands.toList,kOp (noCln true κ1) x=(ZdX (sv κ x)).k:=fun x hx=>by
  rw[←hk1 x hx]
  refine Zl3 fun s es=> ?_
  rw[Za7,if_neg]
  intro hc
  have h2:=hk1 x hx
  rw[es] at h2
  have h3:kd κ1 s=(ZdX (sv κ (.tmp s))).k:=h2
  have h4:=hok x hx
  rw[es] at h4
  unfold okZ at h4
  unfold ZdX at h3
  split at h4
  ·rename_i e _;rw[e] at h3;rw[h3] at hc;cases hc
  ·rename_i e;rw[e] at h3;dsimp only at h3;rw[h3,e] at hc;cases hc
  ·rename_i e;rw[e] at h3;dsimp only at h3;rw[h3,e] at hc;cases hc
  ·cases h4
 have hfd:∀x∈o.op.operands.toList,(kOp (noCln true κ1) x).dep=none∧(kOp (noCln true κ1) x).hangs=false:=fun x hx=>by
  rw[hkn x hx]
  have h4:=hok x hx
  unfold okZ at h4
  unfold ZdX
  split at h4
  ·rename_i e _;rw[e];exact ⟨rfl,rfl⟩
  ·rename_i e;rw[e];dsimp only;rw[e];exact ⟨rfl,rfl⟩
  ·rename_i e;rw[e];dsimp only;rw[e];exact ⟨rfl,rfl⟩
  ·cases h4
 have hsv:o.op.operands.toList.map (sv (noCln true κ1))=(o.op.operands.toList.map (sv κ)).map ZdX:=by
  rw[List.map_map]
  refine List.map_congr_left fun x hx=> ?_
  have e1:=hkn x hx
  show sv (noCln true κ1) x=ZdX (sv κ x)
  rw[Zp0 (hfd x hx).1,e1,Zsf (sv κ x),sv_pk (ZdY (hok x hx)).1]
  rfl
 have hdv:o.op.operands.toList.map (dv (noCln true κ1) σ)=o.op.operands.toList.map (dv κ σ):=List.map_congr_left fun x hx=>by
  unfold dv
  rw[(hfd x hx).1,(ZdY (hok x hx)).1]
 refine ZdV (E:=⟨[],t,true,k,c,dyn⟩) hT hop hd (κ:=noCln true κ1) (by rw[hsv];exact hmk) w0 F0 X0 κ' σ a w F1 fp1 kk r K Q hst' ?_ ?_ (by rw[hdv];exact hdn) hK
 ·unfold Eff.κ
  rw[if_pos (by rw[Zn,hlen];exact htgt),←hκ]
  rfl
 ·unfold Z7
  rw[List.all_eq_true]
  intro x hx
  rw[(hfd x hx).2]
  rfl
theorem Ztm {R:Type} {P:Program} {o:Oper} {κ:List Kd} {E:Eff R} (hdst:o.dst=none) (hput:E.put=false)
 (H :∀(w0:World) (F0:Nat→Prop) (X0:List Nat) (κ1:List Kd) (σ:List PV) (a:Act) (w:World) (F F1:Nat→Prop) (fp fp1:Nat→List Nat) (kk:PV→Option R) (r:R),
  St w0 F0 X0 κ σ a.tmps w F fp→St w0 F0 X0 κ1 σ a.tmps w F1 fp1→E.tgt<κ.length→Zac E.tgt E.gh κ=some κ1→(∀b,F b→F1 b)→(∀b∈fp E.tgt,b∈fp1 E.tgt)→(∀g∈E.gh,Zff g σ a.tmps w F1 (fp1 E.tgt))→
  Z7 κ σ o.op.operands.toList=true→E.dyn (o.op.operands.toList.map (dv κ σ)) kk=some r→
  ∃ (x:PV) (u:Value) (w':World) (l:List Nat),(execOp a.eval o).run P w=.ok (.value u) w'∧kk x=some r∧
   w'.os=w.os∧w'.tape=w.tape∧w'.output=w.output∧w'.heap.size=w.heap.size∧(∀b,b<w.heap.size→b∉fp1 E.tgt→w'.heap[b]?=w.heap[b]?)∧
   l.Nodup∧SR w' F1 E.k x (tv a.tmps E.tgt) l∧(∀b∈l,b∈fp1 E.tgt)∧E.k.dep=none∧
   ((kd κ1 E.tgt).isBox=true→E.k.isBox=true∧∀k y u,k.bdep=some E.tgt→E.cut.fn E.tgt k=false→Al a.tmps w k y u→Al a.tmps w' k y u)):ZN P o κ E:=by
 intro w0 F0 X0 κ' σ a w F fp kk r K Q h hκ hlv hd hK
 unfold Eff.κ at hκ
 split at hκ
 case isFalse=>cases hκ
 rename_i htgt
 obtain ⟨κ1,h1,h2⟩:=Option.map_eq_some_iff.1 hκ
 have hmd:E.md=true:=by unfold Eff.md;rw[hput];rfl
 have h3:Zga (noCln true κ1) E.tgt E.cut E.k=κ':=by simpa[hput,hmd] using h2
 subst h3
 obtain ⟨F1,fp1,hst,hF,hfp,hall⟩:=Zbq E.gh κ κ1 F fp h h1
 obtain ⟨x,u,w',l,hrun,hkk,e1,e2,e3,e4,e5,e6,e7,e8,e9,e10⟩:=H w0 F0 X0 κ1 σ a w F F1 fp fp1 kk r h hst htgt h1 hF hfp hall hlv hd
 have hlen:κ1.length=κ.length:=by rw[hst.lk,h.lk]
 have hst':Stays w F1 w' F1:=⟨fun _ h=>h,fun b hb=>e5 b (hst.fl b hb) fun hc=>(hst.pr _ b hc).2.1 hb⟩
 have:=(hst.noCln true).mod (ks:=E.k) (xs:=x) (l:=l) (fps:=l) (E.cut.fn E.tgt) (by rw[Zn,hlen];exact htgt) e1 e2 e3 (by rw[e4];exact Nat.le_refl _) e5 (fun _ h=>h) (fun _ h=>.inl h) (fun b hb=>by rw[e4];exact hst.fl b hb) e6 (fun _ h=>h) e7 (fun b hb=>⟨.inl (e8 b hb),by rw[e4];exact (hst.pr _ b (e8 b hb)).1,(hst.pr _ b (e8 b hb)).2.1⟩) (fun _=>ZbV e9 _ _) (Znr e9) (fun k hk=>by rw[Cut.fn_dep hk];simp) (Zbh κ1) (fun k hk hc hb=>let q:=e10 (by rw[Zc3] at hb;exact hb);⟨q.1,fun x v=>q.2 k x v hk hc⟩)
 refine Zns hrun (hK x u w' F1 (fun t=>if t=E.tgt then l else fp1 t) ?_ hkk)
 rw[hdst]
 exact this
def tlV (x:SV) (dx dl:DV):Option PV:=(Zh x dx).bind fun l=>(ZfE l.length (some dl.v)).bind fun i=>match l with|[]=>none|_::_=>some (.int .i64 i)
def Zl4 {R:Type} (T:Tab) (d:Nat) (t:TypeId) (x lo:SV):Option (Eff R):=
 match T.lookup t with
 |none=>none
 | some ti=>
  match ti.desc with
  | .slice e=>
   match T.lookup e with
   |none=>none
   | some te=>
    if lo.isV=true∧te.size=1 then
     match Z8 x,ZaJ x with
     |some (some (true,e',sz)),some (q,none)=>if q=d∨e'≠e∨sz≠te.size then none else some (Zj d (.tl q) (ZaV (tlV x)))
     |_,_=>none
    else none
  |_=>none
def Zh2 {R:Type} (T:Tab) (d:Nat) (t:TypeId) (x:SV) (lo hi:Option SV):Option (Eff R):=
 match ZhY T d t x lo hi with
 |some E=>some E
 | none=>match lo,hi with
  |some l,none=>Zl4 T d t x l
  |_,_=>none
def clrV (z:PV) (dx:DV):Option PV:=
 match dx.v,dx.pv with
 |.int _ i,.lst l=>some (.lst (l.take i.toNat++List.replicate (l.length - i.toNat) z))
 |_,_=>none
def ZjB {R:Type} (T:Tab) (t:TypeId) (x:SV):Option (Eff R):=
 match T.lookup t with
 |none=>none
 | some ti=>
  match ti.desc with
  | .slice e=>
   match T.lookup e with
   |none=>none
   | some te=>
    match x.k,x.pk with
    |.tl q,.ck (.own true e' sz)=>if e'=e∧sz=1∧te.size=1∧te.agg=false∧(te.zero.all fun z=>z≠.other)=true then some {gh:=[],tgt:=q,put:=false,k:=.ck (.own true e' sz),cut:=.no,dyn:=Zbl (clrV (ZaN te))} else none
    |_,_=>none
  |_=>none
section
variable {R :Type} {P:Program} {T:Tab} {o:Oper} {κ κ1:List Kd} {E:Eff R}
variable {w0 :World} {F0:Nat→Prop} {X0:List Nat} {σ:List PV} {a:Act} {w:World} {F F1:Nat→Prop} {fp fp1:Nat→List Nat}
theorem Zsg (h:St w0 F0 X0 κ σ a.tmps w F fp) {x:Operand} (hlx:ZaM κ σ x) {q:Nat} (hA:ZaJ (sv κ x)=some (q,none)):tv a.tmps q=a.eval x:=by
 unfold ZaJ at hA
 split at hA
 ·rename_i hk
  cases x with
  |tmp t=>cases hA;rfl
  |const v=>cases hA
  |global g=>cases hA
  |func f=>cases hA
 ·rename_i q' hk
  cases hA
  have hal:=h.al' x hlx
  rw[hk] at hal
  exact hal
 ·cases hA
 ·cases hA
theorem ZoP (hT:TabOk P T) {t:TypeId} {x lo:Operand} {d:Nat} (hop:o.op=.slice t x (some lo) none none) (hd:o.dst=some d) (hE:Zl4 T d t (sv κ x) (sv κ lo)=some E):ZN P o κ E:=by
 have hops:o.op.operands.toList=[x,lo]:=by rw[hop];rfl
 unfold Zl4 at hE
 split at hE
 case h_1=>cases hE
 rename_i ti hti
 obtain ⟨ht⟩:=hT.ty hti
 split at hE
 case h_2=>cases hE
 rename_i e hds
 have hus:=ZT ht hds
 split at hE
 case h_1=>cases hE
 rename_i te hte
 obtain ⟨he⟩:=hT.ty hte
 split at hE
 case isFalse=>cases hE
 rename_i hhv
 split at hE
 case h_2=>cases hE
 rename_i e' sz q hK hA
 split at hE
 case isTrue=>cases hE
 rename_i hne
 simp only[not_or,Decidable.not_not] at hne
 obtain ⟨hqd,rfl,rfl⟩:=hne
 cases hE
 have hel:P.elem t=e':=by simp[Program.elem,hus]
 have hus':P.underlying t=some (.slice (P.elem t)):=by rw[hel];exact hus
 refine ZJ hd rfl rfl fun w0 F0 X0 σ a w F fp kk r h htt hlv hdy=> ?_
 rw[hops] at hdy
 obtain ⟨z,hz,hkk⟩:=Option.bind_eq_some_iff.1 (show (tlV (sv κ x) (dv κ σ x) (dv κ σ lo)).bind kk=some r from hdy)
 unfold tlV at hz
 obtain ⟨l,hl,hz⟩:=Option.bind_eq_some_iff.1 hz
 obtain ⟨i,hi,hz⟩:=Option.bind_eq_some_iff.1 hz
 have hlx:ZaM κ σ x:=Zc hlv (by rw[hops];exact .head _)
 obtain ⟨q',i',lb,q1,q2,q3,q4⟩:=ZbA h (x:=x) hlx (l:=l) hl hK
 have hne:l≠[]:=by intro e;rw[e] at hz;cases hz
 have hz':z=.int .i64 i:=by
  cases l with
  |nil=>exact absurd rfl hne
  |cons y r=>cases hz;rfl
 subst hz'
 have htv:=Zsg h hlx hA
 rw[Zr (Zaa he.hsm)] at q2
 rcases q2 with ⟨g1,rfl,g3⟩|⟨g,cap,cur,fr,g1,g2,g3,g4,g5,g6,g7,g8,g9⟩
 ·exact absurd rfl hne
 have hu:=rdS h hhv.1
 have e2:∀z,some (dv κ σ lo).v=some z→∃v,some (a.eval lo)=some v∧∀k i,z=.int k i→v=.int k i:=fun z hz=>⟨_,rfl,fun k i ee=>by
  simp only[Option.some.injEq] at hz
  rw[hz,ee] at hu
  exact hu.int_eq⟩
 have hb0:Zh8 l.length (some (dv κ σ lo).v)=some i:=by
  cases hv:(dv κ σ lo).v<;>rw[hv] at hi<;>first|exact hi|cases hi
 obtain ⟨r1,r2,r3⟩:=Zhq (P:=P) (c:=cap) g6 (isS:=true) (hi:=none) (vh:=none) (h:=l.length) (by rfl) hb0 e2 (fun hc=>by cases hc) (fun z hz=>by cases hz) (fun _=>rfl) w
 refine ⟨_,.slice (some ⟨g,if cap=i then 0 else i,none⟩) (l.length - i) (cap - i),w,F,[], ?_,hkk,Adds.refl w h.fl,List.nodup_nil,rfl,by simp,fun _=> ?_,fun q hq=>by cases hq⟩
 ·have h4:=he.run_sizeOf w
  simp only[execOp,hop,Option.map_none,Option.map_some,Sem.run_bind,run_sliceAt_slice w t _ _ _ _ hus']
  rw[g1,run_slice_any w t _ _ _ hus',r1]
  simp only[hel,h4,sliced,Addr.add,hhv.2,Sem.run_bind,Result.andThen_ok,Option.map_some,Nat.mul_one]
  by_cases hc:cap=i
  ·simp[hc]
  ·by_cases hi0:i=0<;>simp[hc,hi0]
 ·refine ⟨i,g,l.length,cap,_,rfl,r2, ?_,rfl,fun hlt=>by rw[if_neg (by omega)]⟩
  rw[Za6,if_neg (fun c=>hqd c.1),htv]
  exact g1
theorem Zl5 (hT:TabOk P T) {t:TypeId} {x:Operand} {lo hi:Option Operand} {d:Nat} (hop:o.op=.slice t x lo hi none) (hd:o.dst=some d) (hE:Zh2 T d t (sv κ x) (lo.map (sv κ)) (hi.map (sv κ))=some E):ZN P o κ E:=by
 unfold Zh2 at hE
 split at hE
 ·rename_i E' hE'
  cases hE
  exact ZlW hT hop hd hE'
 ·cases lo with
  |none=>cases hi<;>cases hE
  | some l=>cases hi with
   |none=>exact ZoP hT hop hd hE
   |some u=>cases hE
theorem Znq (hT:TabOk P T) {t:TypeId} {x:Operand} (hop:o.op=.call {callee:=.builtin .clear,args:= #[x],argTypes:= #[t]}) (hd:o.dst=none) (hE:ZjB T t (sv κ x)=some E):ZN P o κ E:=by
 have hops:o.op.operands.toList=[x]:=by rw[hop];rfl
 unfold ZjB at hE
 split at hE
 case h_1=>cases hE
 rename_i ti hti
 obtain ⟨ht⟩:=hT.ty hti
 split at hE
 case h_2=>cases hE
 rename_i e hds
 have hus:=ZT ht hds
 split at hE
 case h_1=>cases hE
 rename_i te hte
 obtain ⟨he⟩:=hT.ty hte
 split at hE
 case h_2=>cases hE
 rename_i q e' sz hk hpk
 split at hE
 case isFalse=>cases hE
 rename_i hc
 obtain ⟨rfl,rfl,hs1,hag,hzo⟩:=hc
 cases hE
 have hk':kOp κ x=.tl q:=hk
 have hq:kd κ q=.ck (.own true e' 1):=by simpa[sv,hk',Kd.dep] using hpk
 refine Ztm hd rfl fun w0 F0 X0 κ1 σ a w F F1 fp fp1 kk r h h1 htt hg hF hfp hall hlv hdy=> ?_
 cases hg
 rw[hops] at hdy
 obtain ⟨z,hz,hkk⟩:=Option.bind_eq_some_iff.1 (show (clrV (ZaN te) (dv κ σ x)).bind kk=some r from hdy)
 have hlx:ZaM κ σ x:=Zc hlv (by rw[hops];exact .head _)
 have hal:=h1.al' x hlx
 rw[hk] at hal
 obtain ⟨i,b,n,cap,off,a1,a2,a3,a4,a5⟩:=hal
 obtain ⟨lb,hn,hsub,hsr⟩:=h1.sr q
 rw[hq] at hsr
 obtain ⟨l,e1,hrow⟩:=hsr
 have e2:(dv κ σ x).pv=.lst l:=by simpa[dv,hk',Kd.dep] using e1
 unfold clrV at hz
 rw[a1,e2] at hz
 simp only[Int.toNat_natCast,Option.some.injEq] at hz
 subst hz
 rw[a3,Zr (by decide)] at hrow
 rcases hrow with ⟨g1,_,_⟩|⟨g,cap',cur,fr,g1,g2,g3,g4,g5,g6,g7,g8,g9⟩
 ·cases g1
 simp only[Value.slice.injEq,Option.some.injEq,Addr.mk.injEq,and_true] at g1
 obtain ⟨rfl,rfl,rfl⟩:=g1
 have hgq:b∈fp1 q:=hsub b (by rw[g2];simp)
 obtain ⟨u,z1,z2,z3,z4⟩:=Zi3 he hzo (.inr hs1) (w:=w) (F:=F1)
 have hzs:he.zv.cells.size=1:=by rw[he.hzs];exact hs1
 obtain ⟨c0,hc0⟩:∃c0,he.zv.cells= #[c0]:=⟨he.zv.cells[0]'(by omega),by
  apply Array.ext
  ·simpa using hzs
  ·intro j h1 h2
   have:j=0:=by omega
   subst this
   rfl⟩
 have hone:c0.oneCell'=true:=z1.store z4 c0 (by rw[z2,hc0];simp)
 have hlen:(l.take i++List.replicate (l.length - i) (ZaN te)).length=l.length:=by simp;omega
 by_cases h0:l.length - i=0
 ·have hil:i=l.length:=by omega
  have hrun:(execOp a.eval o).run P w=.ok (.value (.tuple #[])) w:=by
   obtain ⟨cs,hcs⟩:=Zai (P:=P) hop a.eval w
   rw[hcs]
   simp[builtin,a4,h0,Builtin.clear_,run_underlying hus]
  refine ⟨_,.tuple #[],w,[b],hrun,hkk,rfl,rfl,rfl,rfl,fun _ _ _=>rfl,by simp,⟨_,rfl, ?_⟩,fun c hc=>by rw[List.mem_singleton] at hc;subst hc;exact hgq,rfl,fun hbx=> ?_⟩
  ·rw[a3,Zr (by decide)]
   refine .inr ⟨b,cap,cur,fr,by rw[hlen],rfl,g3,g4,g5,by rw[hlen];exact g6,g7,g8, ?_⟩
   rw[h0,hil]
   simpa using g9
  ·rw[hq] at hbx;cases hbx
 ·have hoff:off=i:=a5 (by omega)
  subst hoff
  have hsp:off+(List.replicate (l.length - off) c0).length≤cur.toList.length:=by simp;omega
  have hst:=Zcy P b off e' fr cur.size g5 (List.replicate (l.length - off) c0) 0 cur w g3 rfl (by simp;omega) (fun v hv=>by rw[List.eq_of_mem_replicate hv];exact hone)
  simp only[Nat.add_zero] at hst
  have hzc:(Builtin.zeroCells he.zv.cells (l.length - off)).toList=List.replicate (l.length - off) c0:=by
   rw[hc0]
   simp[Builtin.zeroCells]
   apply List.ext_getElem
   ·simp
   ·intro i h1 h2
    simp[Nat.mod_one]
  have hrun:(execOp a.eval o).run P w=.ok (.value (.tuple #[])) (w.setRow b (splice cur.toList off (List.replicate (l.length - off) c0)).toArray):=by
   obtain ⟨m,hm⟩:∃m,l.length - off=m+1:=⟨l.length - off - 1,by omega⟩
   rw[hm] at hst hzc⊢
   obtain ⟨cs,hcs⟩:=Zai (P:=P) hop a.eval w
   rw[hcs]
   simp[builtin,a4,hm,Builtin.clear_,run_underlying hus,he.run_zero,hzc,hst]
  have hstay:Stays w F1 (w.setRow b (splice cur.toList off (List.replicate (l.length - off) c0)).toArray) F1:=⟨fun _ h=>h,fun c hc=>setRow_other w b c _ (fun e=>(h1.pr _ b hgq).2.1 (e▸hc))⟩
  refine ⟨_,.tuple #[],w.setRow b (splice cur.toList off (List.replicate (l.length - off) c0)).toArray,[b],hrun,hkk,rfl,rfl,rfl,ZbX _ _ _,fun c _ hc=>setRow_other w b c _ (fun e=>hc (e▸hgq)),by simp,⟨_,rfl, ?_⟩,fun c hc=>by rw[List.mem_singleton] at hc;subst hc;exact hgq,rfl,fun hbx=> ?_⟩
  ·rw [a3,Zr (by decide)]
   refine .inr ⟨b,cap,_,fr,by rw[hlen],rfl,setRow_heap w b cur _ e' fr g3,g4,by simpa[Z3 hsp] using g5,by rw[hlen];exact g6,g7,by simp only[List.size_toArray];rw[Z3 hsp];simpa using g8,fun j x' hx'=> ?_⟩
   rw[List.getElem?_append] at hx'
   by_cases hj:j<off
   ·rw[if_pos (by simp;omega),List.getElem?_take_of_lt hj] at hx'
    obtain ⟨k1,k2,v,k3,k4⟩:=g9 j x' hx'
    refine ⟨k1,k2,v,k3.keep hstay,fun jj c hcc=> ?_⟩
    have hjj:jj=0:=by
     have h1':=(Array.getElem?_eq_some_iff.1 hcc).1
     have h2':=(k3.cells k2).1
     omega
    subst hjj
    have:=k4 0 c hcc
    rw[List.getElem?_toArray,Z5 hsp,if_neg (by omega)]
    simpa using this
   ·have hjl:j<l.length:=by
     by_cases hjl:j<l.length
     ·exact hjl
     ·rw[if_neg (by simp;omega),List.getElem?_eq_none (by simp;omega)] at hx';cases hx'
    rw[if_neg (by simp;omega),List.getElem?_replicate,if_pos (by simp;omega)] at hx'
    cases hx'
    refine ⟨by rw[z3,hs1],z4,u,z1.keep hstay,fun jj c hcc=> ?_⟩
    rw[z2,hc0] at hcc
    have hjj:jj=0:=by
     have:=(Array.getElem?_eq_some_iff.1 hcc).1
     simpa using this
    subst hjj
    simp at hcc
    subst hcc
    rw[List.getElem?_toArray,Z5 hsp,if_pos (by simp;omega),List.getElem?_replicate,if_pos (by omega)]
  ·rw[hq] at hbx;cases hbx
end
end Go.Proofs.YtjjobbamoeaogaaDoor
