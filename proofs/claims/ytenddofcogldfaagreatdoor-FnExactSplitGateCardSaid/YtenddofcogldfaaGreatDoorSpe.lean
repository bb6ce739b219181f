import Derived.Test.YtenddofcogldfaaGreatDoorSpo
import Derived.Test.YtenddofcogldfaaGreatDoorOwn
namespace Go.Proofs.YtenddofcogldfaaGreatDoor
open Go.RowKit
set_option linter.unusedVariables false
theorem ZfK {α β:Type} {f:α→β} (hf:∀a b,f a=f b→a=b):∀{l m:List α},l.map f=m.map f→l=m
 |[],[],_=>rfl
 |[],_::_,h=>by cases h
 |_::_,[],h=>by cases h
 | a::l,b::m,h=>by
  rw[List.map_cons,List.map_cons] at h
  injection h with h1 h2
  rw[hf a b h1,ZfK hf h2]
theorem Zq8 (a b:Pin) (h:Zbo a=Zbo b):a=b:=by
 cases a;cases b
 simp[Zbo,pI,pB] at h
 simp[h]
theorem Zq9 (a b:Sig) (h:ZaW a=ZaW b):a=b:=by
 cases a;cases b
 simp[ZaW,pI] at h
 simp[h]
theorem Zpe (a b:Wire) (h:Zav a=Zav b):a=b:=by
 cases a;cases b
 simp only[Zav,pI,PV.agg.injEq,List.cons.injEq,PV.str.injEq,PV.int.injEq,PV.lst.injEq,and_true,true_and] at h
 obtain ⟨h1,h2,h3,h4⟩:=h
 subst h1 h2
 rw[ZfK Zq8 h3,ZfK (f:=PV.str) (fun a b h=>by cases h;rfl) h4]
def Zd1 (ss:List Sig) (l:List Wire):PV:=.agg [.lst (ss.map ZaW),.lst (l.map Zav)]
structure SpoIn (cp nm ct vd:List PV→Option PV) (ss:List Sig) (l:List Wire) (k:Nat) (x:Wire) (qs:List Int) (name:List UInt8) (b:Bool):Prop where
 hk:l[k]?=some x
 hl:l.length≤100
 hq:qs.length≤1000000
 hi:∀q∈qs,InI q
 hs:∀s∈ss,s.name.length≤9223372036854775807∧InI s.kind
 hw:∀x∈l,x.name.length≤9223372036854775807∧InI x.kind∧x.ins.length≤100000∧(∀p∈x.ins, -1000000≤p.at_∧p.at_≤1000000)∧∀s∈x.cover,s.length≤9223372036854775807
 cp:cp [Zd1 ss l]=some (Zd1 ss l)
 nm:nm [Zd1 ss l]=some (.str name)
 ct:∀j:Nat,j≤1000000→ct [.lst (qs.map pI),pI j]=some (pB (decide ((j:Int)∈qs)))
 vd:vd [Zd1 ss (ZbJ l k x qs name)]=some (pB b)
def spoR (ss:List Sig) (l:List Wire) (k:Nat) (x:Wire) (qs:List Int) (name:List UInt8) (b:Bool):PV:=.tup [if b=true then Zd1 ss (ZbJ l k x qs name) else .agg [.lst [],.lst []],pB b]
def Zpf (cp nm ct vd:List PV→Option PV) (xs:List PV) (r:PV):Prop:=
 ∃ss l k x qs name b,SpoIn cp nm ct vd ss l k x qs name b∧xs=[Zd1 ss l,pI (k:Nat),.lst (qs.map pI)]∧r=spoR ss l k x qs name b
open Classical in
noncomputable def Zpg (cp nm ct vd:List PV→Option PV) (xs:List PV):Option PV:=if h:∃r,Zpf cp nm ct vd xs r then some h.choose else none
theorem ZsQ {cp nm ct vd:List PV→Option PV} {xs:List PV} {r:PV} (h:Zpg cp nm ct vd xs=some r):Zpf cp nm ct vd xs r:=by
 unfold Zpg at h
 split at h
 ·rename_i hh;cases h;exact hh.choose_spec
 ·cases h
theorem ZsR {ss ss':List Sig} {l l':List Wire} (h:Zd1 ss l=Zd1 ss' l'):ss=ss'∧l=l':=by
 simp only[Zd1,PV.agg.injEq,List.cons.injEq,PV.lst.injEq,and_true] at h
 exact ⟨ZfK Zq9 h.1,ZfK Zpe h.2⟩
theorem ZtE {cp nm ct vd:List PV→Option PV} {ss:List Sig} {l:List Wire} {k:Nat} {x:Wire} {qs:List Int} {name:List UInt8} {b:Bool} (h:SpoIn cp nm ct vd ss l k x qs name b):
 Zpg cp nm ct vd [Zd1 ss l,pI k,.lst (qs.map pI)]=some (spoR ss l k x qs name b):=by
 unfold Zpg
 have hh:∃r,Zpf cp nm ct vd [Zd1 ss l,pI k,.lst (qs.map pI)] r:=⟨_,ss,l,k,x,qs,name,b,h,rfl,rfl⟩
 rw[dif_pos hh]
 obtain ⟨ss',l',k',x',qs',name',b',h',e1,e2⟩:=hh.choose_spec
 rw[e2]
 simp only[List.cons.injEq,and_true] at e1
 obtain ⟨e1,e3,e4⟩:=e1
 obtain ⟨rfl,rfl⟩:=ZsR e1
 have e5:k=k':=by simp only[pI,PV.int.injEq,true_and] at e3;omega
 subst e5
 have e6:qs=qs':=ZfK (f:=pI) (fun a b h=>by cases h;rfl) (by simpa using e4)
 subst e6
 obtain rfl:x=x':=Option.some.inj (h.hk.symm.trans h'.hk)
 obtain rfl:name=name':=by have:=h.nm.symm.trans h'.nm;cases this;rfl
 obtain rfl:b=b':=by have:=h.vd.symm.trans h'.vd;cases this;rfl
 rfl
theorem dkW :Zgh 1000000=some [none,none,some (68,2),some (9,1)]:=by rfl
theorem Zra {cp:List PV→Option PV} {s1:Bool} (oc:FnOk Tryz.prog ⟨46,[.ck .val],.grp false [.own true 70 2,.own true 51 1000000],s1,cp⟩) {ss:List Sig} {l:List Wire} (hne:l≠[])
 (hs:∀s∈ss,s.name.length≤9223372036854775807∧InI s.kind) (hw:∀x∈l,(∀p∈x.ins,InI p.at_)∧∀s∈x.cover,s.length≤9223372036854775807) (hcp:cp [Zd1 ss l]=some (Zd1 ss l)) {w:World} {v:Value} (hv:VR w (fun b=>b<w.heap.size) (Zd1 ss l) v) (hg:GOk w (fun b=>b<w.heap.size)):
 Calls Tryz.prog 46 #[v] w fun e w2=>∃As cs g c hs,e=.returned (.agg #[.slice As ss.length cs,.slice (some ⟨g,0,none⟩) l.length c])∧Own Zm w2 w.heap.size 70 As cs ss∧WRow w2 w.heap.size 51 68 9 g c l hs∧(∀q,blk As=some q→gB g hs q→False)∧Below w.heap.size w w2:=by
 refine (oc.call w (fun b=>b<w.heap.size) [Zd1 ss l] [v] _ ⟨fun _ h=>h,hg⟩ (Zek (.cons hv .nil)) hcp).mono ?_
 rintro en w' ⟨u,F',l',rfl,ha,hnd,hsr,hfresh,_⟩
 obtain ⟨cs,ys,fps,hu,hy,hgr,rfl⟩:=hsr
 simp only[Bool.false_eq_true,if_false] at hu hy
 have hy':[PV.lst (ss.map ZaW),.lst (l.map Zav)]=ys:=by unfold Zd1 at hy;injection hy
 subst hy'
 obtain ⟨cl⟩:=cs
 subst hu
 dsimp only at hgr
 cases hgr with
 | cons g1 _ tx=>
  cases tx with
  | cons g2 _ tx=>
   cases tx
   obtain ⟨l0,h0,g1⟩:=g1
   cases h0
   obtain ⟨l0,h0,g2⟩:=g2
   cases h0
   simp only[List.flatten_cons,List.flatten_nil,List.append_nil] at hnd
   obtain ⟨nd1,nd2,nd3⟩:=List.nodup_append.1 hnd
   obtain ⟨A,c,rfl,ho,hq⟩:=ZbZ (S:=Zm) (f:=ZaW) (base:=w.heap.size) (fun x hx=>Zlg (hs x hx)) g1 (fun b hb=>(hfresh b (by simp[hb])).1)
   obtain ⟨g,c2,hs2,rfl,ho2,hq2⟩:=WRow.ofDeep (base:=w.heap.size) hw ((Zax dkW).1 g2).2 hne nd2 (fun b hb=>(hfresh b (by simp[hb])).1)
   exact ⟨A,c,g,c2,hs2,rfl,ho,ho2,fun q e1 e2=>nd3 q (hq q e1) q (hq2 q e2) rfl,ha.below⟩
theorem spoOk {cp nm ct vd:List PV→Option PV} {s1 s2 s3 s4:Bool} {fn:Func} (hf:Tryz.prog.funcs[23]?=some fn) (hname:(fn.name== "runtime.NumGoroutine")=false) (hb:fn.body.isSome=true)
 (oc:FnOk Tryz.prog ⟨46,[.ck .val],.grp false [.own true 70 2,.own true 51 1000000],s1,cp⟩)
 (on:FnOk Tryz.prog ⟨47,[.ck .val],.ck .val,s2,nm⟩) (ot:FnOk Tryz.prog ⟨48,[.ck .val,.ck .val],.ck .val,s3,ct⟩) (ov:FnOk Tryz.prog ⟨19,[.ck .val],.ck .val,s4,vd⟩):
 FnOk Tryz.prog ⟨23,[.ck .val,.ck .val,.ck .val],.tgr [some 2,none] [.own true 70 2,.own true 51 1000000,.val],false,Zpg cp nm ct vd⟩:=by
 refine ⟨fun args w=> ?_,rfl,fun w F xs vs r hF hargs hr=> ?_,fun _ _ _ hc=>(by cases hc),fun _ _ _ hc=>(by cases hc),fun K rest hK hps=>(by cases hps;cases hK),fun hc=>(by cases hc)⟩
 ·have h1:fn.name≠ "runtime.NumGoroutine":=by simpa using hname
  have h2:fn.body≠none:=fun e=>by rw[e] at hb;cases hb
  simp[callFunc,hf,h1,h2]
 obtain ⟨ss,l,k,x,qs,name,b,H,rfl,rfl⟩:=ZsQ hr
 cases hargs with
 | cons h1 _ hargs=>
  cases hargs with
  | cons h2 _ hargs=>
   cases hargs with
   | cons h3 _ hargs=>
    cases hargs
    obtain ⟨h1,_⟩:=h1
    obtain ⟨h2,_⟩:=h2
    obtain ⟨h3,_⟩:=h3
    cases h2
    have hlt:∀b,F b→b<w.heap.size:=fun b hb=>hF b hb
    obtain ⟨y,z,rfl,k1,k2⟩:=Zny h1
    obtain ⟨A1,c1,rfl,hr1,hlc1,hcm1⟩:=Zj2 (S:=Zm) (f:=ZaW) (fun x hx=>Zlh (H.hs x hx)) hlt k1
    obtain ⟨A2,c2,rfl,hr2,hlc2,hcm2⟩:=Zj2 (S:=Zx) (f:=Zav) (fun x hx=>by
     obtain ⟨e1,e2,e3,e4,e5⟩:=H.hw x hx
     exact ZjE ⟨e1,e2,fun p hp=>by have:=e4 p hp;constructor<;>omega,e5⟩) hlt k2
    obtain ⟨A3,c3,rfl,hr3,hlc3,hcm3⟩:=Zj2 (S:=ZB) (f:=pI) (fun x hx=>Zrc (H.hi x hx)) hlt h3
    have hne:l≠[]:=fun e=>by have:=H.hk;rw[e] at this;cases this
    have hst:∀w',Below w.heap.size w w'→Stays w F w' (fun b=>b<w'.heap.size):=fun w' hw=>⟨fun b hb=>Nat.lt_of_lt_of_le (hF b hb) hw.size,fun b hb=>hw.block b (hF b hb)⟩
    have hgk:∀w',Below w.heap.size w w'→GOk w' (fun b=>b<w'.heap.size):=fun w' hw=>hF.gk.keep (hst w' hw)
    refine (ZkL A1 A2 A3 c1 c2 c3 k ss l x qs name b w H.hk H.hl H.hq (H.hw x (List.mem_of_getElem? H.hk)).2.2.1 ⟨hlc2,by simpa[maxLen] using hcm2⟩ hr2 hr3 (fun x hx=>⟨(H.hw x hx).2.2.1,(H.hw x hx).2.2.2.1⟩)
     (fun w' hw=>Zra oc hne H.hs (fun x hx=>⟨fun p hp=>by have:=(H.hw x hx).2.2.2.1 p hp;constructor<;>omega,(H.hw x hx).2.2.2.2⟩) H.cp (h1.keep (hst w' hw)) (hgk w' hw))
     (fun w' hw=> ?_) (fun w' j hw hj=>FnOk.bool ot rfl rfl (.cons (h3.keep (hst w' hw)) (.cons (.int .i64 _) .nil)) (H.ct j hj) (hgk w' hw))
     (fun w' v hw hv=>FnOk.bool ov rfl rfl (.cons hv .nil) H.vd (hgk w' hw))).mono ?_
    ·refine (on.call w' (fun b=>b<w'.heap.size) [Zd1 ss l] [_] _ ⟨fun _ h=>h,hgk w' hw⟩ (Zek (.cons (h1.keep (hst w' hw)) .nil)) H.nm).mono ?_
     rintro en w2 ⟨v,F',l',rfl,ha,_,hsr,_⟩
     obtain ⟨hv,_⟩:=hsr
     cases hv
     exact ⟨rfl,ha.below⟩
    ·rintro en w' ⟨As,cs,g,c,hs,rfl,o1,o2,hdj,hbl⟩
     have had:Adds w F w' F:=⟨hbl.os,hbl.tape,hbl.output,hbl.size,hbl.block,fun _ h=>h,fun _ h=>.inl h,fun b h=>Nat.lt_of_lt_of_le (hF b h) hbl.size⟩
     cases b
     ·exact ⟨_,F,[],rfl,had,List.nodup_nil,⟨_,_,[[],[],[]],rfl,rfl,⟨⟨_,_,rfl,rfl,rfl,rfl⟩,rfl,rfl,trivial⟩,.cons ⟨[],rfl,Zam.nil_⟩ (fun _=>rfl) (.cons ⟨[],rfl,Zam.nil_⟩ (fun _=>rfl) (.cons ⟨.bool _,rfl⟩ (fun _=>rfl) .nil)),rfl⟩,by simp,fun hc=>by cases hc⟩
     ·obtain ⟨fp1,a1,a2,a3,a4⟩:=Zli (F:=F) o1
      obtain ⟨fp2,b1,b2,b3⟩:=WRow.deep (F:=F) o2
      refine ⟨_,F,fp1++fp2,rfl,had,List.nodup_append.2 ⟨a2,b2,fun p hp q hq e=>hdj p ((a3 p).1 hp) (by rw[e];exact b3 q hq)⟩,⟨_,_,[fp1,fp2,[]],rfl,rfl,⟨⟨_,_,rfl,rfl,rfl,rfl⟩,rfl,rfl,trivial⟩,.cons ⟨_,rfl,(Zo (ZX (by decide))).2 a1⟩ (fun _=>rfl) (.cons ⟨_,rfl,(Zax dkW).2 ⟨rfl,b1⟩⟩ (fun _=>rfl) (.cons ⟨.bool _,rfl⟩ (fun _=>rfl) .nil)),by simp⟩,fun p hp=> ?_,fun hc=>by cases hc⟩
      have hp':w.heap.size≤p∧p<w'.heap.size:=by
       rcases List.mem_append.1 hp with hp|hp
       ·have:=a4 p hp;omega
       ·have:=o2.lt (b3 p hp);omega
      exact ⟨hp'.1,hp'.2,fun h=>by have:=hF p h;omega⟩
end Go.Proofs.YtenddofcogldfaaGreatDoor
