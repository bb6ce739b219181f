import Derived.Test.YtjjobbamoeaogaaDoorOwn
import Derived.Test.YtjjobbamoeaogaaDoorMarkWp
import Derived.Test.YtjjobbamoeaogaaDoorWq
namespace Go.Proofs.YtjjobbamoeaogaaDoor.Lw
open Go.RowKit
set_option linter.unusedVariables false
set_option linter.unusedSimpArgs false
theorem ownW_of_deep {w:World} {F:Nat→Prop} {base:Nat} {e tp ts:TypeId} {l:List Wire} {v:Value} {fp:List Nat} (H:∀x∈l,x.name.length≤9223372036854775807∧InI x.kind∧(∀p∈x.ins,InI p.at_)∧∀s∈x.cover,s.length≤9223372036854775807)
 (hr:Za4 w F e [none,none,some (tp,2),some (ts,1)] (l.map Zql) v fp) (hn:fp.Nodup) (hb:∀b∈fp,base≤b∧b<w.heap.size):∃A c hs,v=.slice A l.length c∧OwnW w base tp ts A c l hs∧∀q,wB A hs q→q∈fp:=by
 rcases hr with ⟨rfl,hl,_⟩|⟨g,cap,cur,fpss,rfl,rfl,hh,hle,hmax,hsz,hfl,hel⟩
 ·obtain rfl:l=[]:=by simpa using hl
  exact ⟨none,0,[],rfl,⟨by simp,rfl,fun h=>absurd rfl h,fun g hg=>by simp[blk] at hg,fun g o hg=>by simp[blk] at hg,fun g i x h hg=>by simp[blk] at hg,fun i x hx=>by simp at hx,fun i x h hx=>by simp at hx,fun i x h hx=>by simp at hx,
   fun i h b hi=>by simp at hi,fun i h b hi=>by simp at hi,fun i j h h' b _ hi=>by simp at hi⟩,fun q hq=>by rcases hq with hq|⟨i,h,hi,_⟩<;>simp[blk] at *⟩
 ·rw [List.length_map] at hle hfl⊢
  obtain ⟨n1,n2⟩:=List.nodup_cons.1 hn
  obtain ⟨hs,h1,h2⟩:=ZqS (P:=fun i x (h:WHd)=>∃lb1 lb2,fpss[i]?=some [[],[],lb1,lb2]∧Own Zbr w base tp h.A h.c x.ins∧Own ZB w base ts h.B h.d x.cover∧(∀q,blk h.A=some q→q∈lb1)∧(∀q,blk h.B=some q→q∈lb2)∧
   ∀(q:Nat) (u:Value),(h.cells x)[q]?=some u→cur[i * 4+q]?=some u) l fun i x hx=>by
   obtain ⟨u,fps,k1,k2,k3⟩:=hel i (Zql x) (by rw[List.getElem?_map,hx];rfl)
   have hin:∀b∈fps.flatten,base≤b∧b<w.heap.size:=fun b hb'=>hb b (List.mem_cons_of_mem _ (Zft k1 hb'))
   have hx':=H x (List.mem_of_getElem? hx)
   rcases k2 with ⟨xs,cs,e1,e2,e3⟩|⟨e1,_⟩
   case inr=>cases e1
   cases e1
   obtain ⟨cl⟩:=cs
   subst e2
   dsimp only at e3
   cases e3 with
   | val v0 _ e3=>
    cases e3 with
    | val v1 _ e3=>
     cases e3 with
     | row r1 e3=>
      cases e3 with
      | row r2 e3=>
       cases e3
       cases v0
       cases v1
       obtain ⟨A,c,rfl,o1,q1⟩:=Zfk (S:=Zbr) (f:=Zqm) (base:=base) (fun p hp=>ZqA (hx'.2.2.1 p hp)) ((Zr (Zaa (by decide))).2 r1) (fun b hb'=>(hin b (by simp[hb'])).1)
       obtain ⟨B,d,rfl,o2,q2⟩:=Zfk (S:=ZB) (f:=PV.str) (base:=base) (fun p hp=>Zrf (hx'.2.2.2 p hp)) ((Zr (Zaa (by decide))).2 r2) (fun b hb'=>(hin b (by simp[hb'])).1)
       exact ⟨⟨A,c,B,d⟩,_,_,k1,o1,o2,q1,q2,fun q u hu=>k3 q u (by simpa[Value.cells,WHd.cells] using hu)⟩
  have hd:∀(i:Nat) (h:WHd),hs[i]?=some h→∃x lb1 lb2,l[i]?=some x∧fpss[i]?=some [[],[],lb1,lb2]∧(∀q,blk h.A=some q→q∈lb1)∧(∀q,blk h.B=some q→q∈lb2):=fun i h hi=>by
   obtain ⟨x,hx⟩:=ZV (l:=l) (k:=i) (by have:=Zae hi;omega)
   obtain ⟨lb1,lb2,p1,_,_,p4,p5,_⟩:=h2 i x h hx hi
   exact ⟨x,lb1,lb2,hx,p1,p4,p5⟩
  have hfl1:∀(i:Nat) (fps:List (List Nat)),fpss[i]?=some fps→(fpss.map List.flatten)[i]?=some fps.flatten:=fun i fps h=>by rw[List.getElem?_map,h];rfl
  have hhas:∀(i:Nat) (h:WHd) (b:Nat),hs[i]?=some h→h.has b→∃fps,fpss[i]?=some fps∧b∈fps.flatten:=fun i h b hi hb'=>by
   obtain ⟨x,lb1,lb2,_,p1,p4,p5⟩:=hd i h hi
   refine ⟨_,p1, ?_⟩
   rcases hb' with hb'|hb'
   ·simp[p4 b hb']
   ·simp[p5 b hb']
  have hin:∀(i:Nat) (h:WHd) (b:Nat),hs[i]?=some h→h.has b→b∈(fpss.map List.flatten).flatten:=fun i h b hi hb'=>by
   obtain ⟨fps,p1,p2⟩:=hhas i h b hi hb'
   exact Zft p1 p2
  refine ⟨some ⟨g,0,none⟩,cap,hs,rfl,⟨⟨hle,by simpa[maxLen] using hmax⟩,h1,fun _=>⟨g,rfl⟩,fun g' hg=> ?_,fun g' o hg=> ?_,fun g' i x h hg hx hi q u hu=> ?_,fun i x hx=>⟨(H x (List.mem_of_getElem? hx)).1,(H x (List.mem_of_getElem? hx)).2.1⟩,fun i x h hx hi=> ?_,fun i x h hx hi=> ?_,fun i h b hi hb' hg=> ?_,fun i h b hi e1 e2=> ?_,fun i j h h' b hij hi hj e1 e2=> ?_⟩,fun q hq=> ?_⟩
  ·cases hg
   exact hb g (by simp)
  ·cases hg
   simp[World.frozen?,hh]
  ·cases hg
   obtain ⟨_,_,_,_,_,_,_,p6⟩:=h2 i x h hx hi
   rw[cell_of_row w g _ cur e (0,0) hh]
   exact p6 q u hu
  ·obtain ⟨_,_,_,p2,_⟩:=h2 i x h hx hi
   exact p2
  ·obtain ⟨_,_,_,_,p3,_⟩:=h2 i x h hx hi
   exact p3
  ·cases hg
   exact n1 (hin i h g hi hb')
  ·obtain ⟨x,lb1,lb2,_,p1,p4,p5⟩:=hd i h hi
   have hnd:=Zre n2 (hfl1 i _ p1)
   simp only[List.flatten_cons,List.flatten_nil,List.nil_append,List.append_nil] at hnd
   exact (List.nodup_append.1 hnd).2.2 b (p4 b e1) b (p5 b e2) rfl
  ·obtain ⟨f1,p1,p2⟩:=hhas i h b hi e1
   obtain ⟨f2,p3,p4⟩:=hhas j h' b hj e2
   exact Zra n2 hij (hfl1 i _ p1) (hfl1 j _ p3) p2 p4
  ·rcases hq with hq|⟨i,h,hi,hq⟩
   ·cases hq
    exact List.mem_cons_self
   ·exact List.mem_cons_of_mem _ (hin i h q hi hq)
variable {P :Program}
theorem ownNet {e:Ent} (he:FnOk P e) {t t2 tp ts:TypeId} {sz:Nat} (hrk:e.rk=.tgr [some 2,none] [.own true t 2,.own true t2 sz,.val]) (hdk:ZgB sz=some [none,none,some (tp,2),some (ts,1)]) {w:World} {xs:List PV} {vs:List Value} {n:Nl} {b:Bool}
 (hps:e.ps=List.replicate xs.length (.ck .val)) (hx:VRs w (fun b=>b<w.heap.size) xs vs) (hs:e.spec xs=some (.tup [.agg [.lst (n.signals.map Zqn),.lst (n.wires.map Zql)],pB b])) (hn:NlIn n) (hg:GOk w (fun b=>b<w.heap.size)):
 Calls P e.f vs.toArray w fun en w'=>∃A c A2 c2 hs,en=.returned (.tuple #[.agg #[.slice A n.signals.length c,.slice A2 n.wires.length c2],.bool b])∧Own Z1 w' w.heap.size t A c n.signals∧OwnW w' w.heap.size tp ts A2 c2 n.wires hs∧(∀q,blk A=some q→wB A2 hs q→False)∧Below w.heap.size w w':=by
 refine (he.call w (fun b=>b<w.heap.size) xs vs _ ⟨fun _ h=>h,hg⟩ (by rw[hps];exact ZiS hx) hs).mono ?_
 rintro en w' ⟨v,F',l',rfl,ha,hnd,hsr,hfresh,_⟩
 rw[hrk] at hsr
 obtain ⟨cs,ys,fps,rfl,hy,hsh,hg,hfp⟩:=hsr
 simp only[PV.tup.injEq] at hy
 subst hy
 subst hfp
 obtain ⟨cl⟩:=cs
 dsimp only at hsh hg
 obtain _|⟨u1,_|⟨u2,_|⟨u3,r⟩⟩⟩:=cl
 ·exact hsh.elim
 ·exact hsh.2.elim
 case cons.cons.cons=>exact hsh.2.2.2.elim
 obtain ⟨⟨la,ca,e1,rfl,k1,k2⟩,h1,h2,_⟩:=hsh
 have ev:Zc2 [.agg ca,u2]=ca.toList++[u2]:=by
  show ca.toList++(u2.cells.toList++[])=_
  rw[h2];rfl
 rw[ev] at hg
 simp only[ZcL,List.flatMap_cons,List.flatMap_nil,List.append_nil,PV.cells] at hg
 obtain ⟨ca⟩:=ca
 simp only[List.size_toArray] at k2
 dsimp only at hg
 obtain ⟨z1,z2,rfl⟩:∃z1 z2,ca=[z1,z2]:=by
  match ca,k2 with
  |[z1,z2],_=>exact ⟨z1,z2,rfl⟩
 simp only[List.cons_append,List.nil_append] at hg
 cases hg with
 | cons g0 _ tx=>
  cases tx with
  | cons g1 _ tx=>
   cases tx with
   | cons g2 _ tx=>
    cases tx
    obtain ⟨l0,h0,g0⟩:=g0
    cases h0
    obtain ⟨l0,h0,g1⟩:=g1
    cases h0
    obtain ⟨g2,rfl⟩:=g2
    cases g2
    simp only[List.flatten_cons,List.flatten_nil,List.append_nil] at hnd
    obtain ⟨nd1,nd2,nd3⟩:=List.nodup_append.1 hnd
    obtain ⟨A,c,rfl,ho,hq⟩:=Zfk (S:=Z1) (f:=Zqn) (base:=w.heap.size) (fun x hx=>Zs4 (hn.sig x hx)) g0 (fun b hb=>(hfresh b (by simp[hb])).1)
    obtain ⟨A2,c2,hs2,rfl,ho2,hq2⟩:=ownW_of_deep (base:=w.heap.size) hn.wire ((Za5 hdk).1 g1).2 nd2 (fun b hb=>⟨(hfresh b (by simp[hb])).1,(hfresh b (by simp[hb])).2.1⟩)
    exact ⟨A,c,A2,c2,hs2,rfl,ho,ho2,fun q e1 e2=>nd3 q (hq q e1) q (hq2 q e2) rfl,ha.below⟩
theorem seenNet {e:Ent} (he:FnOk P e) (hrk:e.rk=.grp true [.val,.val]) {w:World} {xs:List PV} {vs:List Value} {n:Nl} {b:Bool}
 (hps:e.ps=List.replicate xs.length (.ck .val)) (hx:VRs w (fun b=>b<w.heap.size) xs vs) (hs:e.spec xs=some (.tup [.agg [.lst (n.signals.map Zqn),.lst (n.wires.map Zql)],pB b])) (hn:NlIn n) (hg:GOk w (fun b=>b<w.heap.size)):
 Calls P e.f vs.toArray w fun en w'=>∃A c A2 c2,en=.returned (.tuple #[.agg #[.slice A n.signals.length c,.slice A2 n.wires.length c2],.bool b])∧Seen Z1 w' w'.heap.size A c n.signals∧Seen Zau w' w'.heap.size A2 c2 n.wires∧Below w.heap.size w w':=by
 refine (he.call w (fun b=>b<w.heap.size) xs vs _ ⟨fun _ h=>h,hg⟩ (by rw[hps];exact ZiS hx) hs).mono ?_
 rintro en w' ⟨v,F',l',rfl,ha,_,hsr,hfresh,_⟩
 rw[hrk] at hsr
 obtain ⟨cs,ys,fps,hv,hy,hg,hfp⟩:=hsr
 simp only[if_true,PV.tup.injEq] at hv hy
 subst hy
 obtain ⟨cl⟩:=cs
 subst hv
 dsimp only at hg
 cases hg with
 | cons h1 _ t=>
  cases t with
  | cons h2 _ t=>
   cases t
   obtain ⟨h1,_⟩:=h1
   obtain ⟨h2,_⟩:=h2
   cases h2
   obtain ⟨y,z,rfl,k1,k2⟩:=ZqT h1
   obtain ⟨A,c,rfl,hr,hlc,hcm⟩:=ZkX (S:=Z1) (f:=Zqn) (fun x hx=>Zs5 (hn.sig x hx)) rfl k1
   obtain ⟨A2,c2,rfl,hr2,hlc2,hcm2⟩:=ZkX (S:=Zau) (f:=Zql) (fun x hx=>Zq8 (hn.wire x hx)) rfl k2
   exact ⟨A,c,A2,c2,rfl,⟨hr.mono fun b hb=>ha.lt b hb,Nat.le_refl _,hlc,by simpa[maxLen] using hcm⟩,⟨hr2.mono fun b hb=>ha.lt b hb,Nat.le_refl _,hlc2,by simpa[maxLen] using hcm2⟩,ha.below⟩
end Go.Proofs.YtjjobbamoeaogaaDoor.Lw
