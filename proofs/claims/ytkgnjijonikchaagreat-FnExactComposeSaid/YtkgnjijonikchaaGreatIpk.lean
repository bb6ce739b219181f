import Derived.Test.YtkgnjijonikchaaGreatIpr
import Derived.Shelf.SlSortCmp.NoneTotal
namespace Go.Proofs.YtkgnjijonikchaaGreat
open Go.RowKit Go.Sort
set_option linter.unusedVariables false
set_option linter.unusedSimpArgs false
structure KCell {α:Type} (enc:α→List Value) (k:Nat) (f:α→PV):Prop where
 to:∀{w:World} {F:Nat→Prop} {x:α} {u:Value},VR w F (f x) u→u.cells.toList=enc x
 back:∀(w:World) (F:Nat→Prop) (x:α),VR w F (f x) (.agg (enc x).toArray)
 len:∀x,(enc x).length=k
 one:∀x,∀v∈enc x,v.oneCell'=true
 width:∀x,(f x).width=k
 ne:∀x,f x≠.undef
section
variable {α :Type} [Inhabited α] {enc:α→List Value} {k:Nat} {f:α→PV} {w:World} {F:Nat→Prop} {t:TypeId} {zs ys:List α}
omit [Inhabited α] in
theorem Zt0 (x:α) {j:Nat} (hj:j<(enc x).length):(enc x)[j]?=some (enc x)[j]! :=by
 rw[List.getElem?_eq_getElem hj,getElem!_pos (enc x) j hj]
theorem ZsT (H:KCell enc k f) {g:Nat} {cur:Array Value} (hh:w.heap[g]?=some (.cells cur t (0,0))) (hel:ZcK w F k (zs.map f) cur):HoldsK enc k w g 0 zs.toArray:=by
 intro j hj
 rw[size_flatK] at hj
 have hj0:j<zs.length * k:=by simpa using hj
 have hk:0<k:=by
  rcases Nat.eq_zero_or_pos k with e|e
  ·subst e;simp at hj0
  ·exact e
 have hi:j / k<zs.length:=(Nat.div_lt_iff_lt_mul hk).2 hj0
 have hm:j % k<k:=Nat.mod_lt _ hk
 obtain ⟨h1,h2,u,h3,h4⟩:=hel (j / k) (f zs[j / k]) (by simp[hi])
 have hc:=H.to h3
 have hl:=H.len zs[j / k]
 have e0:j / k * k+j % k=j:=by rw[Nat.mul_comm];exact Nat.div_add_mod j k
 have:=h4 (j % k) (enc zs[j / k])[j % k]! (by rw[←Array.getElem?_toList,hc];exact Zt0 _ (by omega))
 rw[e0] at this
 have e1:zs.toArray[j / k]! =zs[j / k]:=by simp[hi]
 refine ⟨?_,by simp[World.frozen?,hh]⟩
 rw[get_flatK _ _ _ _ hj,e1,Nat.zero_add,cell_of_row w g j cur t (0,0) hh,this]
 rfl
theorem Zws (H:KCell enc k f) {g cap:Nat} {cur:Array Value} (hh:w.heap[g]?=some (.cells cur t (0,0))) (hle:ys.length≤cap) (hmax:cap≤maxLen) (hsz:cur.size=cap * k) (n:Nat):
 (putRowK enc k (Sort.ahead w n) g 0 ys.toArray).os=w.os∧(putRowK enc k (Sort.ahead w n) g 0 ys.toArray).tape=w.tape∧(putRowK enc k (Sort.ahead w n) g 0 ys.toArray).output=w.output∧(putRowK enc k (Sort.ahead w n) g 0 ys.toArray).heap.size=w.heap.size∧
 (∀b,b<w.heap.size→b∉[g]→(putRowK enc k (Sort.ahead w n) g 0 ys.toArray).heap[b]?=w.heap[b]?)∧ZbV (putRowK enc k (Sort.ahead w n) g 0 ys.toArray) F true t k (ys.map f) (.slice (some ⟨g,0,none⟩) (ys.map f).length cap) [g]:=by
 have hnew:(putRowK enc k (Sort.ahead w n) g 0 ys.toArray).heap[g]?=some (.cells (putCells id 0 (flatK enc k ys.toArray) cur) t (0,0)):=by
  simp[putRowK,putRow,mapBlock,Sort.ahead,Array.getElem?_modify,hh,onCells]
 refine ⟨rfl,rfl,rfl,by simp[putRowK,putRow,mapBlock,Sort.ahead],fun b hb hn=> ?_,.inr ⟨g,cap,_,(0,0),rfl,rfl,hnew,fun _=>rfl,.inl (Nat.le_refl _),by simpa using hle,hmax,by simp[putCells,hsz], ?_⟩⟩
 ·have:g≠b:=fun e=>hn (by simp[e])
  simp[putRowK,putRow,mapBlock,Sort.ahead,Array.getElem?_modify,this]
 ·intro i x hx
  rw[List.getElem?_map] at hx
  obtain ⟨y,hy,rfl⟩:=Option.map_eq_some_iff.1 hx
  refine ⟨H.width y,H.ne y,_,H.back _ _ y,fun j c hc=> ?_⟩
  have hc':(enc y)[j]?=some c:=by simpa[Value.cells] using hc
  have hil:=(List.getElem?_eq_some_iff.1 hy).1
  have hj:j<k:=by rw[←H.len y];exact (List.getElem?_eq_some_iff.1 hc').1
  have hroom:(i+1) * k≤ys.length * k:=Nat.mul_le_mul_right _ hil
  rw[Nat.succ_mul] at hroom
  have hcap:ys.length * k≤cap * k:=Nat.mul_le_mul_right _ hle
  have hlt:i * k+j<cur.size:=by rw[hsz];omega
  have hfl:i * k+j<ys.toArray.size * k:=by simp;omega
  have d1:(i * k+j) / k=i:=by rw[Nat.mul_comm,Nat.mul_add_div (by omega),Nat.div_eq_of_lt hj,Nat.add_zero]
  have d2:(i * k+j) % k=j:=by rw[Nat.mul_comm,Nat.mul_add_mod,Nat.mod_eq_of_lt hj]
  have e1:ys.toArray[i]! =y:=by
   have:ys[i]=y:=(List.getElem?_eq_some_iff.1 hy).2
   simp[hil,this]
  have e2:(flatK enc k ys.toArray)[i * k+j]! =c:=by
   rw[get_flatK _ _ _ _ hfl,d1,d2,e1]
   have:=Zt0 (enc:=enc) y (j:=j) (by rw[H.len];exact hj)
   rw[hc'] at this
   exact (Option.some.inj this).symm
  simp only[putCells,Array.getElem?_mapIdx,Array.getElem?_eq_getElem hlt,Option.map_some]
  rw[if_pos ⟨Nat.zero_le _,by rw[size_flatK];omega⟩,Nat.sub_zero,e2]
  rfl
end
theorem ZbV.grownK {w:World} {F:Nat→Prop} {t:TypeId} {k:Nat} {l:List PV} {v:Value} {fp:List Nat} (os:Array Obj) (hF:∀b,F b→b<w.heap.size) (hfp:∀b∈fp,b<w.heap.size) (h:ZbV w F true t k l v fp):ZbV (grow w os) F true t k l v fp:=by
 have hb:∀b,b<w.heap.size→(grow w os).heap[b]?=w.heap[b]?:=fun b hb=>by simp[grow,Array.getElem?_append,hb]
 exact h.keep ⟨fun _ h=>h,fun b h=>hb b (hF b h)⟩ fun b h=>hb b (hfp b h)
theorem ipkOk {P:Program} {α:Type} [Inhabited α] {enc:α→List Value} {k:Nat} {f:α→PV} (H:KCell enc k f) {fid gid:FuncId} {fn:Func} (hf:P.funcs[fid]?=some fn) (hname:(fn.name== "runtime.NumGoroutine")=false) (hb:fn.body.isSome=true) (t:TypeId)
 (cf:α→α→Int) (dec:List PV→Option (List α)) (hdec:∀l zs,dec l=some zs→l=zs.map f) (spec:List PV→Option PV)
 (hspec:∀xs r,spec xs=some r→∃l zs,xs=[.lst l]∧dec l=some zs∧zs.length≤4294967296∧r=.lst ((zs.mergeSort fun x y=> !(ltOf cf) y x).map f))
 (C0:∀w,Calls P fid #[.slice none 0 0,fnV gid] w fun e w'=>e=.returned (.tuple #[])∧w'=w)
 (C:∀(g cap:Nat) (zs:List α) (w:World),HoldsK enc k w g 0 zs.toArray→g<w.heap.size→zs.length<4611686018427387904→
  Calls P fid #[.slice (some ⟨g,0,none⟩) zs.length cap,fnV gid] w fun e w'=>e=.returned (.tuple #[])∧∃n os,w'=grow (putRowK enc k (Sort.ahead w n) g 0 (zs.mergeSort fun x y=> !(ltOf cf) y x).toArray) os):
 FnOk P ⟨fid,[.ck (.own true t k),.clo gid],.ck .none,false,spec⟩:=by
 have hlen:∀zs:List α,(zs.mergeSort fun x y=> !(ltOf cf) y x).length=zs.length:=fun zs=>by simp
 have hnil:(([]:List α).mergeSort fun x y=> !(ltOf cf) y x)=[]:=List.eq_nil_of_length_eq_zero (by rw[hlen];rfl)
 refine ⟨fun args w=> ?_,rfl,fun w F xs vs r hF hargs hr=> ?_,fun t' sz fs hps _ w F l r v fp hF hnF hlt hrow hr=> ?_,fun _ _ _ hc=>(by cases hc),fun _ _ _ _ hc=>absurd rfl hc,fun _ hc=>(by cases hc)⟩
 ·have h1:fn.name≠ "runtime.NumGoroutine":=by simpa using hname
  have h2:fn.body≠none:=fun e=>by rw[e] at hb;cases hb
  simp[callFunc,hf,h1,h2]
 ·obtain ⟨l,zs,rfl,_,_,_⟩:=hspec xs r hr
  cases hargs with
  |cons h _ ht=>cases ht
 ·simp only[List.cons.injEq,Kd.ck.injEq,CK.own.injEq,true_and] at hps
  obtain ⟨⟨rfl,rfl⟩,hfs⟩:=hps
  obtain rfl:fs=[gid]:=by
   cases fs with
   |nil=>cases hfs
   | cons a r=>
    simp only[List.map_cons,List.cons.injEq,Kd.clo.injEq] at hfs
    obtain ⟨rfl,hr0⟩:=hfs
    cases r with
    |nil=>rfl
    |cons _ _=>cases hr0
  obtain ⟨l1,zs,hl1,hz,hzl,hr1⟩:=hspec _ _ hr
  simp only[List.cons.injEq,PV.lst.injEq,and_true] at hl1
  subst hl1
  simp only[PV.lst.injEq] at hr1
  subst hr1
  obtain rfl:=hdec _ _ hz
  rcases hrow with ⟨rfl,hl,rfl⟩|⟨g,cap,cur,fr,rfl,rfl,hh,hfr,_,hle,hmax,hsz,hel⟩
  ·have hz0:zs=[]:=by simpa using hl
   subst hz0
   refine (C0 w).mono fun e w' he=> ?_
   obtain ⟨rfl,rfl⟩:=he
   exact ⟨_,rfl,rfl,rfl,rfl,Nat.le_refl _,fun _ _ _=>rfl,.inl ⟨rfl,by rw[hnil];rfl,rfl⟩⟩
  ·have hfr':=hfr rfl
   subst hfr'
   have hg:=hlt g (by simp)
   have hle':zs.length≤cap:=by simpa using hle
   have hC:=C g cap zs w (ZsT H hh hel) hg (by omega)
   rw[show zs.length=(zs.map f).length by simp] at hC
   refine hC.mono fun e w' he=> ?_
   obtain ⟨rfl,n,os,rfl⟩:=he
   obtain ⟨e1,e2,e3,e4,e5,e6⟩:=Zws (F:=F) (ys:=zs.mergeSort fun x y=> !(ltOf cf) y x) H hh (by rw[hlen];exact hle') hmax hsz n
   have e7:(.slice (some ⟨g,0,none⟩) (zs.map f).length cap:Value)=.slice (some ⟨g,0,none⟩) ((zs.mergeSort fun x y=> !(ltOf cf) y x).map f).length cap:=by simp[hlen]
   rw[e7]
   refine ⟨_,rfl,e1,e2,e3,by simp only[grow,Array.size_append];omega,fun b hb hn=> ?_,e6.grownK os (fun b hb=>by rw[e4];exact hF b hb) (fun b hb=>by rw[e4];exact hlt b hb)⟩
   rw[Zwq os (by rw[e4];exact hb)]
   exact e5 b hb hn
end Go.Proofs.YtkgnjijonikchaaGreat
