import Derived.Test.YtpceleehbpnchaaGreatIr3
import Derived.Sort.WalkB12
import Derived.Sort.Grow
import Derived.Sort.EncStr
namespace Go.Proofs.YtpceleehbpnchaaGreat
open Go.RowKit Go.Sort
set_option linter.unusedVariables false
set_option linter.unusedSimpArgs false
section
variable {α :Type} [Inhabited α] {enc:α→Value} {f:α→PV} {w:World} {F:Nat→Prop} {t:TypeId} {zs ys:List α} {v:Value} {fp:List Nat}
structure OneCell (enc:α→Value) (f:α→PV):Prop where
 to:∀{w:World} {F:Nat→Prop} {x:α} {u:Value},VR w F (f x) u→u.cells= #[enc x]
 back:∀(w:World) (F:Nat→Prop) (x:α),VR w F (f x) (enc x)
 cells:∀x,(enc x).cells= #[enc x]
 width:∀x,(f x).width=1
 ne:∀x,f x≠.undef
theorem ZrY (H:OneCell enc f) {g:Nat} {cur:Array Value} (hh:w.heap[g]?=some (.cells cur t (0,0))) (hel:Zdj w F 1 (zs.map f) cur):Holds enc w g 0 zs.toArray:=by
 intro j hj
 have hj':j<zs.length:=by simpa using hj
 obtain ⟨h1,h2,u,h3,h4⟩:=hel j (f zs[j]) (by simp[hj'])
 have hc:=H.to h3
 have:=h4 0 (enc zs[j]) (by rw[hc];rfl)
 refine ⟨?_, ?_⟩
 ·have e1:zs.toArray[j]! =zs[j]:=by simp[hj']
  rw[e1]
  simp[World.cell?,hh]
  simpa using this
 ·simp[World.frozen?,hh]
theorem ZyP (H:OneCell enc f) {g cap:Nat} {cur:Array Value} (hh:w.heap[g]?=some (.cells cur t (0,0))) (hle:ys.length≤cap) (hmax:cap≤maxLen) (hsz:cur.size=cap * 1) (n:Nat):
 (putRow enc (Sort.ahead w n) g 0 ys.toArray).os=w.os∧(putRow enc (Sort.ahead w n) g 0 ys.toArray).tape=w.tape∧(putRow enc (Sort.ahead w n) g 0 ys.toArray).output=w.output∧(putRow enc (Sort.ahead w n) g 0 ys.toArray).heap.size=w.heap.size∧
 (∀b,b<w.heap.size→b∉[g]→(putRow enc (Sort.ahead w n) g 0 ys.toArray).heap[b]?=w.heap[b]?)∧Zc1 (putRow enc (Sort.ahead w n) g 0 ys.toArray) F true t 1 (ys.map f) (.slice (some ⟨g,0,none⟩) (ys.map f).length cap) [g]:=by
 have hnew:(putRow enc (Sort.ahead w n) g 0 ys.toArray).heap[g]?=some (.cells (putCells enc 0 ys.toArray cur) t (0,0)):=by
  simp[putRow,mapBlock,Sort.ahead,Array.getElem?_modify,hh,onCells]
 refine ⟨rfl,rfl,rfl,by simp[putRow,mapBlock,Sort.ahead],fun b hb hn=> ?_,.inr ⟨g,cap,_,(0,0),rfl,rfl,hnew,fun _=>rfl,.inl (Nat.le_refl _),by simpa using hle,hmax,by simp[putCells,hsz], ?_⟩⟩
 ·have:g≠b:=fun e=>hn (by simp[e])
  simp[putRow,mapBlock,Sort.ahead,Array.getElem?_modify,this]
 ·intro i x hx
  rw[List.getElem?_map] at hx
  obtain ⟨y,hy,rfl⟩:=Option.map_eq_some_iff.1 hx
  refine ⟨H.width y,H.ne y,enc y,H.back _ _ y,fun j c hc=> ?_⟩
  rw[H.cells y] at hc
  have hil:=(List.getElem?_eq_some_iff.1 hy).1
  cases j with
  |succ j=>simp at hc
  | zero=>
   simp at hc
   subst hc
   have hi:i<cur.size:=by rw[hsz];omega
   simp[putCells,hi,hil,Array.getElem?_eq_getElem]
   simp[List.getElem?_eq_getElem hil] at hy
   simp[hy]
end
theorem ZtF :OneCell (Value.int .i64) pI:=⟨fun h=>by cases h;rfl,fun _ _ _=>.int _ _,fun _=>rfl,fun _=>rfl,fun _=>by simp⟩
theorem ZBn {w:World} (os:Array Obj) {b:Nat} (hb:b<w.heap.size):(grow w os).heap[b]?=w.heap[b]?:=by simp[grow,Array.getElem?_append,hb]
theorem Zc1.grown {w:World} {F:Nat→Prop} {t:TypeId} {l:List PV} {v:Value} {fp:List Nat} (os:Array Obj) (hF:∀b,F b→b<w.heap.size) (hfp:∀b∈fp,b<w.heap.size) (h:Zc1 w F true t 1 l v fp):Zc1 (grow w os) F true t 1 l v fp:=by
 have hb:∀b,b<w.heap.size→(grow w os).heap[b]?=w.heap[b]?:=fun b hb=>by simp[grow,Array.getElem?_append,hb]
 exact h.keep ⟨fun _ h=>h,fun b h=>hb b (hF b h)⟩ fun b h=>hb b (hfp b h)
theorem ipOk {P:Program} {α:Type} [Inhabited α] {enc:α→Value} {f:α→PV} (H:OneCell enc f) {fid:FuncId} {fn:Func} (hf:P.funcs[fid]?=some fn) (hname:(fn.name== "runtime.NumGoroutine")=false) (hb:fn.body.isSome=true) (t:TypeId)
 (dec:List PV→Option (List α)) (hdec:∀l zs,dec l=some zs→l=zs.map f) (res:List α→List α) (hlen:∀zs,(res zs).length=zs.length) (spec:List PV→Option PV)
 (hspec:∀xs r,spec xs=some r→∃l zs,xs=[.lst l]∧dec l=some zs∧zs.length≤4294967296∧r=.lst ((res zs).map f))
 (C0:∀w,Calls P fid #[.slice none 0 0] w fun e w'=>e=.returned (.tuple #[])∧w'=w)
 (C:∀(g cap:Nat) (zs:List α) (w:World),Holds enc w g 0 zs.toArray→g<w.heap.size→zs.length<4611686018427387904→
  Calls P fid #[.slice (some ⟨g,0,none⟩) zs.length cap] w fun e w'=>e=.returned (.tuple #[])∧∃n os,w'=grow (putRow enc (Sort.ahead w n) g 0 (res zs).toArray) os):
 FnOk P ⟨fid,[.ck (.own true t 1)],.ck .none,false,spec⟩:=by
 have hnil:res []=[]:=List.eq_nil_of_length_eq_zero (by rw[hlen];rfl)
 refine ⟨fun args w=> ?_,rfl,fun w F xs vs r hF hargs hr=> ?_,fun t' sz fs hps _ w F l r v fp hF hnF hlt hrow hr=> ?_,fun _ _ _ hc=>(by cases hc),fun _ _ _ _ hc=>absurd rfl hc⟩
 ·have h1:fn.name≠ "runtime.NumGoroutine":=by simpa using hname
  have h2:fn.body≠none:=fun e=>by rw[e] at hb;cases hb
  simp[callFunc,hf,h1,h2]
 ·obtain ⟨l,zs,rfl,hz,_,rfl⟩:=hspec xs r hr
  cases hargs with
  | cons h _ ht=>
   cases ht
   obtain ⟨l0,h0,hrow⟩:=h
   rcases hrow with ⟨rfl,_,_⟩|⟨g,cap,cur,fr,_,h2,_⟩
   ·refine (C0 w).mono fun e w' he=> ?_
    obtain ⟨rfl,rfl⟩:=he
    exact ⟨_,F,[],rfl,Adds.refl w' hF,List.nodup_nil,rfl,by simp,fun hc=>by cases hc⟩
   ·cases h2
 ·simp only[List.cons.injEq,Kd.ck.injEq,CK.own.injEq,true_and] at hps
  obtain ⟨⟨rfl,rfl⟩,hfs⟩:=hps
  obtain rfl:fs=[]:=by cases fs with|nil=>rfl|cons _ _=>cases hfs
  obtain ⟨l1,zs,hl1,hz,hzl,hr1⟩:=hspec _ _ hr
  simp only[List.cons.injEq,PV.lst.injEq,and_true] at hl1
  subst hl1
  simp only[PV.lst.injEq] at hr1
  subst hr1
  obtain rfl:=hdec _ _ hz
  rcases hrow with ⟨rfl,hl,rfl⟩|⟨g,cap,cur,fr,rfl,rfl,hh,hfr,_,hle,hmax,hsz,hel⟩
  ·have hz0:zs=[]:=by simpa using hl
   subst hz0
   refine (C0 w).mono fun e w' he=> ?_
   obtain ⟨rfl,rfl⟩:=he
   exact ⟨_,rfl,rfl,rfl,rfl,Nat.le_refl _,fun _ _ _=>rfl,.inl ⟨rfl,by simp[hnil],rfl⟩⟩
  ·have hfr':=hfr rfl
   subst hfr'
   have hg:=hlt g (by simp)
   have hle':zs.length≤cap:=by simpa using hle
   have hC:=C g cap zs w (ZrY H hh hel) hg (by omega)
   rw[show zs.length=(zs.map f).length by simp] at hC
   refine hC.mono fun e w' he=> ?_
   obtain ⟨rfl,n,os,rfl⟩:=he
   obtain ⟨e1,e2,e3,e4,e5,e6⟩:=ZyP (F:=F) (ys:=res zs) H hh (by rw[hlen];exact hle') hmax hsz n
   have e7:(.slice (some ⟨g,0,none⟩) (zs.map f).length cap:Value)=.slice (some ⟨g,0,none⟩) ((res zs).map f).length cap:=by simp[hlen]
   rw[e7]
   refine ⟨_,rfl,e1,e2,e3,by simp only[grow,Array.size_append];omega,fun b hb hn=> ?_,e6.grown os (fun b hb=>by rw[e4];exact hF b hb) (fun b hb=>by rw[e4];exact hlt b hb)⟩
   rw[ZBn os (by rw[e4];exact hb)]
   exact e5 b hb hn
def ZgY :List PV→Option (List Int)
 |[]=>some []
 |.int .i64 n::r=>(ZgY r).map (n::·)
 |_=>none
theorem Zkb :∀(l:List PV) (zs:List Int),ZgY l=some zs→l=zs.map pI
 |[],zs,h=>by cases h;rfl
 | x::r,zs,h=>by
  unfold ZgY at h
  split at h
  ·rename_i he;cases he
  ·rename_i n r' he
   cases he
   obtain ⟨ys,hy,rfl⟩:=Option.map_eq_some_iff.1 h
   rw[Zkb _ _ hy]
   rfl
  ·cases h
theorem Zqm :∀zs:List Int,ZgY (zs.map pI)=some zs
 |[]=>rfl
 |n::r=>by simp only[List.map_cons];unfold ZgY;rw[Zqm r];rfl
def ZlD :List PV→Option (List (List UInt8))
 |[]=>some []
 |.str n::r=>(ZlD r).map (n::·)
 |_=>none
theorem ZrZ :∀(l:List PV) (zs:List (List UInt8)),ZlD l=some zs→l=zs.map PV.str
 |[],zs,h=>by cases h;rfl
 | x::r,zs,h=>by
  unfold ZlD at h
  split at h
  ·rename_i he;cases he
  ·rename_i n r' he
   cases he
   obtain ⟨ys,hy,rfl⟩:=Option.map_eq_some_iff.1 h
   rw[ZrZ _ _ hy]
   rfl
  ·cases h
theorem Zqn :∀zs:List (List UInt8),ZlD (zs.map PV.str)=some zs
 |[]=>rfl
 |n::r=>by simp only[List.map_cons];unfold ZlD;rw[Zqn r];rfl
noncomputable def ZlE (res:List Int→List Int):List PV→Option PV
 |[.lst l]=>(ZgY l).bind fun zs=>if zs.length≤4294967296 then some (.lst ((res zs).map pI)) else none
 |_=>none
theorem ZjJ (res:List Int→List Int):∀xs r,ZlE res xs=some r→∃l zs,xs=[.lst l]∧ZgY l=some zs∧zs.length≤4294967296∧r=.lst ((res zs).map pI):=fun xs r h=>by
 unfold ZlE at h
 split at h
 ·obtain ⟨zs,h1,h⟩:=Option.bind_eq_some_iff.1 h
  split at h
  ·rename_i hl;cases h;exact ⟨_,zs,rfl,h1,hl,rfl⟩
  ·cases h
 ·cases h
theorem Zc1.cut {w:World} {F:Nat→Prop} {t:TypeId} {sz:Nat} {l:List PV} {g cap:Nat} {fp:List Nat} (h:Zc1 w F true t sz l (.slice (some ⟨g,0,none⟩) l.length cap) fp) (n:Nat) (hn:n≤l.length):Zc1 w F true t sz (l.take n) (.slice (some ⟨g,0,none⟩) n cap) fp:=by
 rcases h with ⟨hv,_,_⟩|⟨g',cap',cur,fr,hv,rfl,hh,hfr,hx,hle,hmax,hsz,hel⟩
 ·simp at hv
 ·simp only[Value.slice.injEq,Option.some.injEq,Addr.mk.injEq,and_true,true_and] at hv
  obtain ⟨rfl,rfl⟩:=hv
  refine .inr ⟨g,cap,cur,fr,by simp[Nat.min_eq_left hn],rfl,hh,hfr,hx,by simp;omega,hmax,hsz,fun i x hi=>hel i x ?_⟩
  rw[List.getElem?_take] at hi
  split at hi
  ·exact hi
  ·cases hi
theorem cpOk {P:Program} {fid:FuncId} {fn:Func} (hf:P.funcs[fid]?=some fn) (hname:(fn.name== "runtime.NumGoroutine")=false) (hb:fn.body.isSome=true) (t:TypeId)
 (res:List Int→List Int) (hlen:∀zs,(res zs).length≤zs.length) (spec:List PV→Option PV)
 (hspec:∀xs r,spec xs=some r→∃l zs,xs=[.lst l]∧ZgY l=some zs∧zs.length≤4294967296∧r=.lst ((res zs).map pI))
 (C0:∀w,Calls P fid #[.slice none 0 0] w fun e w'=>e=.returned (.slice none 0 0)∧w'=w)
 (C:∀(g cap:Nat) (zs:List Int) (w:World),Holds (Value.int .i64) w g 0 zs.toArray→zs.length≤9223372036854775807→zs.length≤cap→
  Calls P fid #[.slice (some ⟨g,0,none⟩) zs.length cap] w fun e w'=>e=.returned (.slice (some ⟨g,0,none⟩) (res zs).length cap)∧∃q,w'=putRow (Value.int .i64) (Sort.ahead w q) g 0 (res zs++List.replicate (zs.length - (res zs).length) 0).toArray):
 FnOk P ⟨fid,[.ck (.own true t 1)],.ck (.own true t 1),false,spec⟩:=by
 have hnil:res []=[]:=List.eq_nil_of_length_eq_zero (by have:=hlen [];simpa using this)
 refine ⟨fun args w=> ?_,rfl,fun w F xs vs r hF hargs hr=> ?_,fun _ _ _ _ hc=>(by cases hc),fun _ _ _ hc=>(by cases hc),fun t' sz rest hps _ w F l v0 l0 xs vs r hF hn0 hp0 hrow hargs hr=> ?_⟩
 ·have h1:fn.name≠ "runtime.NumGoroutine":=by simpa using hname
  have h2:fn.body≠none:=fun e=>by rw[e] at hb;cases hb
  simp[callFunc,hf,h1,h2]
 ·obtain ⟨l,zs,rfl,hz,_,rfl⟩:=hspec xs r hr
  cases hargs with
  | cons h _ ht=>
   cases ht
   obtain ⟨l0,h0,hrow⟩:=h
   rcases hrow with ⟨rfl,rfl,_⟩|⟨g,cap,cur,fr,_,h2,_⟩
   ·cases h0
    cases hz
    refine (C0 w).mono fun e w' he=> ?_
    obtain ⟨rfl,rfl⟩:=he
    exact ⟨_,F,[],rfl,Adds.refl w' hF,List.nodup_nil,⟨[],by rw[hnil];rfl,.inl ⟨rfl,rfl,rfl⟩⟩,by simp,fun hc=>by cases hc⟩
   ·cases h2
 ·simp only[List.cons.injEq,Kd.ck.injEq,CK.own.injEq,true_and] at hps
  obtain ⟨⟨rfl,rfl⟩,rfl⟩:=hps
  cases hargs
  obtain ⟨l1,zs,hl1,hz,hzl,hr1⟩:=hspec _ _ hr
  simp only[List.cons.injEq,PV.lst.injEq,and_true] at hl1
  subst hl1
  subst hr1
  obtain rfl:=Zkb _ _ hz
  rcases hrow with ⟨rfl,hl,rfl⟩|⟨g,cap,cur,fr,rfl,rfl,hh,hfr,_,hle,hmax,hsz,hel⟩
  ·have hz0:zs=[]:=by simpa using hl
   subst hz0
   refine (C0 w).mono fun e w' he=> ?_
   obtain ⟨rfl,rfl⟩:=he
   exact ⟨_,F,[],rfl,⟨rfl,rfl,rfl,Nat.le_refl _⟩,fun _ _ _=>rfl,fun _ h=>h,fun _ h=>.inl h,hF,List.nodup_nil,⟨[],by rw[hnil];rfl,.inl ⟨rfl,rfl,rfl⟩⟩,by simp⟩
  ·have hfr':=hfr rfl
   subst hfr'
   have hg:=(hp0 g (by simp)).1
   have hle':zs.length≤cap:=by simpa using hle
   have hC:=C g cap zs w (ZrY ZtF hh hel) (by omega) hle'
   rw[show zs.length=(zs.map pI).length by simp] at hC
   refine hC.mono fun e w' he=> ?_
   obtain ⟨rfl,n,rfl⟩:=he
   rw[show (zs.map pI).length=zs.length by simp]
   have hl2:=hlen zs
   obtain ⟨e1,e2,e3,e4,e5,e6⟩:=ZyP (F:=F) (ys:=res zs++List.replicate (zs.length - (res zs).length) 0) ZtF hh (by simp;omega) hmax hsz n
   have e7:=e6.cut (res zs).length (by simp)
   have e8:((res zs++List.replicate (zs.length - (res zs).length) 0).map pI).take (res zs).length=(res zs).map pI:=by
    rw[List.map_append,List.take_left' (by simp)]
   rw[e8] at e7
   exact ⟨_,F,[g],rfl,⟨e1,e2,e3,by omega⟩,fun b hb hn=>e5 b hb hn,fun _ h=>h,fun _ h=>.inl h,fun b hb=>by rw[e4];exact hF b hb,by simp,⟨_,rfl,e7⟩,fun b hb=>⟨.inl hb,by rw[e4];exact (hp0 b hb).1,(hp0 b hb).2⟩⟩
end Go.Proofs.YtpceleehbpnchaaGreat
