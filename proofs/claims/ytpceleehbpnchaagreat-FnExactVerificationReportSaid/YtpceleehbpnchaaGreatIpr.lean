import Derived.Test.YtpceleehbpnchaaGreatIr3
import Derived.Sort.WalkB12
import Derived.Sort.Grow
import Derived.Sort.EncStr
namespace Go.Proofs.YtpceleehbpnchaaGreat
open Go.RowKit Go.Sort
set_option linter.unusedVariables false
set_option linter.unusedSimpArgs false
section
variable {α :Type} [Inhabited α] {enc:α→Value} {f:α→PV} {w:World} {F:Nat→Prop} {t:TypeId} {zs ys:List α} {v:Value} {fp:List Nat}
structure OneCell (enc:α→Value) (f:α→PV):Prop where
 to:∀{w:World} {F:Nat→Prop} {x:α} {u:Value},VR w F (f x) u→u.cells= #[enc x]
 back:∀(w:World) (F:Nat→Prop) (x:α),VR w F (f x) (enc x)
 cells:∀x,(enc x).cells= #[enc x]
 width:∀x,(f x).width=1
 ne:∀x,f x≠.undef
theorem ZyA (H:OneCell enc f) {g:Nat} {cur:Array Value} (hh:w.heap[g]?=some (.cells cur t (0,0))) (hel:Zdf w F 1 (zs.map f) cur):Holds enc w g 0 zs.toArray:=by
 intro j hj
 have hj':j<zs.length:=by simpa using hj
 obtain ⟨h1,h2,u,h3,h4⟩:=hel j (f zs[j]) (by simp[hj'])
 have hc:=H.to h3
 have:=h4 0 (enc zs[j]) (by rw[hc];rfl)
 refine ⟨?_, ?_⟩
 ·have e1:zs.toArray[j]! =zs[j]:=by simp[hj']
  rw[e1]
  simp[World.cell?,hh]
  simpa using this
 ·simp[World.frozen?,hh]
theorem ZBa (H:OneCell enc f) {g cap:Nat} {cur:Array Value} (hh:w.heap[g]?=some (.cells cur t (0,0))) (hle:ys.length≤cap) (hmax:cap≤maxLen) (hsz:cur.size=cap * 1) (n:Nat):
 (putRow enc (Sort.ahead w n) g 0 ys.toArray).os=w.os∧(putRow enc (Sort.ahead w n) g 0 ys.toArray).tape=w.tape∧(putRow enc (Sort.ahead w n) g 0 ys.toArray).output=w.output∧(putRow enc (Sort.ahead w n) g 0 ys.toArray).heap.size=w.heap.size∧
 (∀b,b<w.heap.size→b∉[g]→(putRow enc (Sort.ahead w n) g 0 ys.toArray).heap[b]?=w.heap[b]?)∧ZdM (putRow enc (Sort.ahead w n) g 0 ys.toArray) F true t 1 (ys.map f) (.slice (some ⟨g,0,none⟩) (ys.map f).length cap) [g]:=by
 have hnew:(putRow enc (Sort.ahead w n) g 0 ys.toArray).heap[g]?=some (.cells (putCells enc 0 ys.toArray cur) t (0,0)):=by
  simp[putRow,mapBlock,Sort.ahead,Array.getElem?_modify,hh,onCells]
 refine ⟨rfl,rfl,rfl,by simp[putRow,mapBlock,Sort.ahead],fun b hb hn=> ?_,.inr ⟨g,cap,_,(0,0),rfl,rfl,hnew,fun _=>rfl,.inl (Nat.le_refl _),by simpa using hle,hmax,by simp[putCells,hsz], ?_⟩⟩
 ·have:g≠b:=fun e=>hn (by simp[e])
  simp[putRow,mapBlock,Sort.ahead,Array.getElem?_modify,this]
 ·intro i x hx
  rw[List.getElem?_map] at hx
  obtain ⟨y,hy,rfl⟩:=Option.map_eq_some_iff.1 hx
  refine ⟨H.width y,H.ne y,enc y,H.back _ _ y,fun j c hc=> ?_⟩
  rw[H.cells y] at hc
  have hil:=(List.getElem?_eq_some_iff.1 hy).1
  cases j with
  |succ j=>simp at hc
  | zero=>
   simp at hc
   subst hc
   have hi:i<cur.size:=by rw[hsz];omega
   simp[putCells,hi,hil,Array.getElem?_eq_getElem]
   simp[List.getElem?_eq_getElem hil] at hy
   simp[hy]
end
theorem ZAd :OneCell (Value.int .i64) pI:=⟨fun h=>by cases h;rfl,fun _ _ _=>.int _ _,fun _=>rfl,fun _=>rfl,fun _=>by simp⟩
theorem ZAe {w:World} (os:Array Obj) {b:Nat} (hb:b<w.heap.size):(grow w os).heap[b]?=w.heap[b]?:=by simp[grow,Array.getElem?_append,hb]
theorem ZdM.grown {w:World} {F:Nat→Prop} {t:TypeId} {l:List PV} {v:Value} {fp:List Nat} (os:Array Obj) (hF:∀b,F b→b<w.heap.size) (hfp:∀b∈fp,b<w.heap.size) (h:ZdM w F true t 1 l v fp):ZdM (grow w os) F true t 1 l v fp:=by
 have hb:∀b,b<w.heap.size→(grow w os).heap[b]?=w.heap[b]?:=fun b hb=>by simp[grow,Array.getElem?_append,hb]
 exact h.keep ⟨fun _ h=>h,fun b h=>hb b (hF b h)⟩ fun b h=>hb b (hfp b h)
theorem ipOk {P:Program} {α:Type} [Inhabited α] {enc:α→Value} {f:α→PV} (H:OneCell enc f) {fid:FuncId} {fn:Func} (hf:P.funcs[fid]?=some fn) (hname:(fn.name== "runtime.NumGoroutine")=false) (hb:fn.body.isSome=true) (t:TypeId)
 (dec:List PV→Option (List α)) (hdec:∀l zs,dec l=some zs→l=zs.map f) (res:List α→List α) (hlen:∀zs,(res zs).length=zs.length) (spec:List PV→Option PV)
 (hspec:∀xs r,spec xs=some r→∃l zs,xs=[.lst l]∧dec l=some zs∧zs.length≤4294967296∧r=.lst ((res zs).map f))
 (C0:∀w,Calls P fid #[.slice none 0 0] w fun e w'=>e=.returned (.tuple #[])∧w'=w)
 (C:∀(g cap:Nat) (zs:List α) (w:World),Holds enc w g 0 zs.toArray→g<w.heap.size→zs.length<4611686018427387904→
  Calls P fid #[.slice (some ⟨g,0,none⟩) zs.length cap] w fun e w'=>e=.returned (.tuple #[])∧∃n os,w'=grow (putRow enc (Sort.ahead w n) g 0 (res zs).toArray) os):
 FnOk P ⟨fid,[.ck (.own true t 1)],.ck .none,false,spec⟩:=by
 have hnil:res []=[]:=List.eq_nil_of_length_eq_zero (by rw[hlen];rfl)
 refine ⟨fun args w=> ?_,rfl,fun w F xs vs r hF hargs hr=> ?_,fun t' sz hps _ w F l r v fp hF hnF hlt hrow hr=> ?_⟩
 ·have h1:fn.name≠ "runtime.NumGoroutine":=by simpa using hname
  have h2:fn.body≠none:=fun e=>by rw[e] at hb;cases hb
  simp[callFunc,hf,h1,h2]
 ·obtain ⟨l,zs,rfl,hz,_,rfl⟩:=hspec xs r hr
  cases hargs with
  | cons h _ ht=>
   cases ht
   obtain ⟨l0,h0,hrow⟩:=h
   rcases hrow with ⟨rfl,_,_⟩|⟨g,cap,cur,fr,_,h2,_⟩
   ·refine (C0 w).mono fun e w' he=> ?_
    obtain ⟨rfl,rfl⟩:=he
    exact ⟨_,F,[],rfl,Adds.refl w' hF,List.nodup_nil,rfl,by simp,fun hc=>by cases hc⟩
   ·cases h2
 ·simp only[List.cons.injEq,Kd.ck.injEq,CK.own.injEq,true_and,and_true] at hps
  obtain ⟨rfl,rfl⟩:=hps
  obtain ⟨l1,zs,hl1,hz,hzl,hr1⟩:=hspec _ _ hr
  simp only[List.cons.injEq,PV.lst.injEq,and_true] at hl1
  subst hl1
  simp only[PV.lst.injEq] at hr1
  subst hr1
  obtain rfl:=hdec _ _ hz
  rcases hrow with ⟨rfl,hl,rfl⟩|⟨g,cap,cur,fr,rfl,rfl,hh,hfr,_,hle,hmax,hsz,hel⟩
  ·have hz0:zs=[]:=by simpa using hl
   subst hz0
   refine (C0 w).mono fun e w' he=> ?_
   obtain ⟨rfl,rfl⟩:=he
   exact ⟨_,rfl,rfl,rfl,rfl,Nat.le_refl _,fun _ _ _=>rfl,.inl ⟨rfl,by simp[hnil],rfl⟩⟩
  ·have hfr':=hfr rfl
   subst hfr'
   have hg:=hlt g (by simp)
   have hle':zs.length≤cap:=by simpa using hle
   have hC:=C g cap zs w (ZyA H hh hel) hg (by omega)
   rw[show zs.length=(zs.map f).length by simp] at hC
   refine hC.mono fun e w' he=> ?_
   obtain ⟨rfl,n,os,rfl⟩:=he
   obtain ⟨e1,e2,e3,e4,e5,e6⟩:=ZBa (F:=F) (ys:=res zs) H hh (by rw[hlen];exact hle') hmax hsz n
   have e7:(.slice (some ⟨g,0,none⟩) (zs.map f).length cap:Value)=.slice (some ⟨g,0,none⟩) ((res zs).map f).length cap:=by simp[hlen]
   rw[e7]
   refine ⟨_,rfl,e1,e2,e3,by simp only[grow,Array.size_append];omega,fun b hb hn=> ?_,e6.grown os (fun b hb=>by rw[e4];exact hF b hb) (fun b hb=>by rw[e4];exact hlt b hb)⟩
   rw[ZAe os (by rw[e4];exact hb)]
   exact e5 b hb hn
def Zh9 :List PV→Option (List Int)
 |[]=>some []
 |.int .i64 n::r=>(Zh9 r).map (n::·)
 |_=>none
theorem Zm2 :∀(l:List PV) (zs:List Int),Zh9 l=some zs→l=zs.map pI
 |[],zs,h=>by cases h;rfl
 | x::r,zs,h=>by
  unfold Zh9 at h
  split at h
  ·rename_i he;cases he
  ·rename_i n r' he
   cases he
   obtain ⟨ys,hy,rfl⟩:=Option.map_eq_some_iff.1 h
   rw[Zm2 _ _ hy]
   rfl
  ·cases h
theorem ZpN :∀zs:List Int,Zh9 (zs.map pI)=some zs
 |[]=>rfl
 |n::r=>by simp only[List.map_cons];unfold Zh9;rw[ZpN r];rfl
def Zk8 :List PV→Option (List (List UInt8))
 |[]=>some []
 |.str n::r=>(Zk8 r).map (n::·)
 |_=>none
theorem Zrc :∀(l:List PV) (zs:List (List UInt8)),Zk8 l=some zs→l=zs.map PV.str
 |[],zs,h=>by cases h;rfl
 | x::r,zs,h=>by
  unfold Zk8 at h
  split at h
  ·rename_i he;cases he
  ·rename_i n r' he
   cases he
   obtain ⟨ys,hy,rfl⟩:=Option.map_eq_some_iff.1 h
   rw[Zrc _ _ hy]
   rfl
  ·cases h
theorem ZpO :∀zs:List (List UInt8),Zk8 (zs.map PV.str)=some zs
 |[]=>rfl
 |n::r=>by simp only[List.map_cons];unfold Zk8;rw[ZpO r];rfl
noncomputable def Zm3 (res:List Int→List Int):List PV→Option PV
 |[.lst l]=>(Zh9 l).bind fun zs=>if zs.length≤4294967296 then some (.lst ((res zs).map pI)) else none
 |_=>none
theorem Znw (res:List Int→List Int):∀xs r,Zm3 res xs=some r→∃l zs,xs=[.lst l]∧Zh9 l=some zs∧zs.length≤4294967296∧r=.lst ((res zs).map pI):=fun xs r h=>by
 unfold Zm3 at h
 split at h
 ·obtain ⟨zs,h1,h⟩:=Option.bind_eq_some_iff.1 h
  split at h
  ·rename_i hl;cases h;exact ⟨_,zs,rfl,h1,hl,rfl⟩
  ·cases h
 ·cases h
end Go.Proofs.YtpceleehbpnchaaGreat
