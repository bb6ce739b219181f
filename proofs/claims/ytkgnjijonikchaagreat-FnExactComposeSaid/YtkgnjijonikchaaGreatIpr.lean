import Derived.Test.YtkgnjijonikchaaGreatIr3
import Derived.Sort.WalkB12
import Derived.Sort.Grow
import Derived.Sort.EncStr
namespace Go.Proofs.YtkgnjijonikchaaGreat
open Go.RowKit Go.Sort
set_option linter.unusedVariables false
set_option linter.unusedSimpArgs false
section
variable {α :Type} [Inhabited α] {enc:α→Value} {f:α→PV} {w:World} {F:Nat→Prop} {t:TypeId} {zs ys:List α} {v:Value} {fp:List Nat}
end
theorem Zwq {w:World} (os:Array Obj) {b:Nat} (hb:b<w.heap.size):(grow w os).heap[b]?=w.heap[b]?:=by simp[grow,Array.getElem?_append,hb]
theorem ZbV.grown {w:World} {F:Nat→Prop} {t:TypeId} {l:List PV} {v:Value} {fp:List Nat} (os:Array Obj) (hF:∀b,F b→b<w.heap.size) (hfp:∀b∈fp,b<w.heap.size) (h:ZbV w F true t 1 l v fp):ZbV (grow w os) F true t 1 l v fp:=by
 have hb:∀b,b<w.heap.size→(grow w os).heap[b]?=w.heap[b]?:=fun b hb=>by simp[grow,Array.getElem?_append,hb]
 exact h.keep ⟨fun _ h=>h,fun b h=>hb b (hF b h)⟩ fun b h=>hb b (hfp b h)
theorem ZbV.cut {w:World} {F:Nat→Prop} {t:TypeId} {sz:Nat} {l:List PV} {g cap:Nat} {fp:List Nat} (h:ZbV w F true t sz l (.slice (some ⟨g,0,none⟩) l.length cap) fp) (n:Nat) (hn:n≤l.length):ZbV w F true t sz (l.take n) (.slice (some ⟨g,0,none⟩) n cap) fp:=by
 rcases h with ⟨hv,_,_⟩|⟨g',cap',cur,fr,hv,rfl,hh,hfr,hx,hle,hmax,hsz,hel⟩
 ·simp at hv
 ·simp only[Value.slice.injEq,Option.some.injEq,Addr.mk.injEq,and_true,true_and] at hv
  obtain ⟨rfl,rfl⟩:=hv
  refine .inr ⟨g,cap,cur,fr,by simp[Nat.min_eq_left hn],rfl,hh,hfr,hx,by simp;omega,hmax,hsz,fun i x hi=>hel i x ?_⟩
  rw[List.getElem?_take] at hi
  split at hi
  ·exact hi
  ·cases hi
end Go.Proofs.YtkgnjijonikchaaGreat
