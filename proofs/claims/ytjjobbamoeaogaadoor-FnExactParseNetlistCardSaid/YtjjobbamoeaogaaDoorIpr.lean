import Derived.Test.YtjjobbamoeaogaaDoorIr3
import Derived.Sort.WalkB12
import Derived.Sort.Grow
import Derived.Sort.EncStr
namespace Go.Proofs.YtjjobbamoeaogaaDoor
open Go.RowKit Go.Sort
set_option linter.unusedVariables false
set_option linter.unusedSimpArgs false
section
variable {α :Type} [Inhabited α] {enc:α→Value} {f:α→PV} {w:World} {F:Nat→Prop} {t:TypeId} {zs ys:List α} {v:Value} {fp:List Nat}
end
theorem Zal.grown {w:World} {F:Nat→Prop} {t:TypeId} {l:List PV} {v:Value} {fp:List Nat} (os:Array Obj) (hF:∀b,F b→b<w.heap.size) (hfp:∀b∈fp,b<w.heap.size) (h:Zal w F true t 1 l v fp):Zal (grow w os) F true t 1 l v fp:=by
 have hb:∀b,b<w.heap.size→(grow w os).heap[b]?=w.heap[b]?:=fun b hb=>by simp[grow,Array.getElem?_append,hb]
 exact h.keep ⟨fun _ h=>h,fun b h=>hb b (hF b h)⟩ fun b h=>hb b (hfp b h)
def ZgW :List PV→Option (List (List UInt8))
 |[]=>some []
 |.str n::r=>(ZgW r).map (n::·)
 |_=>none
theorem Zly :∀(l:List PV) (zs:List (List UInt8)),ZgW l=some zs→l=zs.map PV.str
 |[],zs,h=>by cases h;rfl
 | x::r,zs,h=>by
  unfold ZgW at h
  split at h
  ·rename_i he;cases he
  ·rename_i n r' he
   cases he
   obtain ⟨ys,hy,rfl⟩:=Option.map_eq_some_iff.1 h
   rw[Zly _ _ hy]
   rfl
  ·cases h
theorem Zkq :∀zs:List (List UInt8),ZgW (zs.map PV.str)=some zs
 |[]=>rfl
 |n::r=>by simp only[List.map_cons];unfold ZgW;rw[Zkq r];rfl
theorem Zal.cut {w:World} {F:Nat→Prop} {t:TypeId} {sz:Nat} (hsz:ZgB sz=none) {l:List PV} {g cap:Nat} {fp:List Nat} (h:Zal w F true t sz l (.slice (some ⟨g,0,none⟩) l.length cap) fp) (n:Nat) (hn:n≤l.length):Zal w F true t sz (l.take n) (.slice (some ⟨g,0,none⟩) n cap) fp:=by
 rw[Zr hsz] at h⊢
 rcases h with ⟨hv,_,_⟩|⟨g',cap',cur,fr,hv,rfl,hh,hfr,hx,hle,hmax,hsz',hel⟩
 ·simp at hv
 ·simp only[Value.slice.injEq,Option.some.injEq,Addr.mk.injEq,and_true,true_and] at hv
  obtain ⟨rfl,rfl⟩:=hv
  refine .inr ⟨g,cap,cur,fr,by simp[Nat.min_eq_left hn],rfl,hh,hfr,hx,by simp;omega,hmax,hsz',fun i x hi=>hel i x ?_⟩
  rw[List.getElem?_take] at hi
  split at hi
  ·exact hi
  ·cases hi
end Go.Proofs.YtjjobbamoeaogaaDoor
