import Derived.Test.YtpceleehbpnchaaGreatDistPure
namespace Go.Proofs.YtpceleehbpnchaaGreat
set_option linter.unusedVariables false
set_option linter.unusedSimpArgs false
def Zf4 (far:List Int) (k:Nat) (e:Nat×Nat):Bool:=decide (e.2=k)&&decide (far.getD e.1 (-1)=far.getD k (-1) - 1)
def ZnC (es:List (Nat×Nat)) (far:List Int):Nat→Nat→List Nat→List Nat
 |0,_,acc=>acc
 | f+1,k,acc=>if far.getD k (-1)≤0 then acc else match es.findIdx? (Zf4 far k) with
  |some i=>ZnC es far f (es.getD i (0,0)).1 (i::acc)
  |none=>acc
section
variable {n :Nat} {es:List (Nat×Nat)} {far:List Int}
theorem IsDist.zero_iff {s k:Nat} (h:IsDist n es s far) (hk:k<n):far.getD k (-1)=0↔k=s:=by
 constructor
 ·intro e
  have:=h.way k hk (by omega)
  rw[e] at this
  cases this
  rfl
 ·rintro rfl
  have:=h.least 0 k .zero hk
  omega
theorem IsDist.back {s k:Nat} (h:IsDist n es s far) (hes:∀e∈es,e.1<n∧e.2<n) (hk:k<n) (hp:0<far.getD k (-1)):
 ∃i x,es.findIdx? (Zf4 far k)=some i∧es[i]?=some (x,k)∧x<n∧far.getD x (-1)=far.getD k (-1) - 1:=by
 have hw:=h.way k hk (by omega)
 obtain ⟨d,hd⟩:∃d:Nat,(far.getD k (-1)).toNat=d+1:=⟨(far.getD k (-1)).toNat - 1,by omega⟩
 rw[hd] at hw
 cases hw with
 | step hx he=>
  rename_i x
  have hxn:=(hes _ he).1
  have l1:=h.least _ _ hx hxn
  have l2:=h.least _ _ ((h.way x hxn l1.1).step he) hk
  have hfx:far.getD x (-1)=far.getD k (-1) - 1:=by omega
  have hs:(es.findIdx? (Zf4 far k)).isSome=true:=by
   rw[List.findIdx?_isSome,List.any_eq_true]
   refine ⟨(x,k),he, ?_⟩
   unfold Zf4
   simp only[hfx,decide_true,Bool.and_self]
  obtain ⟨i,hi⟩:=Option.isSome_iff_exists.1 hs
  obtain ⟨hlt,hq,_⟩:=List.findIdx?_eq_some_iff_getElem.1 hi
  have hq2:=hq
  unfold Zf4 at hq2
  simp only[Bool.and_eq_true,decide_eq_true_eq] at hq2
  refine ⟨i,es[i].1,hi, ?_,(hes _ (List.getElem_mem hlt)).1,hq2.2⟩
  rw[List.getElem?_eq_getElem hlt]
  have:es[i]=(es[i].1,es[i].2):=rfl
  rw[hq2.1] at this
  rw[←this]
end
end Go.Proofs.YtpceleehbpnchaaGreat
