import Derived.Test.YtjjobbamoeaogaaDoorBase
import Derived.MapKept
namespace Go.Proofs.YtjjobbamoeaogaaDoor
open Go.RowKit
set_option linter.unusedVariables false
def ZjU {κ:Type} [DecidableEq κ] (k:κ):List (κ×Value)→Nat→Option (Nat×Value)
 |[],_=>none
 |(a,v)::r,i=>if k=a then some (i,v) else ZjU k r (i+1)
def Zp7 {κ:Type} [DecidableEq κ] (k:κ):List (κ×Value)→Option Value
 |[]=>none
 |(a,v)::r=>if k=a then some v else Zp7 k r
structure KeyOk (P:Program) (kt:TypeId) (κ:Type) [DecidableEq κ] (val:κ→Value):Prop where
 check:∀(b:Bool) (k:κ) (w:World),(Instr.checkKey b 10000 kt (val k)).run P w=.ok () w
 find:∀(kv:List (κ×Value)) (es:List MapEntry),es.map (fun e=>(e.key,e.val))=kv.map (fun p=>(val p.1,p.2))→∀(k:κ) (w:World),(Instr.findKey kt (val k) es).run P w=.ok (ZjU k kv 0) w
 same:∀k:κ,Instr.sameBits 10000 (val k) (val k)=true
def Zdf {κ:Type} (val:κ→Value) (w:World) (b:Nat) (kv:List (κ×Value)):Prop:=
 ∃es clock,w.heap[b]?=some (.map es clock)∧es.toList.map (fun e=>(e.key,e.val))=kv.map (fun p=>(val p.1,p.2))
section
variable {κ :Type} {val:κ→Value} {w w':World} {b:Nat} {kv:List (κ×Value)}
theorem Zdf.lt (h:Zdf val w b kv):b<w.heap.size:=by
 obtain ⟨es,clock,hb,_⟩:=h
 rcases Nat.lt_or_ge b w.heap.size with hlt|hge
 ·exact hlt
 ·rw[Array.getElem?_eq_none hge] at hb;cases hb
theorem Zdf.keep (h:Zdf val w b kv) (e:w'.heap[b]?=w.heap[b]?):Zdf val w' b kv:=by
 obtain ⟨es,clock,hb,hr⟩:=h
 exact ⟨es,clock,e.trans hb,hr⟩
theorem Zdf.below {B:Nat} (h:Zdf val w b kv) (hb:Below B w w') (hlt:b<B):Zdf val w' b kv:=h.keep (hb.block b hlt)
theorem Zdf.new (w:World) (val:κ→Value):Zdf val (w.alloc (.map #[] 0)) w.heap.size []:=⟨#[],0,(MapKept.heap_alloc w _).1,rfl⟩
end
section
variable {κ :Type} [DecidableEq κ] {val:κ→Value} {P:Program} {kt et T:TypeId} {w w':World} {b:Nat} {kv:List (κ×Value)}
theorem ZjV (k:κ):∀(kv:List (κ×Value)) (i:Nat),(ZjU k kv i).map (·.2)=Zp7 k kv
 |[],_=>rfl
 |(a,v)::r,i=>by unfold ZjU Zp7;split<;>simp[ZjV k r]
theorem Zdf.lookup (K:KeyOk P kt κ val) (hT:P.underlying T=some (.map kt et)) (h:Zdf val w b kv) {z:Value} (hz:(zeroValue et).run P w=.ok z w) (k:κ):
 (Instr.lookup T (.map (some b)) (val k) false).run P w=.ok ((Zp7 k kv).getD z) w:=by
 obtain ⟨es,clock,hb,hr⟩:=h
 have hf:=K.find kv es.toList hr k w
 have hc:=K.check es.isEmpty k w
 rw[←ZjV k kv 0]
 cases hk:ZjU k kv 0 with
 |none=>rw[hk] at hf;simp[Instr.lookup,run_underlying hT,MapKept.run_getObj_map hb,hc,hf,hz]
 |some p=>rw[hk] at hf;simp[Instr.lookup,run_underlying hT,MapKept.run_getObj_map hb,hc,hf]
end
section
variable {w w':World} {b:Nat}
def ZbY (w w':World) (b:Nat):Prop:=w'.os=w.os∧w'.tape=w.tape∧w'.output=w.output∧w'.heap.size=w.heap.size∧∀i,i≠b→w'.heap[i]?=w.heap[i]?
theorem ZbY.below {B:Nat} {a:World} (h:ZbY w w' b) (hb:Below B a w) (hB:B≤b):Below B a w':=
 ⟨h.1.trans hb.os,h.2.1.trans hb.tape,h.2.2.1.trans hb.output,by rw[h.2.2.2.1];exact hb.size,fun i hi=>(h.2.2.2.2 i (by omega)).trans (hb.block i hi)⟩
theorem ZbY.agree {D:Nat→Prop} (h:ZbY w w' b) (hD:∀i,D i→i≠b):Agree D w w':=⟨fun p hp=>World.cell?_of_block (h.2.2.2.2 _ (hD _ hp))⟩
theorem ZbY.cell {b' o:Nat} (h:ZbY w w' b) (hb:b'≠b):w'.cell? ⟨b',o,none⟩=w.cell? ⟨b',o,none⟩:=World.cell?_of_block (h.2.2.2.2 _ hb)
theorem ZbY.frozen {b' o:Nat} (h:ZbY w w' b) (hb:b'≠b):w'.frozen? ⟨b',o,none⟩=w.frozen? ⟨b',o,none⟩:=World.frozen?_of_block (h.2.2.2.2 _ hb)
end
section
variable {κ :Type} [DecidableEq κ] {val:κ→Value} {P:Program} {kt et T:TypeId} {w w':World} {b:Nat} {kv:List (κ×Value)}
end
end Go.Proofs.YtjjobbamoeaogaaDoor
