import Derived.Test.YtjjobbamoeaogaaDoorMarkNp
import Derived.Test.YtjjobbamoeaogaaDoorWq
namespace Go.Proofs.YtjjobbamoeaogaaDoor.Lw
open Go.RowKit
set_option linter.unusedVariables false
structure OwnW (w:World) (base:Nat) (tp ts:TypeId) (A:Option Addr) (c:Nat) (l:List Wire) (hs:List WHd):Prop where
 cap:l.length≤c∧c≤9223372036854775807
 len:hs.length=l.length
 adr:l≠[]→∃g,A=some ⟨g,0,none⟩
 lt:∀g,blk A=some g→base≤g∧g<w.heap.size
 fro:∀g o,blk A=some g→w.frozen? ⟨g,o,none⟩=false
 cells:∀(g i:Nat) (x:Wire) (h:WHd),blk A=some g→l[i]?=some x→hs[i]?=some h→∀(q:Nat) (v:Value),(h.cells x)[q]?=some v→w.cell? ⟨g,i * 4+q,none⟩=some v
 ok:∀(i:Nat) (x:Wire),l[i]?=some x→(x.name).length≤9223372036854775807∧InI x.kind
 ins:∀(i:Nat) (x:Wire) (h:WHd),l[i]?=some x→hs[i]?=some h→Own Zbr w base tp h.A h.c x.ins
 cov:∀(i:Nat) (x:Wire) (h:WHd),l[i]?=some x→hs[i]?=some h→Own ZB w base ts h.B h.d x.cover
 out:∀(i:Nat) (h:WHd) (b:Nat),hs[i]?=some h→h.has b→blk A≠some b
 dj1:∀(i:Nat) (h:WHd) (b:Nat),hs[i]?=some h→blk h.A=some b→blk h.B=some b→False
 dj2:∀(i j:Nat) (h h':WHd) (b:Nat),i≠j→hs[i]?=some h→hs[j]?=some h'→h.has b→h'.has b→False
def wB (A:Option Addr) (hs:List WHd) (b:Nat):Prop:=blk A=some b∨∃(i:Nat) (h:WHd),hs[i]?=some h∧h.has b
section
variable {w w':World} {base:Nat} {tp ts:TypeId} {A:Option Addr} {c:Nat} {l:List Wire} {hs:List WHd}
theorem OwnW.hd (ho:OwnW w base tp ts A c l hs) {i:Nat} {x:Wire} (hx:l[i]?=some x):∃h,hs[i]?=some h:=ZV (by rw[ho.len];exact Zae hx)
theorem OwnW.el (ho:OwnW w base tp ts A c l hs) {i:Nat} {h:WHd} (hh:hs[i]?=some h):∃x,l[i]?=some x:=ZV (by rw[←ho.len];exact Zae hh)
theorem OwnW.has_lt (ho:OwnW w base tp ts A c l hs) {i:Nat} {h:WHd} {b:Nat} (hh:hs[i]?=some h) (hb:h.has b):base≤b∧b<w.heap.size:=by
 obtain ⟨x,hx⟩:=ho.el hh
 rcases hb with hb|hb
 ·exact (ho.ins i x h hx hh).lt b hb
 ·exact (ho.cov i x h hx hh).lt b hb
theorem OwnW.wB_lt (ho:OwnW w base tp ts A c l hs) {b:Nat} (hb:wB A hs b):base≤b∧b<w.heap.size:=by
 rcases hb with hb|⟨i,h,hh,hb⟩
 ·exact ho.lt b hb
 ·exact ho.has_lt hh hb
theorem OwnW.lts (ho:OwnW w base tp ts A c l hs):∀q,wB A hs q→base≤q∧q<w.heap.size:=fun q hq=>ho.wB_lt hq
theorem OwnW.keep (ho:OwnW w base tp ts A c l hs) (hk:∀b,wB A hs b→w'.heap[b]?=w.heap[b]?) (hz:∀b,wB A hs b→b<w'.heap.size):OwnW w' base tp ts A c l hs:=
 ⟨ho.cap,ho.len,ho.adr,fun g hg=>⟨(ho.lt g hg).1,hz g (.inl hg)⟩,fun g o hg=>(World.frozen?_of_block (hk g (.inl hg))).trans (ho.fro g o hg),
  fun g i x h hg hx hh q v hv=>(World.cell?_of_block (hk g (.inl hg))).trans (ho.cells g i x h hg hx hh q v hv),ho.ok,
  fun i x h hx hh=>(ho.ins i x h hx hh).keep fun k hk'=>hk k (.inr ⟨i,h,hh,.inl hk'⟩),fun i x h hx hh=>(ho.cov i x h hx hh).keep fun k hk'=>hk k (.inr ⟨i,h,hh,.inr hk'⟩),ho.out,ho.dj1,ho.dj2⟩
theorem OwnW.to (ho:OwnW w base tp ts A c l hs) (hb:Below w.heap.size w w'):OwnW w' base tp ts A c l hs:=
 ho.keep (fun b h=>hb.block b (ho.wB_lt h).2) fun b h=>Nat.lt_of_lt_of_le (ho.wB_lt h).2 hb.size
theorem _root_.Go.Proofs.YtjjobbamoeaogaaDoor.Touch.ownW {D:Nat→Prop} (h:Touch D w w') (ho:OwnW w base tp ts A c l hs) (hE:∀k,wB A hs k→¬D k):OwnW w' base tp ts A c l hs:=
 ho.keep (fun b hb=>h.block b (ho.wB_lt hb).2 (hE b hb)) fun b hb=>Nat.lt_of_lt_of_le (ho.wB_lt hb).2 h.size
theorem OwnW.rsl (ho:OwnW w base tp ts A c l hs):RSl Zau w (wB A hs) A l:=fun hne=>by
 obtain ⟨g,rfl⟩:=ho.adr hne
 refine ⟨g,0,rfl,.inl rfl,fun k x hx=> ?_⟩
 obtain ⟨h,hh⟩:=ho.hd hx
 have hi:=ho.ins k x h hx hh
 have hc:=ho.cov k x h hx hh
 have o1:=ZtO hi
 have o2:=ZtO hc
 refine ⟨_,Zln (A_ins:=h.A) (c_ins:=h.c) (A_cover:=h.B) (c_cover:=h.d) (ho.ok k x hx).1 (ho.ok k x hx).2 hi.cap.1 hi.cap.2 (o1.mono fun b hb=>.inr ⟨k,h,hh,.inl hb⟩) hc.cap.1 hc.cap.2 (o2.mono fun b hb=>.inr ⟨k,h,hh,.inr hb⟩),fun j v hj=> ?_⟩
 rw[Nat.zero_add]
 exact ho.cells g k x h rfl hx hh j v hj
theorem OwnW.ra (ho:OwnW w base tp ts A c l hs):RA Zau w A l:=ho.rsl.mono fun b hb=>(ho.wB_lt hb).2
end
def wcost (x:Wire):Nat:=2+2 * x.ins.length+x.cover.length
def wcosts :List Wire→Nat
 |[]=>0
 |x::r=>wcost x+wcosts r
def mkWire (n:Int) (x:Wire):Wire:=⟨Zdg n.toNat,n+1,Zaw mkPin 2 (n+1+1) x.ins,Zaw mkStr 1 (n+1+1+2 * x.ins.length) x.cover⟩
def mkWs :Int→List Wire→List Wire
 |_,[]=>[]
 |n,x::r=>mkWire n x::mkWs (n+wcost x) r
theorem mkWs_len :∀(l:List Wire) (n:Int),(mkWs n l).length=l.length
 |[],_=>rfl
 |x::r,n=>by rw[mkWs,List.length_cons,List.length_cons,mkWs_len r]
theorem mkWs_get :∀(l:List Wire) (n:Int) (j:Nat) (x:Wire),l[j]?=some x→(mkWs n l)[j]?=some (mkWire (n+wcosts (l.take j)) x)
 |[],_,_,_,h=>by simp at h
 | y::r,n,0,x,h=>by
  simp at h
  subst h
  simp[mkWs,wcosts]
 | y::r,n,j+1,x,h=>by
  rw[mkWs,List.getElem?_cons_succ,mkWs_get r _ j x (by simpa using h),List.take_succ_cons,wcosts]
  congr 2
  omega
theorem wcosts_take :∀(l:List Wire) (j:Nat) (x:Wire),l[j]?=some x→wcosts (l.take (j+1))=wcosts (l.take j)+wcost x
 |[],_,_,h=>by simp at h
 | y::r,0,x,h=>by
  simp at h
  subst h
  simp[wcosts]
 | y::r,j+1,x,h=>by
  rw[List.take_succ_cons,wcosts,wcosts_take r j x (by simpa using h),List.take_succ_cons,wcosts]
  omega
theorem wcosts_le :∀(l:List Wire) (j:Nat),wcosts (l.take j)≤wcosts l
 |[],j=>by simp[wcosts]
 |y::r,0=>by simp[wcosts]
 | y::r,j+1=>by
  rw[List.take_succ_cons,wcosts,wcosts]
  have:=wcosts_le r j
  omega
structure MW (w0:World) (base:Nat) (tp ts:TypeId) (A:Option Addr) (l ml:List Wire) (hs:List WHd) (j:Nat) (wr:World):Prop where
 touch:Touch (wB A hs) w0 wr
 fro:∀g o,blk A=some g→wr.frozen? ⟨g,o,none⟩=false
 cells1:∀(g i:Nat) (x:Wire) (h:WHd),i<j→blk A=some g→ml[i]?=some x→hs[i]?=some h→∀(q:Nat) (v:Value),(h.cells x)[q]?=some v→wr.cell? ⟨g,i * 4+q,none⟩=some v
 cells2:∀(g i:Nat) (x:Wire) (h:WHd),j≤i→blk A=some g→l[i]?=some x→hs[i]?=some h→∀(q:Nat) (v:Value),(h.cells x)[q]?=some v→wr.cell? ⟨g,i * 4+q,none⟩=some v
 done:∀(i:Nat) (x:Wire) (h:WHd),i<j→ml[i]?=some x→hs[i]?=some h→RSl Zbr wr (fun b=>blk h.A=some b) h.A x.ins∧RSl ZB wr (fun b=>blk h.B=some b) h.B x.cover
 todo:∀(i:Nat) (x:Wire) (h:WHd),j≤i→l[i]?=some x→hs[i]?=some h→Own Zbr wr base tp h.A h.c x.ins∧Own ZB wr base ts h.B h.d x.cover
section
variable {w0 w1 u w2 w3 wr:World} {base:Nat} {tp ts:TypeId} {A:Option Addr} {c:Nat} {l ml:List Wire} {hs:List WHd} {j:Nat}
theorem OwnW.mw (ho:OwnW w0 base tp ts A c l hs):MW w0 base tp ts A l ml hs 0 w0:=
 ⟨Touch.refl _ _,ho.fro,fun g i x h hi=>by omega,fun g i x h _=>ho.cells g i x h,fun i x h hi=>by omega,fun i x h _ hx hh=>⟨ho.ins i x h hx hh,ho.cov i x h hx hh⟩⟩
theorem MW.step (ho:OwnW w0 base tp ts A c l hs) (hm:MW w0 base tp ts A l ml hs j wr) {x m:Wire} {h:WHd} {g:Nat} (hg:blk A=some g) (hx:l[j]?=some x) (hmx:ml[j]?=some m) (hh:hs[j]?=some h) (hli:m.ins.length=x.ins.length) (hlc:m.cover.length=x.cover.length)
 (hb:Below wr.heap.size wr w1) (hu:u=(w1.setCell ⟨g,j * 4,none⟩ (.string ⟨(m.name).toArray⟩)).setCell ⟨g,j * 4+1,none⟩ (.int .i64 m.kind)) (t2:Touch (fun b=>blk h.A=some b) u w2) (r2:RSl Zbr w2 (fun b=>blk h.A=some b) h.A m.ins)
 (t3:Touch (fun b=>blk h.B=some b) w2 w3) (r3:RSl ZB w3 (fun b=>blk h.B=some b) h.B m.cover):MW w0 base tp ts A l ml hs (j+1) w3:=by
 have hgl:=(ho.lt g hg).2
 have hs0:=hm.touch.size
 have hgr:g<wr.heap.size:=by omega
 have hb1:=hb.size
 have hus:u.heap.size=w1.heap.size:=by rw[hu,World.size_setCell,World.size_setCell]
 have hs2:=t2.size
 have hs3:=t3.size
 have ngA:¬blk h.A=some g:=fun e=>ho.out j h g hh (.inl e) hg
 have ngB:¬blk h.B=some g:=fun e=>ho.out j h g hh (.inr e) hg
 have hkeep:∀b,b<wr.heap.size→b≠g→¬h.has b→w3.heap[b]?=wr.heap[b]?:=fun b hlt hne hn=>by
  rw[t3.block b (by omega) (fun e=>hn (.inr e)),t2.block b (by omega) (fun e=>hn (.inl e)),hu,Below.heap_setCell _ _ _ _ (fun e=>hne e),Below.heap_setCell _ _ _ _ (fun e=>hne e)]
  exact hb.block b hlt
 have hcell:∀o,w3.cell? ⟨g,o,none⟩=u.cell? ⟨g,o,none⟩:=fun o=>by rw[t3.cell (by omega) ngB,t2.cell (by omega) ngA]
 have hc1:∀o,w1.cell? ⟨g,o,none⟩=wr.cell? ⟨g,o,none⟩:=fun o=>hb.cell (p:=⟨g,o,none⟩) hgr
 have hother:∀o,o≠j * 4→o≠j * 4+1→w3.cell? ⟨g,o,none⟩=wr.cell? ⟨g,o,none⟩:=fun o h1 h2=>by
  rw[hcell,hu,World.cell?_setCell_other _ _ _ _ (by intro e;injection e with _ e;exact h2 e.symm),World.cell?_setCell_other _ _ _ _ (by intro e;injection e with _ e;exact h1 e.symm),hc1]
 have hblk:∀(i:Nat) (h':WHd) (b:Nat),i≠j→hs[i]?=some h'→h'.has b→w3.heap[b]?=wr.heap[b]?:=fun i h' b hne hh' hb'=>
  hkeep b (by have:=(ho.has_lt hh' hb').2;omega) (fun e=>ho.out i h' b hh' hb' (by rw[e];exact hg)) fun hc=>ho.dj2 i j h' h b hne hh' hh hb' hc
 refine ⟨?_,fun g' o hg'=> ?_,fun g' i y h' hi hg' hy hh' q v hv=> ?_,fun g' i y h' hi hg' hy hh' q v hv=> ?_,fun i y h' hi hy hh'=> ?_,fun i y h' hi hy hh'=> ?_⟩
 ·have hD:∀q,wB A hs q→q<w0.heap.size:=fun q hq=>(ho.wB_lt hq).2
  have t1:Touch (wB A hs) w0 u:=by
   rw[hu]
   exact Touch.put (p:=⟨g,j * 4+1,none⟩) (Touch.put (p:=⟨g,j * 4,none⟩) (hm.touch.then_ hb) (.inl hg) _) (.inl hg) _
  exact (t1.chain (t2.mono fun b hb'=>.inr ⟨j,h,hh,.inl hb'⟩) hD (Nat.le_refl _)).chain (t3.mono fun b hb'=>.inr ⟨j,h,hh,.inr hb'⟩) hD (Nat.le_refl _)
 ·rw[hg] at hg'
  cases hg'
  rw[t3.frozen (by omega) ngB,t2.frozen (by omega) ngA,hu,World.frozen?_setCell,World.frozen?_setCell,hb.frozen (p:=⟨g,o,none⟩) hgr]
  exact hm.fro g o hg
 ·rw [hg] at hg'
  cases hg'
  have hq:q<4:=by have:=Zae hv;exact this
  by_cases e:i=j
  ·subst e
   rw[hmx] at hy
   cases hy
   rw[hh] at hh'
   cases hh'
   have hold:=hm.cells2 g i x h (Nat.le_refl _) hg hx hh
   have c0:=(hc1 (i * 4)).trans (by simpa using hold 0 _ rfl)
   have c1:=(hc1 (i * 4+1)).trans (hold 1 _ rfl)
   rcases q with _|_|_|_|q
   ·cases hv
    rw[Nat.add_zero,hcell,hu,World.cell?_setCell_other _ _ _ _ (by intro e;injection e with _ e;omega)]
    exact World.cell?_setCell_same _ _ _ c0
   ·cases hv
    rw[hcell,hu]
    exact World.cell?_setCell_same _ _ _ ((World.cell?_setCell_other _ _ _ _ (by intro e;injection e with _ e;omega)).trans c1)
   ·cases hv
    rw[hother _ (by omega) (by omega),hli]
    exact hold 2 _ rfl
   ·cases hv
    rw[hother _ (by omega) (by omega),hlc]
    exact hold 3 _ rfl
   ·omega
  ·rw[hother _ (by omega) (by omega)]
   exact hm.cells1 g i y h' (by omega) hg hy hh' q v hv
 ·rw[hg] at hg'
  cases hg'
  have hq:q<4:=by have:=Zae hv;exact this
  rw[hother _ (by omega) (by omega)]
  exact hm.cells2 g i y h' (by omega) hg hy hh' q v hv
 ·by_cases e:i=j
  ·subst e
   rw[hmx] at hy
   cases hy
   rw[hh] at hh'
   cases hh'
   exact ⟨t3.rsl r2 fun b hb'=>⟨by have:=(ho.has_lt hh (.inl hb')).2;omega,fun hd=>ho.dj1 i h b hh hb' hd⟩,r3⟩
  ·obtain ⟨d1,d2⟩:=hm.done i y h' (by omega) hy hh'
   exact ⟨d1.keep (fun p hp=>World.cell?_of_block (hblk i h' _ e hh' (.inl hp))) fun _ h=>h,d2.keep (fun p hp=>World.cell?_of_block (hblk i h' _ e hh' (.inr hp))) fun _ h=>h⟩
 ·obtain ⟨d1,d2⟩:=hm.todo i y h' (by omega) hy hh'
  exact ⟨d1.keep fun k hk=>hblk i h' _ (by omega) hh' (.inl hk),d2.keep fun k hk=>hblk i h' _ (by omega) hh' (.inr hk)⟩
theorem MW.rsl (ho:OwnW w0 base tp ts A c l hs) (hm:MW w0 base tp ts A l ml hs l.length wr) (hlen:ml.length=l.length) (hml:∀(i:Nat) (x m:Wire),l[i]?=some x→ml[i]?=some m→m.ins.length=x.ins.length∧m.cover.length=x.cover.length∧(m.name).length≤9223372036854775807∧InI m.kind):RSl Zau wr (wB A hs) A ml:=fun hne=>by
 have hne':l≠[]:=fun e=>hne (List.eq_nil_of_length_eq_zero (by rw[hlen,e];rfl))
 obtain ⟨g,rfl⟩:=ho.adr hne'
 refine ⟨g,0,rfl,.inl rfl,fun k m hk=> ?_⟩
 have hkl:k<l.length:=by have:=Zae hk;omega
 obtain ⟨x,hx⟩:=ZV hkl
 obtain ⟨h,hh⟩:=ho.hd hx
 obtain ⟨g1,g2,g3,g4⟩:=hml k x m hx hk
 obtain ⟨d1,d2⟩:=hm.done k m h hkl hk hh
 have hi:=(ho.ins k x h hx hh).cap
 have hc:=(ho.cov k x h hx hh).cap
 refine ⟨_,Zln (A_ins:=h.A) (c_ins:=h.c) (A_cover:=h.B) (c_cover:=h.d) g3 g4 (by omega) hi.2 (d1.mono fun b hb=>.inr ⟨k,h,hh,.inl hb⟩) (by omega) hc.2 (d2.mono fun b hb=>.inr ⟨k,h,hh,.inr hb⟩),fun q v hq=> ?_⟩
 rw[Nat.zero_add]
 exact hm.cells1 g k m h hkl rfl hk hh q v hq
end
set_option maxHeartbeats 1000000 in
theorem markWireS_own (base:Nat) (tp ts:TypeId) (A:Option Addr) (c:Nat) (l:List Wire) (hs:List WHd) (k:Int) (w:World) (ho:OwnW w base tp ts A c l hs) (h0:0≤k) (hk:k+(wcosts l:Nat)≤4611686018427387904):
 Calls Tryd.prog 23 #[.slice A l.length c,.int .i64 k] w fun e w'=>e=.returned (.int .i64 (k+(wcosts l:Nat)))∧RSl Zau w' (wB A hs) A (mkWs k l)∧Touch (wB A hs) w w':=by
 have hcap:=ho.cap
 have HM:Hid (MW w base tp ts A l (mkWs k l) hs 0 w):=Za2 ho.mw
 go_enter Tryd.func23,Tryd.ntmps23
 go_wp2_with fail
 go_loopw [5,1] (fun i kv wr=>∃(j:Nat) (n:Int),j≤l.length∧i=.int .i64 j∧kv=.int .i64 n∧Hid (n=k+(wcosts (l.take j):Nat))∧Hid (MW w base tp ts A l (mkWs k l) hs j wr)) (fun i _ _=>l.length - (intOf i).toNat)
 case atStart=>exact ⟨0,k,Nat.zero_le _,rfl,rfl,by show _=_;simp[wcosts],HM⟩
 case round=>
  obtain ⟨j,n,hj,rfl,rfl,hn,hmr⟩:=hrel
  have hnv:=hn.out
  have hsr:=hmr.out.touch.size
  by_cases hlt:j<l.length
  ·obtain ⟨x,hx⟩:=ZV hlt
   obtain ⟨h,hh⟩:=ho.hd hx
   obtain ⟨g,hA⟩:=ho.adr (fun e=>by rw[e] at hlt;simp at hlt)
   subst hA
   have hgl:=(ho.lt g rfl).2
   have hmx:(mkWs k l)[j]?=some (mkWire n x):=by rw[mkWs_get l k j x hx,hnv]
   have hcst:=wcosts_take l j x hx
   have hcle:=wcosts_le l (j+1)
   have hwc:wcost x=2+2 * x.ins.length+x.cover.length:=rfl
   have e0:wr.cell? ⟨g,j * 4,none⟩=some (.string ⟨(x.name).toArray⟩):=by simpa using hmr.out.cells2 g j x h (Nat.le_refl _) rfl hx hh 0 _ rfl
   have e1:wr.cell? ⟨g,j * 4+1,none⟩=some (.int .i64 x.kind):=hmr.out.cells2 g j x h (Nat.le_refl _) rfl hx hh 1 _ rfl
   have e2:wr.cell? ⟨g,j * 4+2,none⟩=some (.slice h.A (x.ins).length h.c):=hmr.out.cells2 g j x h (Nat.le_refl _) rfl hx hh 2 _ rfl
   have e3:wr.cell? ⟨g,j * 4+3,none⟩=some (.slice h.B (x.cover).length h.d):=hmr.out.cells2 g j x h (Nat.le_refl _) rfl hx hh 3 _ rfl
   have z0:wr.frozen? ⟨g,j * 4,none⟩=false:=hmr.out.fro g _ rfl
   have z1:wr.frozen? ⟨g,j * 4+1,none⟩=false:=hmr.out.fro g _ rfl
   have hlbr:g<wr.heap.size:=by omega
   obtain ⟨hoi,hoc⟩:=hmr.out.todo j x h (Nat.le_refl _) hx hh
   have hk0:0≤n∧n+1+1+2 * x.ins.length+1 * x.cover.length≤4611686018427387904:=by omega
   have ngA:¬blk h.A=some g:=fun e=>ho.out j h g hh (.inl e) rfl
   have ngB:¬blk h.B=some g:=fun e=>ho.out j h g hh (.inr e) rfl
   have hdj:∀q,blk h.A=some q→blk h.B=some q→False:=fun q=>ho.dj1 j h q hh
   have HH:=Za2 (show l[j]?=some x∧hs[j]?=some h∧(mkWs k l)[j]?=some (mkWire n x)∧n=k+(wcosts (l.take j):Nat)∧wcosts (l.take (j+1))=wcosts (l.take j)+(2+2 * x.ins.length+x.cover.length) from ⟨hx,hh,hmx,hnv,by rw[hcst,hwc]⟩)
   clear hx hh hmx hcst hcle hwc hnv
   go_wp2_with fail
   refine (Zds (n) _ (by omega) (by omega)).mono ?_
   rintro e w1 ⟨rfl,hb1⟩
   obtain ⟨hc1,hf1⟩:=Zdu hb1
   have hz1:=hb1.size
   have lb1:g<w1.heap.size:=by omega
   go_wp2_with fail
   have hu:Touch (fun b=>b=g) w1 ((w1.setCell ⟨g,j * 4,none⟩ (.string ⟨(Zdg n.toNat).toArray⟩)).setCell ⟨g,j * 4+1,none⟩ (.int .i64 (n+1))):=
    Touch.put (D:=fun b=>b=g) (p:=⟨g,j * 4+1,none⟩) (Touch.put (D:=fun b=>b=g) (p:=⟨g,j * 4,none⟩) (Touch.refl _ _) rfl _) rfl _
   have hoi2:=hu.own (hoi.to hb1) (fun q hq e=>ngA (by rw[←e];exact hq))
   have hoc2:=hu.own (hoc.to hb1) (fun q hq e=>ngB (by rw[←e];exact hq))
   refine (markPinS_own base tp h.A h.c x.ins (n+1+1) _ hoi2 (by omega) (by omega)).mono ?_
   rintro e w2 ⟨rfl,hr2,hT2⟩
   have hs2:=hT2.size
   rw[World.size_setCell,World.size_setCell] at hs2
   have e3_2:w2.cell? ⟨g,j * 4+3,none⟩=some (.slice h.B (x.cover).length h.d):=by
    rw[hT2.cell (by rw[World.size_setCell,World.size_setCell];omega) ngA,World.cell?_setCell_other _ _ _ _ (by intro e;injection e with _ e;omega),World.cell?_setCell_other _ _ _ _ (by intro e;injection e with _ e;omega),hc1 _ _ hlbr];exact e3
   have hoc3:=hT2.own hoc2 (fun q h1 h2=>hdj q h2 h1)
   go_wp2_with fail
   refine (markStringS_own base ts h.B h.d x.cover (n+1+1+2 * x.ins.length) _ hoc3 (by omega) (by omega)).mono ?_
   rintro e w3 ⟨rfl,hr3,hT3⟩
   have hs3:=hT3.size
   go_wp2_with fail
   go_roundw
   case rel=>exact ⟨j+1,n+1+1+2 * x.ins.length+1 * x.cover.length,by omega,by go_num,by go_num,by obtain ⟨_,_,_,q1,q2⟩:=HH.out;show _=_;omega,Za2 (MW.step ho hmr.out rfl HH.out.1 HH.out.2.2.1 HH.out.2.1 (Zat _ _ _ _) (Zat _ _ _ _) hb1 rfl hT2 hr2 hT3 hr3)⟩
   case measure=>simp[intOf];omega
  ·have hjl:j=l.length:=by omega
   have HJ:=Za2 hjl;clear hjl hnv
   go_wp2_with fail
   go_ret
   have h:=hmr.out
   have hnn:=hn.out
   rw[HJ.out] at h hnn
   rw[List.take_length] at hnn
   refine ⟨ZdR hnn,MW.rsl ho h (mkWs_len _ _) (fun i x m hx hm=> ?_),h.touch⟩
   rw[mkWs_get l k i x hx] at hm
   cases hm
   have q1:=wcosts_take l i x hx
   have q2:=wcosts_le l (i+1)
   have q3:wcost x=2+2 * x.ins.length+x.cover.length:=rfl
   exact ⟨Zat _ _ _ _,Zat _ _ _ _,Zia _,by constructor<;>simp only[mkWire]<;>omega⟩
set_option maxHeartbeats 1000000 in
theorem heldWireS (A:Option Addr) (c:Nat) (l:List Wire) (k:Int) (w:World) (hl:l.length≤9223372036854775807) (hr:RA Zau w A (mkWs k l)) (h0:0≤k) (hk:k+(wcosts l:Nat)≤4611686018427387904):
 Calls Tryd.prog 25 #[.slice A l.length c,.int .i64 k] w fun e w'=>e=.returned (.int .i64 (k+(wcosts l:Nat)))∧Below w.heap.size w w':=by
 go_enter Tryd.func25,Tryd.ntmps25
 go_wp2_with fail
 go_loopw [5,1] (fun i kv wr=>∃(j:Nat) (n:Int),j≤l.length∧i=.int .i64 j∧kv=.int .i64 n∧Hid (n=k+(wcosts (l.take j):Nat))∧Below w.heap.size w wr) (fun i _ _=>l.length - (intOf i).toNat)
 case atStart=>exact ⟨0,k,Nat.zero_le _,rfl,rfl,by show _=_;simp[wcosts],Below.refl _ _⟩
 case round=>
  obtain ⟨j,n,hj,rfl,rfl,hn,hb⟩:=hrel
  have hnv:=hn.out
  have hsz:=hb.size
  by_cases hlt:j<l.length
  ·obtain ⟨x,hx⟩:=ZV hlt
   have hmx:(mkWs k l)[j]?=some (mkWire n x):=by rw[mkWs_get l k j x hx,hnv]
   obtain ⟨b,off,A_ins,c_ins,A_cover,c_cover,rfl,hbl,d0,d1,d2,d3,f0,f1,f2,f3,f4,f5,f6,f7⟩:=hr.Wire_at hb hmx
   have li:(mkWire n x).ins.length=x.ins.length:=Zat _ _ _ _
   have lc:(mkWire n x).cover.length=x.cover.length:=Zat _ _ _ _
   rw[li] at d2 f2
   rw[lc] at d3 f5
   simp only[mkWire] at d0 d1 f4 f7
   have hcst:=wcosts_take l j x hx
   have hcle:=wcosts_le l (j+1)
   have hwc:wcost x=2+2 * x.ins.length+x.cover.length:=rfl
   have hk0:0≤n∧n+1+1+2 * x.ins.length+1 * x.cover.length≤4611686018427387904:=by omega
   have HH:=Za2 (show n=k+(wcosts (l.take j):Nat)∧wcosts (l.take (j+1))=wcosts (l.take j)+(2+2 * x.ins.length+x.cover.length) from ⟨hnv,by rw[hcst,hwc]⟩)
   clear hmx hx hcst hcle hwc hnv li lc
   go_wp2_with fail
   go_region_held3 (fun W=>W.cell? ⟨b,off+j * 4,none⟩=some (.string ⟨(Zdg (n).toNat).toArray⟩)) (first|exact d0|exact (cell_later hb1 d0)) (first|(go_at_call 39;refine (Zds (n) _ (by omega) (by omega)).mono ?_;rintro e w1 ⟨rfl,hb1⟩))
   have hb2:=hb.drew.trans (hb1.mono hsz)
   replace d1:=cell_later hb1 d1
   replace d2:=cell_later hb1 d2
   replace d3:=cell_later hb1 d3
   replace f4:=f4.to ((Below.drew (Below.refl _ _)).trans hb1)
   replace f7:=f7.to ((Below.drew (Below.refl _ _)).trans hb1)
   go_wp2_with fail
   try go_quiet (fail)
   go_wp2_with fail
   refine (heldPinS A_ins c_ins x.ins (n+1+1) _ (by omega) f4 (by omega) (by omega)).mono ?_
   rintro e w2 ⟨rfl,hb3⟩
   have q0:decide (n+1+1+2 * (x.ins.length:Int)<0)=false:=by simp;omega
   have hb4:=hb2.trans (hb3.mono hb2.size)
   replace d3:=cell_later hb3 d3
   replace f7:=f7.to hb3
   go_wp2_with fail
   refine (heldStringS A_cover c_cover x.cover (n+1+1+2 * x.ins.length) _ (by omega) f7 (by omega) (by omega)).mono ?_
   rintro e w3 ⟨rfl,hb5⟩
   have q1:decide (n+1+1+2 * (x.ins.length:Int)+1 * (x.cover.length:Int)<0)=false:=by simp;omega
   have hb6:=hb4.trans (hb5.mono hb4.size)
   go_wp2_with fail
   go_roundw
   case rel=>exact ⟨j+1,n+1+1+2 * x.ins.length+1 * x.cover.length,by omega,by go_num,by go_num,by obtain ⟨q1,q2⟩:=HH.out;show _=_;omega,by (repeat' (first|(with_reducible first|exact Below.refl _ _|assumption|refine ZW ?_ _|refine Below.drew ?_|refine Below.alloc ?_ ?_ _|refine Below.setCell ?_ ?_ _|refine Below.then_ ?_ (by assumption) ?_)|go_size))⟩
   case measure=>simp[intOf];omega
  ·have hjl:j=l.length:=by omega
   have HJ:=Za2 hjl;clear hjl hnv
   go_wp2_with fail
   go_ret
   exact ⟨ZdR (by rw[hn.out,HJ.out,List.take_length]),hb⟩
def nB (A0 A1:Option Addr) (hs:List WHd) (b:Nat):Prop:=blk A0=some b∨wB A1 hs b
set_option maxHeartbeats 1000000 in
set_option maxRecDepth 20000 in
theorem markNetlist_own (base:Nat) (t0 tp ts:TypeId) (x:Nl) (A0:Option Addr) (c0:Nat) (A1:Option Addr) (c1:Nat) (hs:List WHd) (k:Int) (w:World) (ho0:Own Z1 w base t0 A0 c0 x.signals) (ho1:OwnW w base tp ts A1 c1 x.wires hs) (dj:∀q,blk A0=some q→wB A1 hs q→False) (h0:0≤k) (hk:k+2 * x.signals.length+(wcosts x.wires:Nat)≤4611686018427387904):
 Calls Tryd.prog 7 #[.agg #[.slice A0 (x.signals).length c0,.slice A1 (x.wires).length c1],.int .i64 k] w fun e w'=>e=.returned (.int .i64 (k+2 * x.signals.length+(wcosts x.wires:Nat)))∧RSl Z1 w' (fun b=>blk A0=some b) A0 (Zaw mkSig 2 k x.signals)∧RSl Zau w' (wB A1 hs) A1 (mkWs (k+2 * x.signals.length) x.wires)∧Touch (nB A0 A1 hs) w w':=by
 have hlt0:=ho0.lt
 have hlt1:∀q,wB A1 hs q→base≤q∧q<w.heap.size:=fun q hq=>ho1.wB_lt hq
 have hD:∀b,nB A0 A1 hs b→b<w.heap.size:=fun b hd=>by rcases hd with hd|hd;exact (hlt0 b hd).2;exact (hlt1 b hd).2
 go_enter Tryd.func7,Tryd.ntmps7
 go_wp2_with fail
 have b0:=(Below.refl w.heap.size w).alloc (Nat.le_refl _) (.cells #[.slice A0 (x.signals).length c0,.slice A1 (x.wires).length c1] 25)
 have hTT0:Touch (nB A0 A1 hs) w (w.alloc (.cells #[.slice A0 (x.signals).length c0,.slice A1 (x.wires).length c1] 25)):=(Touch.refl _ w).then_ b0
 have p0_0:=ho0.to b0
 have p1_0:=ho1.to b0
 refine (markSignalS_own base t0 A0 c0 x.signals (k) _ p0_0 (by omega) (by omega)).mono ?_
 rintro e w1 ⟨rfl,hr0,hT1⟩
 have hs1:=hT1.size
 rw[World.size_alloc] at hs1
 have hTT1:Touch (nB A0 A1 hs) w w1:=Touch.chain hTT0 (hT1.mono fun b hb=>.inl hb) hD (Nat.le_refl _)
 have e1_1:w1.cell? ⟨w.heap.size,1,none⟩=some (.slice A1 (x.wires).length c1):=by rw[hT1.cell (by first|omega|(rw[World.size_alloc];omega)) (fun hd=>by have:=hlt0 _ hd;omega)];simp[go_sem]
 have p1_1:=p1_0.keep (w':=w1) (fun q hq=>hT1.block q (by have:=hlt1 q hq;rw[World.size_alloc];omega) fun hd=>dj q hd hq) (fun q hq=>by have:=hlt1 q hq;omega)
 go_wp2_with fail
 refine (markWireS_own base tp ts A1 c1 x.wires hs (k+2 * x.signals.length) _ p1_1 (by omega) (by omega)).mono ?_
 rintro e w2 ⟨rfl,hr1,hT2⟩
 have hs2:=hT2.size
 have hTT2:Touch (nB A0 A1 hs) w w2:=Touch.chain hTT1 (hT2.mono fun b hb=>.inr hb) hD (Nat.le_refl _)
 have hr0:=hT2.rsl hr0 (fun q hq=>⟨by have:=hlt0 q hq;omega,fun hd=>dj q hq hd⟩)
 go_wp2_with fail
 go_ret
 exact ⟨rfl,hr0,hr1,hTT2⟩
set_option maxHeartbeats 1000000 in
set_option maxRecDepth 20000 in
theorem heldNetlist (x:Nl) (A0:Option Addr) (c0:Nat) (A1:Option Addr) (c1:Nat) (k:Int) (w:World) (g0:(x.signals).length≤9223372036854775807) (r0:RA Z1 w A0 (Zaw mkSig 2 k x.signals)) (g1:(x.wires).length≤9223372036854775807) (r1:RA Zau w A1 (mkWs (k+2 * x.signals.length) x.wires)) (h0:0≤k) (hk:k+2 * x.signals.length+(wcosts x.wires:Nat)≤4611686018427387904):
 Calls Tryd.prog 8 #[.agg #[.slice A0 (x.signals).length c0,.slice A1 (x.wires).length c1],.int .i64 k] w fun e w'=>e=.returned (.int .i64 (k+2 * x.signals.length+(wcosts x.wires:Nat)))∧Below w.heap.size w w':=by
 have q0:decide (k+2 * (x.signals.length:Int)<0)=false:=by simp;omega
 have q1:decide (k+2 * (x.signals.length:Int)+((wcosts x.wires:Nat):Int)<0)=false:=by simp;omega
 go_enter Tryd.func8,Tryd.ntmps8
 go_wp2_with fail
 have b0:Below w.heap.size w (w.alloc (.cells #[.slice A0 (x.signals).length c0,.slice A1 (x.wires).length c1] 25)):=(Below.refl w.heap.size w).alloc (Nat.le_refl _) _
 refine (heldSignalS A0 c0 x.signals (k) _ g0 (RA.to r0 b0) (by omega) (by omega)).mono ?_
 rintro e w1 ⟨rfl,hb1⟩
 have b1:Below w.heap.size w w1:=b0.trans (hb1.mono b0.size)
 obtain ⟨hc1,_⟩:=Zdu hb1
 have e1_1:w1.cell? ⟨w.heap.size,1,none⟩=some (.slice A1 (x.wires).length c1):=by rw[hc1 _ _ (by first|omega|(rw[World.size_alloc];omega)|(have:=b0.size;omega))];simp[go_sem]
 have hl1:w.heap.size<w1.heap.size:=by have:=hb1.size;rw[World.size_alloc] at this;omega
 go_wp2_with fail
 refine (heldWireS A1 c1 x.wires (k+2 * x.signals.length) _ g1 (RA.to r1 b1) (by omega) (by omega)).mono ?_
 rintro e w2 ⟨rfl,hb2⟩
 have b2:Below w.heap.size w w2:=b1.trans (hb2.mono b1.size)
 go_wp2_with fail
 go_ret
 exact ⟨rfl,b2⟩
end Go.Proofs.YtjjobbamoeaogaaDoor.Lw
