import Derived.Test.YtkgnjijonikchaaGreatRep
import Derived.Test.YtkgnjijonikchaaGreatDistPure
import Derived.Test.YtkgnjijonikchaaGreatNx
import Derived.Deep.AppendLies
import Derived.Deep.RegionLaw
namespace Go.Proofs.YtkgnjijonikchaaGreat
open Go.RowKit
set_option linter.unusedVariables false
set_option linter.unusedSimpArgs false
def ZpH :Sh (Nat×Nat):=Sh.via (ZaI Zx Zx) (fun e=>((e.1:Int),(e.2:Int)))
theorem Zwt {W:World} {g:Nat} {v:Int} {e:TypeId} (hv:InI v) (hg:W.heap[g]?=some (.cells #[.int .i64 v] e (0,0))):RA Zx W (some ⟨g,0,none⟩) [v]:=by
 have:Own Zx W 0 e (some ⟨g,0,none⟩) 1 [v]:=⟨[[.int .i64 v]],⟨rfl,.inr ⟨g,1,_,rfl,Nat.zero_le _,hg,Nat.le_refl _,by simp[maxLen],rfl,rfl⟩⟩,rfl,fun k x cs hx hcs=>by
  cases k with
  |zero=>cases hx;cases hcs;exact ⟨rfl,hv⟩
  |succ k=>simp at hx⟩
 exact this.ra
structure Push2 (w w':World) (A A':Option Addr):Prop where
 os:w'.os=w.os
 tape:w'.tape=w.tape
 output:w'.output=w.output
 size:w.heap.size≤w'.heap.size
 block:∀k,k<w.heap.size→blk A≠some k→w'.heap[k]?=w.heap[k]?
 lies:∀k,blk A'=some k→blk A=some k∨w.heap.size≤k
theorem Zoi {α:Type} {S:Sh α} {P:Program} {w:World} {ops:Array Oper} {o:Oper} {a:Act} {K:Act→World→Prop} {Q:Exit→Act→World→Prop} {E:Prop} {base:Nat} {e t:TypeId} {size bytes:Nat} {A:Option Addr} {c:Nat} {l:List α}
 (hgd:o.guard=none) (s x:Operand) (ho:o.op=.call {callee:=.builtin .append,args:= #[s,x],argTypes:= #[t,t]}) (ht:P.underlying t=some (.slice e))
 (hinfo:(P.info? e).map (fun i=>(i.zero.map (fun z=>z.cells.size),i.size,i.bytes))=some (some size,size,bytes)) (hsize:S.size=size) (hpos:0<size) (hby:bytes≤4096)
 (hs:a.eval s=.slice A l.length c) (hown:Own S w base e A c l) (hbase:base≤w.heap.size) (hlen:l.length≤4000000)
 (y:α) (cs:List Value) (hrep:S.rep w (fun _=>False) cs y) (h1:∀u∈cs,u.oneCell'=true) (B:Nat) (hx:a.eval x=.slice (some ⟨B,0,none⟩) 1 1) (hB:w.heap[B]?=some (.cells cs.toArray e (0,0)))
 (h:∀A' c' w',Own S w' base e A' c' (l++[y])→Push2 w w' A A'→K (a.put o.dst (.slice A' (l.length+1) c')) w'):
 if Region.wanted o (yielded ops a.tmps)=true then Oper.wp P o a w K Q else E:=by
 obtain ⟨i,hi,h0⟩:=Option.map_eq_some_iff.1 hinfo
 simp only[Prod.mk.injEq] at h0
 obtain ⟨hz,hs1,hb1⟩:=h0
 obtain ⟨z,hz0,hz1⟩:=Option.map_eq_some_iff.1 hz
 obtain ⟨css,hr,hcl,hcx⟩:=hown
 have hcsl:cs.length=S.size:=S.len hrep
 refine step_append_lies w hgd s x t ho base e i z S.size bytes ht hi hz0 (by rw[hs1,hsize]) hb1 (by rw[hz1,hsize]) (by omega) (.slice A l.length c) l.length css.flatten hs hr ⟨B,0,none⟩ 1 1 cs hx (by rw[hcsl];omega) (fun j u hj=>Zm0 hB hj) h1 (by omega) (by simp only[maxLen];omega) ?_ hbase w.heap.size rfl ?_
 ·have:(l.length+1) * bytes≤4000001 * 4096:=Nat.mul_le_mul (by omega) hby
  omega
 ·intro g cap w' hrow hg hat hlt
  refine h (some ⟨g,0,none⟩) cap w' ⟨css++[cs], ?_,by simp[hcl],fun k y' cs' hk hk'=> ?_⟩ ⟨hg.os,hg.tape,hg.output,hg.size,fun k hk hne=> ?_,fun k hk=> ?_⟩
  ·rw[List.flatten_append,List.length_append]
   simpa using hrow
  ·by_cases hkl:k<l.length
   ·rw[List.getElem?_append_left hkl] at hk
    rw[List.getElem?_append_left (by omega)] at hk'
    exact S.keep (hcx k y' cs' hk hk') (fun _ h=>h.elim) (fun _ h=>h)
   ·rw[List.getElem?_append_right (by omega)] at hk
    rw[List.getElem?_append_right (by omega),hcl] at hk'
    have hk0:k - l.length=0:=by
     rcases Nat.eq_zero_or_pos (k - l.length) with h0|h0
     ·exact h0
     ·rw[List.getElem?_eq_none (by simp;omega)] at hk;cases hk
    rw[hk0] at hk hk'
    simp at hk hk'
    subst hk hk'
    exact S.keep hrep (fun _ h=>h.elim) (fun _ h=>h)
  ·exact hg.block k hk (fun e=>hne (by
    cases A with
    |none=>cases e
    |some ad=>simpa[blk,Value.ownBlock] using e.symm))
  ·simp[blk] at hk
   subst hk
   rcases hat with h2|h2
   ·left
    cases A with
    |none=>cases h2
    |some ad=>simpa[blk,Value.ownBlock] using h2
   ·right;omega
theorem ZjZ {w:World} {o:Obj} {g:Nat} (h:g=w.heap.size):(w.alloc o).heap[g]?=some o:=by subst h;exact heap_alloc_new w o
theorem RSl.step_at {w:World} {D:Nat→Prop} {A:Option Addr} {l:List (Nat×Nat)} {k:Nat} {x:Nat×Nat} (h:RSl ZpH w D A l) (hx:l[k]?=some x):
 ∃(b off:Nat),A=some ⟨b,off,none⟩∧D b∧w.cell? ⟨b,off+k * 2,none⟩=some (.int .i64 x.1)∧w.cell? ⟨b,off+k * 2+1,none⟩=some (.int .i64 x.2):=by
 obtain ⟨b,off,cs,e,hb,hr,hc⟩:=h.cells_at hx
 obtain ⟨c1,c2,rfl,⟨rfl,_⟩,⟨rfl,_⟩⟩:=hr
 have hsz:ZpH.size=2:=rfl
 exact ⟨b,off,e,hb,by simpa[hsz] using hc 0 _ rfl,by simpa[hsz] using hc 1 _ rfl⟩
theorem ZuV {P:Program} {t e:TypeId} (ht:P.underlying t=some (.slice e)) (hinfo:(P.info? e).map (fun i=>(i.zero,i.size,i.bytes))=some (some (.slice none 0 0),1,24))
 (n:Nat) (hn:n≤4000000):∃cells:Array Value,(cells.size=n∧∀i,i<n→cells[i]?=some (.slice none 0 0))∧
 ∀(w:World) (kl kc:IntKind),(Instr.makeSlice t (.int kl (n:Int)) (.int kc (n:Int))).run P w=.ok (.slice (some ⟨w.heap.size,0,none⟩) n n) (w.alloc (.cells cells e)):=by
 obtain ⟨i,hi,h⟩:=Option.map_eq_some_iff.1 hinfo
 simp only[Prod.mk.injEq] at h
 obtain ⟨hz,hs,hby⟩:=h
 refine ⟨madeCells (Value.slice none 0 0).cells (n * i.size),⟨by rw[size_madeCells,hs,Nat.mul_one],fun j hj=> ?_⟩,fun w kl kc=>Zik t e i _ ht hi hz kl kc n n (Nat.le_refl _) ?_ (by omega) w⟩
 ·rw[hs,Nat.mul_one]
  simp[madeCells,hj,show (Value.slice none 0 0).cells= #[.slice none 0 0] from rfl,Nat.mod_one]
 ·rw[hby];omega
def Zd3 (es:List (Nat×Nat)) (i:Nat):List Int:=(Zby es i).map Int.ofNat
theorem ZuW (es:List (Nat×Nat)) (e:Nat×Nat):Zd3 (es++[e])=fun j=>if j=e.1 then Zd3 es e.1++[(e.2:Int)] else Zd3 es j:=by
 funext j
 unfold Zd3 Zby
 rw[List.filter_append,List.map_append,List.map_append]
 by_cases h:j=e.1
 ·subst h;simp
 ·simp[h,Ne.symm h]
set_option maxRecDepth 20000 in
set_option maxHeartbeats 2000000 in
theorem ZmZ (hmul:Zro) (n s:Nat) (es:List (Nat×Nat)) (A:Option Addr) (c:Nat) (w:World) (hes:∀e∈es,e.1<n∧e.2<n) (hs:s<n) (hn:n≤1000) (h1:es.length≤c) (h2:c≤9223372036854775807) (hel:es.length≤100000) (hr:RA ZpH w A es):
 Calls Tryz.prog 147 #[.int .i64 n,.slice A es.length c,.int .i64 s] w fun e w'=>∃A' c',e=.returned (.slice A' n c')∧Own Zx w' w.heap.size 3 A' c' (Zdr n es s)∧Below w.heap.size w w':=by
 obtain ⟨cells,hcs,hmk⟩:=ZuV (P:=Tryz.prog) (t:=73) (e:=103) Tryz.underlying73 (by kernel_rfl) n (by omega)
 have HC:=Zl hcs;clear hcs
 have HM:=Zl hmk;clear hmk
 have hmul:=Zl hmul
 have HES:=Zl hes;clear hes
 go_enter Tryz.func147,Tryz.ntmps147
 go_wp2_with fail
 rename_i Q0 K0 ha0
 have H : Hid (∀(wq:World) (A1:Option Addr) (c1 g8 g15:Nat),Hid (Own Zx wq w.heap.size 3 A1 c1 (List.replicate n (-1)))→Hid (wq.heap[g8]?=some (.cells cells 103 (0,0)))→Hid (Below w.heap.size w wq)→w.heap.size≤g8∧g8<wq.heap.size→Hid (blk A1≠some g8)→
  Exit.then K0 Q0 Exit.normal {tmps:= #[.int .i64 n,.slice A es.length c,.int .i64 s,undef,undef,undef,.slice none 0 0,.slice A1 n c1,.slice (some ⟨g8,0,none⟩) n n,undef,undef,undef,undef,undef,undef,.slice (some ⟨g15,0,none⟩) 1 1,.int .i64 n,.slice A1 n c1,.int .i64 n,.slice (some ⟨g8,0,none⟩) n n,undef,undef,undef,undef,undef,undef,undef,undef,undef,undef,undef,undef,undef,undef,undef,undef,undef,undef,undef,undef,undef,undef,undef,undef,undef,undef,undef,undef,undef,undef,undef,undef,undef,undef,undef,undef,undef,undef,undef,undef,undef,undef,undef,undef,undef,undef,undef,undef,undef,undef,undef,undef,undef,undef,undef,undef,undef,undef,undef,undef,undef,undef,undef,undef,undef],defers:=[]} wq):=by
  intro wq A1 c1 g8 g15 HO HG HB hgq hne
  go_wp2_with fail
  have HN0:Hid (NX wq wq.heap.size g8 103 3 n (Zd3 (es.take 0)) (fun _=>(none,0))):=⟨⟨cells,HG.out,HC.out.1,fun i hi=>HC.out.2 i hi⟩,fun i hi=>Own.nil_,fun i j b hi hj hij hb=>by simp[blk] at hb,hgq.2⟩
  go_loopw [22] (fun i wr=>∃(k:Nat) (sl:Nat→Option Addr×Nat),k≤es.length∧i=.int .i64 k∧Hid (NX wr wq.heap.size g8 103 3 n (Zd3 (es.take k)) sl)∧Hid (Touch (fun b=>b=g8) wq wr)) (fun i _=>es.length - (intOf i).toNat)
  case atStart=>exact ⟨0,_,Nat.zero_le _,rfl,HN0,Touch.refl _ _⟩
  case round=>
   obtain ⟨k,sl,hk,rfl,hnx,htr⟩:=hrel
   have hsz:=htr.out.size
   have hbw:Below w.heap.size w wr:=(HB.out.trans (htr.out.below (fun q hq=>by subst hq;exact hgq.1) (by omega)))
   by_cases hlt:k<es.length
   ·obtain ⟨e,he⟩:=Zq hlt
    obtain ⟨he1,he2⟩:=HES.out e (List.mem_of_getElem? he)
    obtain ⟨b,off,rfl,hbl,d0,d1⟩:=RSl.step_at (hr.to hbw) he
    obtain ⟨d2,fz2⟩:=hnx.out.cell he1
    have HE:=Zl he;clear he
    go_wp2_with fail
    obtain ⟨w5,hw5⟩:∃x,wr.alloc (.cells #[.int .i64 e.1,.int .i64 e.2] 221)=x:=⟨_,rfl⟩
    have hz5:w5.heap.size=wr.heap.size+1:=by rw[←hw5];simp
    have hb5:Below wr.heap.size wr w5:=by rw[←hw5];exact Below.alloc (Below.refl _ _) (Nat.le_refl _) _
    have hg5:w5.heap[wr.heap.size]?=some (.cells #[.int .i64 e.1,.int .i64 e.2] 221 (0,0)):=by rw[←hw5];exact heap_alloc_new _ _
    rw[hw5]
    clear hw5 d0 d1 d2 fz2
    have k0:w5.cell? ⟨wr.heap.size,0,none⟩=some (.int .i64 e.1):=by simp[World.cell?,hg5]
    have k1:w5.cell? ⟨wr.heap.size,1,none⟩=some (.int .i64 e.2):=by simp[World.cell?,hg5]
    have HNX5:=Zl (hnx.out.to hb5)
    obtain ⟨k2,kf2⟩:=HNX5.out.cell he1
    have hlen5:(Zd3 (es.take k) e.1).length≤4000000:=by
     unfold Zd3 Zby
     rw[List.length_map,List.length_map]
     exact Nat.le_trans (List.length_filter_le _ _) (by rw[List.length_take];omega)
    have hbase5:wq.heap.size≤w5.heap.size:=by omega
    have hown5:=Zl (HNX5.out.own e.1 he1)
    have hIe:InI (e.2:Int):=by constructor<;>omega
    have hown6:Hid (∀o:Obj,Own Zx (w5.alloc o) wq.heap.size 3 (sl e.1).1 (sl e.1).2 (Zd3 (es.take k) e.1)):=fun o=>hown5.out.keep fun q hq=>heap_alloc_old w5 o (hown5.out.lt q hq).2
    have hbase6:Hid (∀o:Obj,wq.heap.size≤(w5.alloc o).heap.size):=fun o=>by rw[World.size_alloc];omega
    have hnb:∀q,blk (sl e.1).1=some q→wq.heap.size≤q∧q<wr.heap.size:=fun q hq=>(hnx.out.own e.1 he1).lt q hq
    have hS:Hid (∀(W w6:World) (A2:Option Addr),Push2 W w6 (sl e.1).1 A2→(∀q,q<w5.heap.size→W.heap[q]?=w5.heap[q]?)→w5.heap.size≤W.heap.size→w6.cell? ⟨wr.heap.size,0,none⟩=some (.int .i64 e.1)∧w6.cell? ⟨wr.heap.size,1,none⟩=some (.int .i64 e.2)∧w6.cell? ⟨g8,e.1,none⟩=some (.slice (sl e.1).1 (Zd3 (es.take k) e.1).length (sl e.1).2)∧w6.frozen? ⟨g8,e.1,none⟩=false):=fun W w6 A2 h3 h1 h2=>by
     have c1:w6.heap[wr.heap.size]?=w5.heap[wr.heap.size]?:=(h3.block _ (by omega) (fun e'=>by have:=(hnb _ e').2;omega)).trans (h1 _ (by omega))
     have c2:w6.heap[g8]?=w5.heap[g8]?:=(h3.block _ (by omega) (fun e'=>by have:=(hnb _ e').1;omega)).trans (h1 _ (by omega))
     exact ⟨(World.cell?_of_block c1).trans k0,(World.cell?_of_block c1).trans k1,(World.cell?_of_block c2).trans k2,(World.frozen?_of_block c2).trans kf2⟩
    have hS0:Hid (∀(W:World),(∀q,q<w5.heap.size→W.heap[q]?=w5.heap[q]?)→W.cell? ⟨wr.heap.size,0,none⟩=some (.int .i64 e.1)∧W.cell? ⟨wr.heap.size,1,none⟩=some (.int .i64 e.2)∧W.cell? ⟨g8,e.1,none⟩=some (.slice (sl e.1).1 (Zd3 (es.take k) e.1).length (sl e.1).2)∧W.frozen? ⟨g8,e.1,none⟩=false):=fun W h1=>by
     have c1:W.heap[wr.heap.size]?=w5.heap[wr.heap.size]?:=h1 _ (by omega)
     have c2:W.heap[g8]?=w5.heap[g8]?:=h1 _ (by omega)
     exact ⟨(World.cell?_of_block c1).trans k0,(World.cell?_of_block c1).trans k1,(World.cell?_of_block c2).trans k2,(World.frozen?_of_block c2).trans kf2⟩
    have HNX6:Hid (∀(W:World) (w6:World) (A2:Option Addr) (c2:Nat),Push2 W w6 (sl e.1).1 A2→Own Zx w6 wq.heap.size 3 A2 c2 (Zd3 (es.take k) e.1++[(e.2:Int)])→(∀q,q<w5.heap.size→W.heap[q]?=w5.heap[q]?)→w5.heap.size≤W.heap.size→∃sl',NX (w6.setCell ⟨g8,e.1,none⟩ (.slice A2 ((Zd3 (es.take k) e.1).length+1) c2)) wq.heap.size g8 103 3 n (Zd3 (es.take (k+1))) sl'):=fun W w6 A2 c2 h4 h3 h1 h2=>by
     have hN:=NX.put (w:=W) (w1:=w6) (A':=A2) (c':=c2) (i:=e.1) (y:=(e.2:Int)) (NX.keep (w:=w5) (w':=W) HNX5.out (fun q hq _=>h1 q hq)) he1 (by omega) h3 h4.block h4.lies
     have e9:es.take (k+1)=es.take k++[e]:=by rw[List.take_add_one,HE.out];rfl
     rw[e9,ZuW]
     exact ⟨_,hN⟩
    have HT6:Hid (∀(W:World) (w6:World) (A2:Option Addr) (v:Value),Push2 W w6 (sl e.1).1 A2→W.os=w5.os→W.tape=w5.tape→W.output=w5.output→(∀q,q<w5.heap.size→W.heap[q]?=w5.heap[q]?)→w5.heap.size≤W.heap.size→Touch (fun b=>b=g8) wq (w6.setCell ⟨g8,e.1,none⟩ v)):=fun W w6 A2 v h3 o1 o2 o3 h1 h2=>by
     have t5:Touch (fun b=>b=g8) wq w5:=htr.out.then_ hb5
     have t6:Touch (fun b=>b=g8) wq w6:=⟨h3.os.trans (o1.trans t5.os),h3.tape.trans (o2.trans t5.tape),h3.output.trans (o3.trans t5.output),by have:=h3.size;have:=t5.size;omega,fun q hq hn=>((h3.block q (by have:=t5.size;omega) (fun e'=>by have:=(hnb _ e').1;omega)).trans (h1 q (by have:=t5.size;omega))).trans (t5.block q hq hn)⟩
     exact t6.put rfl v
    clear hg5 hown5 hnb
    obtain ⟨m0,m1,m2,mf2⟩:=hS0.out (w5.alloc (.cells #[.int .i64 e.2] 3)) (fun q hq=>heap_alloc_old w5 _ hq)
    go_region_law ((refine Zoi (S:=Zx) (size:=1) (bytes:=8) (base:=wq.heap.size) (e:=3) (t:=103) (A:=(sl e.1).1) (c:=(sl e.1).2) (l:=Zd3 (es.take k) e.1) rfl (.tmp 33) (.tmp 36) (by rfl) Tryz.underlying103 (by kernel_rfl) rfl (by decide) (by decide) (by rfl) (hown6.out _) (hbase6.out _) hlen5 (e.2:Int) [.int .i64 e.2] ⟨rfl,hIe⟩ (ZtJ _) (wr.heap.size+1) (by rfl) (ZjZ hz5.symm) ?_;intro A2 c2 w6 hown2 hp2;obtain ⟨q0,q1,q2,qf2⟩:=hS.out _ _ _ hp2 (fun q hq=>heap_alloc_old w5 _ hq) (by simp)))
    all_goals (
     obtain ⟨sl',hN⟩:=HNX6.out _ _ _ _ hp2 hown2 (fun q hq=>heap_alloc_old w5 _ hq) (by simp)
     have hT:=HT6.out _ _ _ (.slice A2 ((Zd3 (es.take k) e.1).length+1) c2) hp2 rfl rfl rfl (fun q hq=>heap_alloc_old w5 _ hq) (by simp)
     have hN:=Zl hN
     have hT:=Zl hT
     go_wp2_with fail
     go_roundw
     case rel=>exact ⟨k+1,sl',by omega,by go_num,hN,hT⟩
     case measure=>simp[intOf];omega)
   ·have hke:k=es.length:=by omega
    subst hke
    have HNXE:Hid (NX wr wq.heap.size g8 103 3 n (Zd3 es) sl):=by
     show NX _ _ _ _ _ _ _ _
     have:=hnx.out
     rw[List.take_length] at this
     exact this
    obtain ⟨gA,hA1,hgA1,hgA2⟩:=Own.int_form HO.out (by intro h0;have:=congrArg List.length h0;simp at this;omega)
    subst hA1
    have hneA:gA≠g8:=fun e'=>hne.out (by rw[e'];rfl)
    have hOut:Own Zx wr w.heap.size 3 (some ⟨gA,0,none⟩) c1 (List.replicate n (-1)):=htr.out.own HO.out (fun q hq hd=>hneA (by simp[blk] at hq;omega))
    obtain ⟨d0,z0,_⟩:=hOut.int_cell (k:=s) (v:= -1) (by rw[List.getElem?_replicate];simp[hs])
    have HBLK:Hid (∀i q,i<n→blk (sl i).1=some q→wq.heap.size≤q∧q<wr.heap.size):=fun i q hi hq=>(HNXE.out.own i hi).lt q hq
    have HOUT:=Zl hOut
    clear hnx hOut
    go_wp2_with fail
    clear d0 z0
    obtain ⟨wb,hwb⟩:∃x,(wr.setCell ⟨gA,s,none⟩ (.int .i64 0)).alloc (.cells #[.int .i64 s] 3)=x:=⟨_,rfl⟩
    have hzb:wb.heap.size=wr.heap.size+1:=by rw[←hwb];simp
    have HOB:Hid (Own Zx wb w.heap.size 3 (some ⟨gA,0,none⟩) c1 ((List.replicate n (-1)).set s 0)):=by
     show Own _ _ _ _ _ _ _
     rw[←hwb]
     exact (HOUT.out.int_put (by simpa using hs) (by constructor<;>omega)).to (Below.alloc (Below.refl _ _) (Nat.le_refl _) _)
    have HQB:Hid (Own Zx wb wr.heap.size 3 (some ⟨wr.heap.size,0,none⟩) 1 ([s].map Int.ofNat)):=by
     show Own _ _ _ _ _ _ _
     rw[←hwb]
     refine ZhQ.2 (.inr ⟨wr.heap.size, #[.int .i64 s],rfl,Nat.le_refl _,ZjZ (by simp),by simp,by simp[maxLen],rfl,fun i x hx=> ?_⟩)
     cases i with
     |zero=>simp at hx;subst hx;exact ⟨rfl,by constructor<;>omega⟩
     |succ i=>simp at hx
    have hfar:∀b,b<wr.heap.size→b≠gA→wb.heap[b]?=wr.heap[b]?:=fun b hb hn=>by
     rw[←hwb,heap_alloc_old _ _ (by simpa using hb)]
     exact ZeN hn
    have HNB:Hid (NX wb wq.heap.size g8 103 3 n (Zd3 es) sl):=HNXE.out.keep fun b hb hd=>hfar b hb (fun e'=>by rcases hd with h|h<;>omega)
    have HTB:Hid (Touch (fun b=>b=g8∨b=gA) wq wb):=by
     have t1:Touch (fun b=>b=g8∨b=gA) wq wr:=⟨htr.out.os,htr.out.tape,htr.out.output,htr.out.size,fun b hb hn=>htr.out.block b hb (fun e'=>hn (.inl e'))⟩
     show Touch _ _ _
     rw[←hwb]
     exact (t1.put (.inr rfl) _).then_ (Below.alloc (Below.refl _ _) (Nat.le_refl _) _)
    rw[hwb]
    clear hwb hfar HOUT HNXE
    have HR:Hid (ZnN es (n+1) 0 ((List.replicate n (-1)).set s 0) [s]=Zdr n es s):=rfl
    have HBI:Hid (Bi n es s 0 ((List.replicate n (-1)).set s 0) [s]):=Zrq hs
    obtain ⟨NB,hNB⟩:∃x,wr.heap.size=x:=⟨_,rfl⟩
    rw[hNB] at HQB HBLK hzb
    have HNBE:=Zl hNB
    have hNBq:wq.heap.size≤NB:=by omega
    clear hNB
    go_loopw [12,11] (fun atv qv wv=>∃(k:Nat) (out:List Int) (q:List Nat) (Aq:Option Addr) (cq:Nat),k≤n∧atv=.int .i64 k∧qv=.slice Aq q.length cq∧Hid (ZnN es (n+1 - k) k out q=Zdr n es s)∧Hid (Bi n es s k out q)∧Hid (Own Zx wv w.heap.size 3 (some ⟨gA,0,none⟩) c1 out)∧Hid (Own Zx wv NB 3 Aq cq (q.map Int.ofNat))∧Hid (NX wv wq.heap.size g8 103 3 n (Zd3 es) sl)∧Hid (Touch (fun b=>b=g8∨b=gA) wq wv)∧NB≤wv.heap.size) (fun atv _ _=>n+1 - (intOf atv).toNat)
    case atStart=>exact ⟨0,_,_,_,_,Nat.zero_le _,rfl,by rw[HNBE.out];rfl,HR,HBI,HOB,HQB,HNB,HTB,by omega⟩
    case round=>
     obtain ⟨k,out,q,Aq,cq,hkn,rfl,rfl,hbf,hbi,hout,hqu,hnx,htc,hzc⟩:=hrel
     have hql:=hbi.out.qlen
     by_cases hlt:k<q.length
     ·obtain ⟨x,hx⟩:=Zq hlt
      have hxn:=hbi.out.qlt x (List.mem_of_getElem? hx)
      have hx0:=(hbi.out.pos x hxn).2 (List.mem_of_getElem? hx)
      have hxk:=hbi.out.bnd k x hx
      have hkn1:k<n:=by omega
      obtain ⟨dx,hdx⟩:∃dx,out.getD x (-1)=dx:=⟨_,rfl⟩
      rw[hdx] at hx0 hxk
      obtain ⟨R2,hR2⟩:∃R2,relax (dx+1) (Zby es x) out q=R2:=⟨_,rfl⟩
      have HB2:Hid (Bi n es s (k+1) R2.1 R2.2):=by
       have:=hbi.out.step (fun e he=>(HES.out e he).2) hx
       rw[hdx,hR2] at this
       exact this
      have HBF:Hid (ZnN es (n+1 - (k+1)) (k+1) R2.1 R2.2=Zdr n es s):=by
       have h:=hbf.out
       rw[show n+1 - k=(n - k)+1 by omega] at h
       conv at h=>lhs;unfold ZnN
       rw[hx] at h
       simp only[hdx,hR2] at h
       show _=_
       rw[show n+1 - (k+1)=n - k by omega]
       exact h
      have HRX:=Zl hR2
      have HOL:Hid (out.length=n):=hbi.out.len
      clear hR2
      obtain ⟨gq,rfl,hgq1,hgq2⟩:=Own.int_form hqu.out (by intro h0;have:=congrArg List.length h0;simp at this;rw[this] at hlt;simp at hlt)
      have hqk:(q.map Int.ofNat)[k]?=some (x:Int):=by rw[List.getElem?_map,hx];rfl
      obtain ⟨e0,f0,_⟩:=hqu.out.int_cell hqk
      obtain ⟨e1,f1⟩:=hnx.out.cell hxn
      obtain ⟨Ax,hAx⟩:∃z,(sl x).1=z:=⟨_,rfl⟩
      obtain ⟨cx,hcx⟩:∃z,(sl x).2=z:=⟨_,rfl⟩
      have hsl:(Zd3 es x).length=(Zby es x).length:=by unfold Zd3;simp
      rw[hAx,hcx,hsl] at e1
      have HAX:=Zl hAx
      clear hAx hcx
      have HX:=Zl hx
      have HDX:=Zl hdx
      clear hx hdx hqk
      go_wp2_with fail
      have HRI:Hid (relax (dx+1) ((Zby es x).drop 0) out q=R2):=HRX
      have hsm:(Zby es x).length≤es.length:=by unfold Zby;rw[List.length_map];exact List.length_filter_le _ _
      have HXO:Hid (out.getD x (-1)=dx):=HDX
      go_loopw [59,11] (fun jv qv wi=>∃(j:Nat) (o:List Int) (p:List Nat) (Ap:Option Addr) (cp:Nat),j≤(Zby es x).length∧jv=.int .i64 j∧qv=.slice Ap p.length cp∧Hid (relax (dx+1) ((Zby es x).drop j) o p=R2)∧Hid (o.length=n)∧Hid (o.getD x (-1)=dx)∧Hid (p[k]?=some x)∧p.length≤n+j∧Hid (Own Zx wi w.heap.size 3 (some ⟨gA,0,none⟩) c1 o)∧Hid (Own Zx wi NB 3 Ap cp (p.map Int.ofNat))∧Hid (NX wi wq.heap.size g8 103 3 n (Zd3 es) sl)∧Hid (Touch (fun b=>b=g8∨b=gA) wq wi)∧NB≤wi.heap.size) (fun jv _ _=>(Zby es x).length - (intOf jv).toNat)
      case atStart=>exact ⟨0,out,q,_,_,Nat.zero_le _,rfl,rfl,HRI,HOL,HXO,HX,by omega,hout,hqu,hnx,htc,hzc⟩
      case round=>
       obtain ⟨j,o,p,Ap,cp,hj,rfl,rfl,hrl,hol,hxo,hpk,hpl,hoo,hpo,hnn,htt,hzz⟩:=hrel
       obtain ⟨gp,rfl,hgp1,hgp2⟩:=Own.int_form hpo.out (by intro h0;have h1:=congrArg List.length h0;have h2:=ZaL hpk.out;simp at h1;rw[h1] at h2;simp at h2)
       have hkp:=ZaL hpk.out
       by_cases hjl:j<(Zby es x).length
       ·obtain ⟨y,hy⟩:=Zq hjl
        have hes:=ZkE.1 (List.mem_of_getElem? hy)
        have hyn:y<n:=(HES.out _ hes).2
        have hny:(Zd3 es x)[j]?=some (y:Int):=by unfold Zd3;rw[List.getElem?_map,hy];rfl
        have hox:=hnn.out.own x hxn
        rw[HAX.out] at hox
        obtain ⟨gx,rfl,_,_⟩:=Own.int_form hox (by intro h0;rw[h0] at hny;simp at hny)
        obtain ⟨e2,f2,_⟩:=hox.int_cell hny
        have hyo:o[y]?=some (o.getD y (-1)):=by rw[List.getD_eq_getElem?_getD,List.getElem?_eq_getElem (by rw[hol.out];exact hyn)];rfl
        obtain ⟨e3,f3,i3⟩:=hoo.out.int_cell hyo
        have hxo2:o[x]?=some dx:=by rw[←hxo.out,List.getD_eq_getElem?_getD,List.getElem?_eq_getElem (by rw[hol.out];exact hxn)];rfl
        obtain ⟨e4,f4,i4⟩:=hoo.out.int_cell hxo2
        have hqk2:(p.map Int.ofNat)[k]?=some (x:Int):=by rw[List.getElem?_map,hpk.out];rfl
        obtain ⟨e5,f5,_⟩:=hpo.out.int_cell hqk2
        have hstep:relax (dx+1) ((Zby es x).drop j) o p=if o.getD y (-1)<0 then relax (dx+1) ((Zby es x).drop (j+1)) (o.set y (dx+1)) (p++[y]) else relax (dx+1) ((Zby es x).drop (j+1)) o p:=by
         rw[Zc9 hy];rfl
        have HST:=Zl (hstep.symm.trans hrl.out)
        obtain ⟨oy,hoy⟩:∃z,o.getD y (-1)=z:=⟨_,rfl⟩
        rw[hoy] at e3
        have hjl':(j:Int)<((Zby es x).length:Int):=by omega
        have HY:=Zl hy
        clear hstep hy hny hyo hxo2 hqk2 hes hox
        by_cases hneg:oy<0
        ·have HN2:Hid (relax (dx+1) ((Zby es x).drop (j+1)) (o.set y (dx+1)) (p++[y])=R2):=by have:=HST.out;rw[hoy,if_pos hneg] at this;exact this
         have hyx:y≠x:=fun e'=>by rw[e',hxo.out] at hoy;omega
         have HOX:Hid ((o.set y (dx+1)).getD x (-1)=dx):=(getD_set_ne hyx.symm).trans hxo.out
         have HOY:=Zl hoy
         clear hoy
         have hId:InI (dx+1):=by constructor<;>omega
         have hIy:InI (y:Int):=by constructor<;>omega
         have HPQ:Hid (Own Zx (wr.setCell ⟨gA,y,none⟩ (.int .i64 (dx+1))) NB 3 (some ⟨gp,0,none⟩) cp (p.map Int.ofNat)):=hpo.out.keep fun q' hq'=>ZeN (by simp[blk] at hq';omega)
         have HOO:=Zl (hoo.out.int_put (k:=y) (v:=dx+1) (by rw[hol.out];exact hyn) hId)
         have hbase7:Hid (NB≤(wr.setCell ⟨gA,y,none⟩ (.int .i64 (dx+1))).heap.size):=by show _≤_;simpa using hzz
         have hlen7:Hid ((p.map Int.ofNat).length≤4000000):=by show _≤_;rw[List.length_map];omega
         have hml:Hid ((p.map Int.ofNat).length=p.length):=List.length_map _
         go_wp2_with (at_builtin;refine Zqz (S:=Zx) (size:=1) (bytes:=8) rfl (.tmp 79) (.tmp 81) rfl Tryz.underlying103 (by kernel_rfl) rfl (by decide) (by decide) (by rw[hml.out];rfl) HPQ.out hbase7.out hlen7.out (y:Int) [.int .i64 y] ⟨rfl,hIy⟩ (ZtJ _) (by simp[Act.eval]) ?_;intro A2 c2 w6 hown2 hp2)
         have hz6:=hp2.size
         have hzW:(wr.setCell ⟨gA,y,none⟩ (.int .i64 (dx+1))).heap.size=wr.heap.size:=by simp
         rw[hzW] at hz6
         have hpb:∀b,b<wr.heap.size→b≠gp→b≠gA→w6.heap[b]?=wr.heap[b]?:=fun b hb h1 h2=>(hp2.block b (by rw[hzW];exact hb) (fun e'=>h1 (by simp[blk] at e';omega))).trans (ZeN h2)
         have HO2:Hid (Own Zx w6 w.heap.size 3 (some ⟨gA,0,none⟩) c1 (o.set y (dx+1))):=HOO.out.keep fun q' hq'=>by
          have:q'=gA:=by simp[blk] at hq';omega
          subst this
          exact hp2.block q' (by rw[hzW];omega) (fun e'=>by simp[blk] at e';omega)
         have HQ2:Hid (Own Zx w6 NB 3 A2 c2 ((p++[y]).map Int.ofNat)):=by show Own _ _ _ _ _ _ _;rw[List.map_append];exact hown2
         have HNX2:Hid (NX w6 wq.heap.size g8 103 3 n (Zd3 es) sl):=hnn.out.keep2 fun b hb hd=>hpb b hb (fun e'=>by
          rcases hd with h|⟨i,hi,h⟩
          ·omega
          ·have:=(HBLK.out i b hi h).2;omega) (fun e'=>by
          rcases hd with h|⟨i,hi,h⟩
          ·omega
          ·have:=(HBLK.out i b hi h).1;omega)
         have HT2:Hid (Touch (fun b=>b=g8∨b=gA) wq w6):=by
          have t1:=htt.out.put (p:=⟨gA,y,none⟩) (.inr rfl) (.int .i64 (dx+1))
          exact ⟨hp2.os.trans t1.os,hp2.tape.trans t1.tape,hp2.output.trans t1.output,by omega,fun b hb hn=>(hp2.block b (by rw[hzW];omega) (fun e'=>by simp[blk] at e';omega)).trans (t1.block b hb hn)⟩
         have HPK2:Hid ((p++[y])[k]?=some x):=by show _=_;rw[List.getElem?_append_left hkp];exact hpk.out
         have HOL2:Hid ((o.set y (dx+1)).length=n):=by show _=_;rw[List.length_set];exact hol.out
         clear hpb hown2
         go_roundw
         case rel=>exact ⟨j+1,o.set y (dx+1),p++[y],A2,c2,by omega,by go_num,by rw[List.length_append];rfl,HN2,HOL2,HOX,HPK2,by rw[List.length_append];simp;omega,HO2,HQ2,HNX2,HT2,by omega⟩
         case measure=>simp[intOf];omega
        ·have HN2:Hid (relax (dx+1) ((Zby es x).drop (j+1)) o p=R2):=by have:=HST.out;rw[hoy,if_neg hneg] at this;exact this
         have HOY:=Zl hoy
         clear hoy
         go_wp2_with fail
         go_roundw
         case rel=>exact ⟨j+1,o,p,_,_,by omega,by go_num,rfl,HN2,hol,hxo,hpk,by omega,hoo,hpo,hnn,htt,hzz⟩
         case measure=>simp[intOf];omega
       ·have hjn:j=(Zby es x).length:=by omega
        have HR3:Hid (R2=(o,p)):=by
         have:=hrl.out
         rw[hjn,List.drop_length] at this
         exact this.symm
        have HB3:Hid (Bi n es s (k+1) o p):=by have:=HB2.out;rw[HR3.out] at this;exact this
        have HF3:Hid (ZnN es (n+1 - (k+1)) (k+1) o p=Zdr n es s):=by have:=HBF.out;rw[HR3.out] at this;exact this
        have hjl':¬(j:Int)<((Zby es x).length:Int):=by omega
        clear hjn
        go_wp2_with fail
        refine ⟨⟨k+1,o,p,_,_,by omega,by go_num,rfl,HF3,HB3,hoo,hpo,hnn,htt,hzz⟩,by simp[intOf];omega⟩
     ·have hbe:Hid (out=Zdr n es s):=by
       have h:=hbf.out
       rw[show n+1 - k=(n - k)+1 by omega] at h
       conv at h=>lhs;unfold ZnN
       rw[List.getElem?_eq_none (by omega)] at h
       exact h
      go_wp2_with fail
      go_ret
      exact ⟨some ⟨gA,0,none⟩,c1,rfl,by rw[←hbe.out];exact hout.out,HB.out.trans (htc.out.below (fun q' hq'=>by rcases hq' with h|h<;>omega) (by omega))⟩
 have ht:True:=trivial
 have hmk:=fun w=>HM.out w
 go_region_held3 (fun W=>W.heap.size=W.heap.size) (rfl) (first|(go_at_call 79;refine (Zm1 hmul.out (-1) n _ _ _ (by constructor<;>omega) (Nat.le_refl 1) (by omega) (Zwt (e:=3) (by constructor<;>omega) (by first|exact heap_alloc_new _ _|exact ZjZ (by simp;done)|exact (heap_alloc_old _ _ (by simp;done)).trans (heap_alloc_new _ _))) (by omega) (by omega)).mono ?_;rintro e w1 ⟨A1,c1,rfl,ho1,hb1⟩))
 ·have hsz:=hb1.size
  simp at hsz
  have hw1:Below w.heap.size w w1:=Below.trans ((Below.alloc (Below.refl w.heap.size w) (Nat.le_refl _) _).drew) (hb1.mono (by simp))
  exact H.out _ A1 c1 _ _ ((ho1.lower (by simp;try omega)).to (Below.alloc (Below.refl _ _) (Nat.le_refl _) _)) (heap_alloc_new _ _) (hw1.alloc (by omega) _) (by simp;omega) (fun e=>by have:=(ho1.lt _ e).2;omega)
 ·have hsz:=hb1.size
  simp at hsz
  have hw1:Below w.heap.size w w1:=Below.trans ((Below.alloc (Below.alloc (Below.refl w.heap.size w) (Nat.le_refl _) _) (by simp) _).drew) (hb1.mono (by simp;try omega))
  exact H.out _ A1 c1 _ _ (ho1.lower (by simp;try omega)) ((hb1.block _ (by simp)).trans (ZjZ (by simp))) hw1 (by omega) (fun e=>by have:=(ho1.lt _ e).1;simp at this;omega)
 ·have hsz:=hb1.size
  simp at hsz
  have hw1:Below w.heap.size w w1:=Below.trans ((Below.alloc (Below.alloc (Below.refl w.heap.size w) (Nat.le_refl _) _) (by simp) _).drew) (hb1.mono (by simp;try omega))
  exact H.out _ A1 c1 _ _ (ho1.lower (by simp;try omega)) ((hb1.block _ (by simp;try omega)).trans ((heap_alloc_old _ _ (by simp)).trans (heap_alloc_new _ _))) hw1 (by omega) (fun e=>by have:=(ho1.lt _ e).1;simp at this;omega)
end Go.Proofs.YtkgnjijonikchaaGreat
