import Derived.Test.YtkgnjijonikchaaGreatRep
import Derived.Test.YtkgnjijonikchaaGreatSysPure
import Derived.Test.YtkgnjijonikchaaGreatRr
import Derived.Test.YtkgnjijonikchaaGreatDist
import Derived.Laws.ResultCell
namespace Go.Proofs.YtkgnjijonikchaaGreat
open Go.RowKit
set_option linter.unusedVariables false
set_option linter.unusedSimpArgs false
def Zm8 :Sh Zel:=ZaI Zx (ZaI Zx (ZaI Zj5 Zx))
theorem RSl.qarc_at {w:World} {D:Nat→Prop} {A:Option Addr} {l:List Zel} {k:Nat} {x:Zel} (h:RSl Zm8 w D A l) (hx:l[k]?=some x):
 ∃(b off:Nat),A=some ⟨b,off,none⟩∧D b∧w.cell? ⟨b,off+k * 4,none⟩=some (.int .i64 x.1)∧w.cell? ⟨b,off+k * 4+1,none⟩=some (.int .i64 x.2.1)∧w.cell? ⟨b,off+k * 4+2,none⟩=some (.bool x.2.2.1)∧w.cell? ⟨b,off+k * 4+3,none⟩=some (.int .i64 x.2.2.2):=by
 obtain ⟨b,off,cs,e,hb,hr,hc⟩:=h.cells_at hx
 obtain ⟨c1,c2,rfl,⟨rfl,_⟩,c3,c4,rfl,⟨rfl,_⟩,c5,c6,rfl,rfl,rfl,_⟩:=hr
 have hsz:Zm8.size=4:=rfl
 exact ⟨b,off,e,hb,by simpa[hsz] using hc 0 _ rfl,by simpa[hsz] using hc 1 _ rfl,by simpa[hsz] using hc 2 _ rfl,by simpa[hsz] using hc 3 _ rfl⟩
theorem ZwA (w:World) (t1 t2 t3:TypeId) (x1 x2 x3:List Value):
 Box (((w.alloc (.cells x1.toArray t1)).alloc (.cells x2.toArray t2)).alloc (.cells x3.toArray t3)) w.heap.size t1 x1∧Box (((w.alloc (.cells x1.toArray t1)).alloc (.cells x2.toArray t2)).alloc (.cells x3.toArray t3)) (w.heap.size+1) t2 x2∧Box (((w.alloc (.cells x1.toArray t1)).alloc (.cells x2.toArray t2)).alloc (.cells x3.toArray t3)) (w.heap.size+1+1) t3 x3:=by
 have h1:(w.alloc (.cells x1.toArray t1)).heap.size=w.heap.size+1:=by simp
 have h2:((w.alloc (.cells x1.toArray t1)).alloc (.cells x2.toArray t2)).heap.size=w.heap.size+1+1:=by simp
 refine ⟨?_, ?_, ?_⟩
 ·exact ((Box.new w t1 x1).keep (heap_alloc_old _ _ (by omega))).keep (heap_alloc_old _ _ (by omega))
 ·have:=Box.new (w.alloc (.cells x1.toArray t1)) t2 x2
  rw[h1] at this
  exact this.keep (heap_alloc_old _ _ (by omega))
 ·have:=Box.new ((w.alloc (.cells x1.toArray t1)).alloc (.cells x2.toArray t2)) t3 x3
  rw[h2] at this
  exact this
set_option maxRecDepth 20000 in
set_option maxHeartbeats 4000000 in
theorem Zrv (is ok:Bool) (hno:(ok&&is)=false) (A1 A2 A3 A4 A5:Option Addr) (n1 c1 n2 c2 n3 c3 n4 c4 n5 c5:Nat) (w:World)
 (hac:∀w',Below w.heap.size w w'→Calls Tryz.prog 78 #[.agg #[.slice A1 n1 c1,.slice A2 n2 c2,.slice A3 n3 c3],.agg #[.slice A4 n4 c4,.slice A5 n5 c5]] w' fun e w2=>e=.returned (.tuple #[.bool is,.bool ok])∧Below w'.heap.size w' w2):
 Calls Tryz.prog 49 #[.agg #[.slice A1 n1 c1,.slice A2 n2 c2,.slice A3 n3 c3],.agg #[.slice A4 n4 c4,.slice A5 n5 c5]] w fun e w'=>e=.returned (.tuple #[.agg #[.slice none 0 0,.slice none 0 0,.slice none 0 0,.slice none 0 0,.slice none 0 0,.slice none 0 0],.bool false])∧Below w.heap.size w w':=by
 have HAC:=Zl hac;clear hac
 go_enter Tryz.func49,Tryz.ntmps49
 go_wp2_with fail
 refine (HAC.out _ (by (repeat' (first|(with_reducible first|exact Below.refl _ _|assumption|refine Ze ?_ _|refine Below.drew ?_|refine Below.alloc ?_ ?_ _|refine Below.setCell ?_ ?_ _|refine Below.then_ ?_ (by assumption) ?_)|go_size)))).mono ?_
 rintro e w1 ⟨rfl,hb1⟩
 have hbw:Below w.heap.size w w1:=Below.trans (by (repeat' (first|(with_reducible first|exact Below.refl _ _|assumption|refine Ze ?_ _|refine Below.drew ?_|refine Below.alloc ?_ ?_ _|refine Below.setCell ?_ ?_ _|refine Below.then_ ?_ (by assumption) ?_)|go_size))) (hb1.mono (by simp;try omega))
 obtain ⟨_,_,p3⟩:=ZwA w 38 42 75 [.slice A1 n1 c1,.slice A2 n2 c2,.slice A3 n3 c3] [.slice A4 n4 c4,.slice A5 n5 c5] [.slice none 0 0,.slice none 0 0,.slice none 0 0,.slice none 0 0,.slice none 0 0,.slice none 0 0]
 have q3:=p3.to hb1
 clear p3 hb1
 have k0:=q3.cell (j:=0) rfl
 have k1:=q3.cell (j:=1) rfl
 have k2:=q3.cell (j:=2) rfl
 have k3:=q3.cell (j:=3) rfl
 have k4:=q3.cell (j:=4) rfl
 have k5:=q3.cell (j:=5) rfl
 have f0:=q3.frozen 0
 have f1:=q3.frozen 1
 have f2:=q3.frozen 2
 have f3:=q3.frozen 3
 have f4:=q3.frozen 4
 have f5:=q3.frozen 5
 clear q3
 have HBW:=Zl hbw
 cases ok<;>cases is<;>simp only[Bool.and_self,Bool.and_false,Bool.false_and,Bool.true_eq_false] at hno
 all_goals (go_wp2_with fail)
 all_goals (try simp only[Exit.inBlock,Exit.then])
 all_goals (refine bodyPost_ret (v:=.tuple #[.agg #[.slice none 0 0,.slice none 0 0,.slice none 0 0,.slice none 0 0,.slice none 0 0,.slice none 0 0],.bool false]) ((results_cell_tmp rfl _ _ _).trans (by go_simp)) rfl ⟨rfl, ?_⟩)
 all_goals (have:=HBW.out;(repeat' (first|(with_reducible first|exact Below.refl _ _|assumption|refine Ze ?_ _|refine Below.drew ?_|refine Below.alloc ?_ ?_ _|refine Below.setCell ?_ ?_ _|refine Below.then_ ?_ (by assumption) ?_)|go_size)))
set_option maxRecDepth 20000 in
set_option maxHeartbeats 4000000 in
theorem ZpI (hmul:Zro) (A1 A2 A3 A4 A5:Option Addr) (n1 c1 n2 c2 c3 n4 c4 n5 c5:Nat) (arcs:List Zel) (w:World)
 (hac:∀w',Below w.heap.size w w'→Calls Tryz.prog 78 #[.agg #[.slice A1 n1 c1,.slice A2 n2 c2,.slice A3 arcs.length c3],.agg #[.slice A4 n4 c4,.slice A5 n5 c5]] w' fun e w2=>e=.returned (.tuple #[.bool true,.bool true])∧Below w'.heap.size w' w2)
 (hn1:1≤n1) (hn1':n1≤1048576) (hn2:n2≤1000000) (h3:arcs.length≤c3) (h3':c3≤9223372036854775807) (hr:RA Zm8 w A3 arcs) (hin:∀a∈arcs,0≤a.1∧a.1<n2∧0≤a.2.1∧a.2.1<n1∧InI a.2.2.2):
 Calls Tryz.prog 49 #[.agg #[.slice A1 n1 c1,.slice A2 n2 c2,.slice A3 arcs.length c3],.agg #[.slice A4 n4 c4,.slice A5 n5 c5]] w fun e w'=>∃A c q,e=.returned (.tuple #[.agg #[.slice A1 n1 c1,.slice A2 n2 c2,.slice A3 arcs.length c3,.slice A4 n4 c4,.slice A5 n5 c5,.slice A q.length c],.bool true])∧RR w' w.heap.size A c 103 3 n1 q∧q.map (·.2.2)=Zc3 n2 n1 arcs∧Below w.heap.size w w':=by
 have HAC:=Zl hac;clear hac
 have HIN:=Zl hin;clear hin
 have hmul:=Zl hmul
 go_enter Tryz.func49,Tryz.ntmps49
 go_wp2_with fail
 refine (HAC.out _ (by (repeat' (first|(with_reducible first|exact Below.refl _ _|assumption|refine Ze ?_ _|refine Below.drew ?_|refine Below.alloc ?_ ?_ _|refine Below.setCell ?_ ?_ _|refine Below.then_ ?_ (by assumption) ?_)|go_size)))).mono ?_
 rintro e w1 ⟨rfl,hb1⟩
 have hz1:=hb1.size
 simp at hz1
 have hbw:Below w.heap.size w w1:=Below.trans (by (repeat' (first|(with_reducible first|exact Below.refl _ _|assumption|refine Ze ?_ _|refine Below.drew ?_|refine Below.alloc ?_ ?_ _|refine Below.setCell ?_ ?_ _|refine Below.then_ ?_ (by assumption) ?_)|go_size))) (hb1.mono (by simp;try omega))
 obtain ⟨p1,p2,p3⟩:=ZwA w 38 42 75 [.slice A1 n1 c1,.slice A2 n2 c2,.slice A3 arcs.length c3] [.slice A4 n4 c4,.slice A5 n5 c5] [.slice none 0 0,.slice none 0 0,.slice none 0 0,.slice none 0 0,.slice none 0 0,.slice none 0 0]
 have q1:=p1.to hb1
 have q2:=p2.to hb1
 have q3:=p3.to hb1
 clear p1 p2 p3 hb1
 have HBW:=Zl hbw
 clear hbw
 have k0:=q1.cell (j:=0) rfl
 have k1:=q1.cell (j:=1) rfl
 have k2:=q1.cell (j:=2) rfl
 have k3:=q2.cell (j:=0) rfl
 have k4:=q2.cell (j:=1) rfl
 have hlt1:w.heap.size<w1.heap.size:=by omega
 go_wp2_with fail
 obtain ⟨wq,hwq⟩:∃x,w1.alloc (.cells #[.slice A1 n1 c1,.slice A2 n2 c2,.slice A3 arcs.length c3,.slice A4 n4 c4,.slice A5 n5 c5,.slice none 0 0] 75)=x:=⟨_,rfl⟩
 rw[hwq]
 have hzq:wq.heap.size=w1.heap.size+1:=by rw[←hwq];simp
 have hbq:Below w1.heap.size w1 wq:=by rw[←hwq];exact Below.alloc (Below.refl _ _) (Nat.le_refl _) _
 have HB8:Hid (Box wq w1.heap.size 75 [.slice A1 n1 c1,.slice A2 n2 c2,.slice A3 arcs.length c3,.slice A4 n4 c4,.slice A5 n5 c5,.slice none 0 0]):=by rw[←hwq];exact Box.new _ _ _
 have HBQ:=Zl (HBW.out.trans (hbq.mono (by omega)))
 have HQ1:=Zl (q1.to hbq)
 have HQ3:=Zl (q3.to hbq)
 clear hwq hbq k0 k1 k2 k3 k4 q1 q2 q3
 have HRA:=Zl hr
 clear hr
 obtain ⟨b8,hb8⟩:∃x,w1.heap.size=x:=⟨_,rfl⟩
 rw[hb8] at HB8 hzq hlt1 hz1
 rw[hb8]
 clear hb8
 rename_i Q0 K0 ha0
 go_loopw [30] (fun i wr=>∃(k:Nat) (A:Option Addr) (c:Nat) (q:List RQ),k≤n2∧i=.int .i64 k∧q.length=k∧Hid (Box wr b8 75 [.slice A1 n1 c1,.slice A2 n2 c2,.slice A3 arcs.length c3,.slice A4 n4 c4,.slice A5 n5 c5,.slice A k c])∧Hid (RR wr wq.heap.size A c 103 3 n1 q)∧Hid (q.map (·.2.2)=List.replicate k (List.replicate n1 (-1)))∧Hid (Touch (fun b=>b=b8) wq wr)) (fun i _=>n2 - (intOf i).toNat)
 case atStart=>exact ⟨0,none,0,[],Nat.zero_le _,rfl,rfl,HB8,RR.nil_,rfl,Touch.refl _ _⟩
 case round=>
  obtain ⟨k,A,c,q,hk,rfl,hql,hbx,hrr,hrep,htc⟩:=hrel
  have hsz:=htc.out.size
  have hbx1:=Zl (HQ1.out.keep (htc.out.block _ HQ1.out.lt (by omega)))
  by_cases hlt:k<n2
  ·have k0:=hbx1.out.cell (j:=0) rfl
   have k5:=hbx.out.cell (j:=5) rfl
   have f5:=hbx.out.frozen 5
   have hl8:=hbx.out.lt
   have hlw:=hbx1.out.lt
   have HS:Hid (∀W w6:World,Below wr.heap.size wr W→Below W.heap.size W w6→w6.cell? ⟨w.heap.size,0,none⟩=some (.slice A1 n1 c1)∧w6.cell? ⟨b8,5,none⟩=some (.slice A k c)∧w6.frozen? ⟨b8,5,none⟩=false∧wr.heap.size≤w6.heap.size∧Below wr.heap.size wr w6∧b8<w6.heap.size∧w.heap.size<w6.heap.size):=fun W w6 h1 h2=>by
    have h3:Below wr.heap.size wr w6:=h1.trans (h2.mono h1.size)
    exact ⟨(hbx1.out.to h3).cell rfl,(hbx.out.to h3).cell rfl,(hbx.out.to h3).frozen 5,h3.size,h3,Nat.lt_of_lt_of_le hl8 h3.size,Nat.lt_of_lt_of_le hlw h3.size⟩
   have HRW:Hid (∀(W:World) (o:Obj),Below wr.heap.size wr W→Own Ziv (W.alloc o) wq.heap.size 103 A c (q.map rv)):=fun W o h=>(hrr.out.top.to h).to (Below.alloc (Below.refl _ _) (Nat.le_refl _) _)
   have HS7:Hid (∀(w6 w7:World) (o:Obj) (A7:Option Addr),Below wr.heap.size wr w6→Push2 (w6.alloc o) w7 A A7→Box w7 b8 75 [.slice A1 n1 c1,.slice A2 n2 c2,.slice A3 arcs.length c3,.slice A4 n4 c4,.slice A5 n5 c5,.slice A k c]∧w7.cell? ⟨b8,5,none⟩=some (.slice A k c)∧w7.frozen? ⟨b8,5,none⟩=false):=fun w6 w7 o A7 h1 h2=>by
    have hsz6:=h1.size
    have e1:w7.heap[b8]?=wr.heap[b8]?:=(h2.block b8 (by rw[World.size_alloc];omega) (fun e'=>by have:=(hrr.out.top.lt _ e').1;omega)).trans ((heap_alloc_old _ _ (by omega)).trans (h1.block _ hl8))
    have h3:=hbx.out.keep e1
    exact ⟨h3,h3.cell rfl,h3.frozen 5⟩
   have HL:Hid (∀(w6 w7:World) (A6 A7:Option Addr) (c6 c7:Nat) (W:World),Below wr.heap.size wr W→wr.heap.size<W.heap.size→Own Zx w6 W.heap.size 3 A6 c6 (List.replicate n1 (-1))→Below wr.heap.size wr w6→Push2 (w6.alloc (.cells #[.slice A6 n1 c6] 103)) w7 A A7→Own Ziv w7 wq.heap.size 103 A7 c7 (q.map rv++[.slice A6 n1 c6])→
    Hid (Box (w7.setCell ⟨b8,5,none⟩ (.slice A7 (k+1) c7)) b8 75 [.slice A1 n1 c1,.slice A2 n2 c2,.slice A3 arcs.length c3,.slice A4 n4 c4,.slice A5 n5 c5,.slice A7 (k+1) c7])∧Hid (RR (w7.setCell ⟨b8,5,none⟩ (.slice A7 (k+1) c7)) wq.heap.size A7 c7 103 3 n1 (q++[(A6,c6,List.replicate n1 (-1))]))∧Hid (Touch (fun b=>b=b8) wq (w7.setCell ⟨b8,5,none⟩ (.slice A7 (k+1) c7)))):=fun w6 w7 A6 A7 c6 c7 W hW hWz ho6 hb6 hp7 hown7=>by
    have hz6:=hb6.size
    have hz7:=hp7.size
    rw[World.size_alloc] at hz7
    have ho6':Own Zx (w6.alloc (.cells #[.slice A6 n1 c6] 103)) wq.heap.size 3 A6 c6 (List.replicate n1 (-1)):=(ho6.lower (by omega)).to (Below.alloc (Below.refl _ _) (Nat.le_refl _) _)
    have hrr6:RR (w6.alloc (.cells #[.slice A6 n1 c6] 103)) wq.heap.size A c 103 3 n1 q:=(hrr.out.to hb6).to (Below.alloc (Below.refl _ _) (Nat.le_refl _) _)
    have hp:RR w7 wq.heap.size A7 c7 103 3 n1 (q++[(A6,c6,List.replicate n1 (-1))]):=hrr6.push (by decide) ho6' (List.length_replicate ..) (fun i t b hi ht h6=>by
     have:=((hrr.out.own i t hi).1.lt b ht).2
     have:=(ho6.lt b h6).1
     omega) (by rw[List.length_replicate];exact hown7) hp7.block
    refine ⟨((HS7.out _ _ _ _ hb6 hp7).1).set 5 _,hp.past (p:=⟨b8,5,none⟩) (by show b8<wq.heap.size;omega) _, ?_⟩
    have t7:Touch (fun b=>b=b8) wq w7:=⟨hp7.os.trans (hb6.os.trans htc.out.os),hp7.tape.trans (hb6.tape.trans htc.out.tape),hp7.output.trans (hb6.output.trans htc.out.output),by omega,fun b hb hn=>(hp7.block b (by rw[World.size_alloc];omega) (fun e'=>by have:=(hrr.out.top.lt _ e').1;omega)).trans ((heap_alloc_old _ _ (by omega)).trans ((hb6.block b (by omega)).trans (htc.out.block b hb hn)))⟩
    exact t7.put rfl _
   have hqm:Hid ((q.map rv).length=k):=by show _=_;rw[List.length_map];exact hql
   have hk4:k≤4000000:=by omega
   go_wp2_with fail
   go_region_law (first
    |(refine Zoi (S:=Ziv) (size:=1) (bytes:=24) (base:=wq.heap.size) (e:=103) (t:=73) (A:=A) (c:=c) (l:=q.map rv) rfl (.tmp 33) (.tmp 39) (by rfl) Tryz.underlying73 (by kernel_rfl) rfl (by decide) (by decide) (by rw[hqm.out];rfl) (HRW.out _ _ HB6.out) (by have:=HS6;rw[World.size_alloc];omega) (by rw[hqm.out];exact hk4) (.slice A6 n1 c6) [.slice A6 n1 c6] rfl (by simp[Value.oneCell']) w6.heap.size (by rfl) (heap_alloc_new _ _) ?_;intro A7 c7 w7 hown7 hp7;obtain ⟨b7,m7,mf7⟩:=HS7.out _ _ _ _ HB6.out hp7;have hbx7:=Zl b7)
    |(go_simp;go_at_call 79;refine (Zm1 hmul.out (-1) n1 _ _ _ (by constructor<;>omega) (Nat.le_refl 1) (by omega) (Zwt (e:=3) (by constructor<;>omega) (by exact heap_alloc_new wr (.cells #[.int .i64 (-1)] 3))) hn1 hn1').mono ?_;rintro e w6 ⟨A6,c6,rfl,ho6,hb6⟩;obtain ⟨m0,m5,mf5,HS6,hb7,hl6,hlw6⟩:=HS.out _ _ ((Below.alloc (Below.refl wr.heap.size wr) (Nat.le_refl _) (.cells #[.int .i64 (-1)] 3)).drew) hb6;have HB6:=Zl hb7))
   all_goals (
    obtain ⟨x1,x2,x3⟩:=HL.out _ _ _ _ _ _ _ ((Below.alloc (Below.refl wr.heap.size wr) (Nat.le_refl _) (.cells #[.int .i64 (-1)] 3)).drew) (by simp) ho6 HB6.out hp7 hown7
    try rw[hqm.out]
    go_wp2_with fail
    go_roundw
    case rel=>exact ⟨k+1,A7,c7,q++[(A6,c6,List.replicate n1 (-1))],by omega,by go_num,by rw[List.length_append,hql];rfl,x1,x2,(by show _=_;rw[List.map_append,hrep.out,List.replicate_succ'];rfl),x3⟩
    case measure=>simp[intOf];omega)
  ·obtain rfl:k=n2:=by omega
   have HR0:Hid (q.map (·.2.2)=Zc3 k n1 (arcs.take 0)):=hrep
   have HT0:Hid (Touch (fun b=>b=b8∨wq.heap.size≤b) wq wr):=⟨htc.out.os,htc.out.tape,htc.out.output,htc.out.size,fun b hb hn=>htc.out.block b hb (fun e'=>hn (.inl e'))⟩
   have k2:=hbx1.out.cell (j:=2) rfl
   have hlw:=hbx1.out.lt
   clear hsz hbx1 htc
   go_wp2_with fail
   go_loopw [46] (fun i wv=>∃(j:Nat) (p:List RQ),j≤arcs.length∧i=.int .i64 j∧p.length=k∧Hid (Box wv b8 75 [.slice A1 n1 c1,.slice A2 k c2,.slice A3 arcs.length c3,.slice A4 n4 c4,.slice A5 n5 c5,.slice A k c])∧Hid (RR wv wq.heap.size A c 103 3 n1 p)∧Hid (p.map (·.2.2)=Zc3 k n1 (arcs.take j))∧Hid (Touch (fun b=>b=b8∨wq.heap.size≤b) wq wv)) (fun i _=>arcs.length - (intOf i).toNat)
   case atStart=>exact ⟨0,q,Nat.zero_le _,rfl,hql,hbx,hrr,HR0,HT0⟩
   case round=>
    obtain ⟨j,p,hj,rfl,hpl,hbx,hrr,hrep,htc⟩:=hrel
    have hsz:=htc.out.size
    have hbw:Below w.heap.size w wr:=HBQ.out.trans (htc.out.below (fun q hq=>by rcases hq with h|h<;>omega) (by omega))
    by_cases hlt:j<arcs.length
    ·obtain ⟨⟨af,sg,au,at_⟩,ha⟩:=Zq hlt
     obtain ⟨i1,i2,i3,i4,i5⟩:=HIN.out _ (List.mem_of_getElem? ha)
     dsimp only at i1 i2 i3 i4 i5
     obtain ⟨f,rfl⟩:=Int.eq_ofNat_of_zero_le i1
     obtain ⟨s,rfl⟩:=Int.eq_ofNat_of_zero_le i3
     have hfk:f<k:=by omega
     have hsn:s<n1:=by omega
     obtain ⟨b,off,rfl,hbl,d0,d1,d2,d3⟩:=RSl.qarc_at (HRA.out.to hbw) ha
     dsimp only at d0 d1 d2 d3
     have HA:=Zl ha;clear ha
     obtain ⟨⟨Af,cf,rf⟩,hf⟩:=Zq (l:=p) (k:=f) (by omega)
     obtain ⟨g,rfl,hg1,e1,fz1⟩:=hrr.out.cell hf
     obtain ⟨o1,o2⟩:=hrr.out.own f _ hf
     dsimp only at o1 o2 e1
     rw[o2] at e1
     obtain ⟨gf,rfl,hgf1,hgf2⟩:=Own.int_form o1 (by intro h0;rw[h0] at o2;simp at o2;omega)
     obtain ⟨e2,fz2,_⟩:=o1.int_cell (k:=s) (v:=rf.getD s 0) (by rw[List.getD_eq_getElem?_getD,List.getElem?_eq_getElem (by omega)];rfl)
     have hgl:g<wr.heap.size:=(hrr.out.top.lt g rfl).2
     have hb8:=hbx.out.lt
     have m5:=hbx.out.cell (j:=5) rfl
     have HPUT:Hid (∀W:World,Below wr.heap.size wr W→Hid (Box ((W.setCell ⟨gf,s,none⟩ (.int .i64 at_)).drew) b8 75 [.slice A1 n1 c1,.slice A2 k c2,.slice (some ⟨b,off,none⟩) arcs.length c3,.slice A4 n4 c4,.slice A5 n5 c5,.slice (some ⟨g,0,none⟩) k c])∧Hid (RR ((W.setCell ⟨gf,s,none⟩ (.int .i64 at_)).drew) wq.heap.size (some ⟨g,0,none⟩) c 103 3 n1 (p.set f (some ⟨gf,0,none⟩,cf,rf.set s at_)))∧Hid (Touch (fun b=>b=b8∨wq.heap.size≤b) wq ((W.setCell ⟨gf,s,none⟩ (.int .i64 at_)).drew))):=fun W hW=>
      ⟨(((hbx.out.to hW).other (p:=⟨gf,s,none⟩) (by show b8≠gf;omega) _).to ((Below.refl _ _).drew):Box _ _ _ _),(((hrr.out.to hW).put (by decide) hf hsn i5).to ((Below.refl _ _).drew):RR _ _ _ _ _ _ _ _),(((htc.out.then_ hW).put (p:=⟨gf,s,none⟩) (.inr hgf1) _).then_ ((Below.refl _ _).drew):Touch _ _ _)⟩
     have HREP:Hid ((p.set f (some ⟨gf,0,none⟩,cf,rf.set s at_)).map (·.2.2)=Zc3 k n1 (arcs.take (j+1))):=by
      show _=_
      have e9:arcs.take (j+1)=arcs.take j++[((f:Int),(s:Int),au,at_)]:=by rw[List.take_add_one,HA.out];rfl
      unfold Zc3 at hrep⊢
      rw[e9,List.foldl_append,←hrep.out,List.foldl_cons,List.foldl_nil,List.map_set]
      unfold ZdI
      have:(p.map (·.2.2)).getD f []=rf:=by rw[List.getD_eq_getElem?_getD,List.getElem?_map,hf];rfl
      simp only[Int.toNat_natCast,this]
     have HF:=Zl hf
     clear hf
     go_wp2_with fail
     obtain ⟨wx,hwx⟩:∃x,wr.alloc (.cells #[.int .i64 (f:Int),.int .i64 (s:Int),.bool au,.int .i64 at_] 108)=x:=⟨_,rfl⟩
     have hzx:wx.heap.size=wr.heap.size+1:=by rw[←hwx];simp
     have hbx5:Below wr.heap.size wr wx:=by rw[←hwx];exact Below.alloc (Below.refl _ _) (Nat.le_refl _) _
     have hgx:Box wx wr.heap.size 108 [.int .i64 (f:Int),.int .i64 (s:Int),.bool au,.int .i64 at_]:=by rw[←hwx];exact Box.new _ _ _
     rw[hwx]
     have x0:=hgx.cell (j:=0) rfl
     have x1:=hgx.cell (j:=1) rfl
     have x3:=hgx.cell (j:=3) rfl
     have y5:=(hbx.out.to hbx5).cell (j:=5) rfl
     have y1:wx.cell? ⟨g,f,none⟩=some (.slice (some ⟨gf,0,none⟩) n1 cf):=(World.cell?_of_block (hbx5.block _ hgl)).trans e1
     have yf1:wx.frozen? ⟨g,f,none⟩=false:=(World.frozen?_of_block (hbx5.block _ hgl)).trans fz1
     have y2:wx.cell? ⟨gf,s,none⟩=some (.int .i64 (rf.getD s 0)):=(World.cell?_of_block (hbx5.block _ hgf2)).trans e2
     have yf2:wx.frozen? ⟨gf,s,none⟩=false:=(World.frozen?_of_block (hbx5.block _ hgf2)).trans fz2
     have HB5:=Zl hbx5
     clear hwx hgx hbx5 e1 fz1 e2 fz2 d0 d1 d2 d3 m5 o1 hbl
     go_wp2_with fail
     obtain ⟨z1,z2,z3⟩:=HPUT.out _ HB5.out
     go_region_law fail
     all_goals (
      go_wp2_with fail
      go_roundw
      case rel=>exact ⟨j+1,_,by omega,by go_num,by rw[List.length_set];exact hpl,z1,z2,HREP,z3⟩
      case measure=>simp[intOf];omega)
    ·obtain rfl:j=arcs.length:=by omega
     have HRE:Hid (p.map (·.2.2)=Zc3 k n1 arcs):=by show _=_;have:=hrep.out;rwa[List.take_length] at this
     have q3:Box wr (w.heap.size+1+1) 75 [.slice none 0 0,.slice none 0 0,.slice none 0 0,.slice none 0 0,.slice none 0 0,.slice none 0 0]:=HQ3.out.keep (htc.out.block _ HQ3.out.lt (by omega))
     have k0:=q3.cell (j:=0) rfl
     have k1:=q3.cell (j:=1) rfl
     have k2:=q3.cell (j:=2) rfl
     have k3:=q3.cell (j:=3) rfl
     have k4:=q3.cell (j:=4) rfl
     have k5:=q3.cell (j:=5) rfl
     have f0:=q3.frozen 0
     have f1:=q3.frozen 1
     have f2:=q3.frozen 2
     have f3:=q3.frozen 3
     have f4:=q3.frozen 4
     have f5:=q3.frozen 5
     have m0:=hbx.out.cell (j:=0) rfl
     have m1:=hbx.out.cell (j:=1) rfl
     have m2:=hbx.out.cell (j:=2) rfl
     have m3:=hbx.out.cell (j:=3) rfl
     have m4:=hbx.out.cell (j:=4) rfl
     have m5:=hbx.out.cell (j:=5) rfl
     have HBE:=Zl hbw
     clear q3
     go_wp2_with fail
     try simp only[Exit.inBlock,Exit.then]
     refine bodyPost_ret (v:=.tuple #[.agg #[.slice A1 n1 c1,.slice A2 k c2,.slice A3 arcs.length c3,.slice A4 n4 c4,.slice A5 n5 c5,.slice A k c],.bool true]) ((results_cell_tmp rfl _ _ _).trans (by go_simp)) rfl ⟨A,c,p,by rw[hpl], ?_,HRE.out, ?_⟩
     ·exact ((((((hrr.out.past (by show w.heap.size+1+1<wq.heap.size;omega) _).past (by show w.heap.size+1+1<wq.heap.size;omega) _).past (by show w.heap.size+1+1<wq.heap.size;omega) _).past (by show w.heap.size+1+1<wq.heap.size;omega) _).past (by show w.heap.size+1+1<wq.heap.size;omega) _).past (by show w.heap.size+1+1<wq.heap.size;omega) _).lower (by omega)
     ·have:=HBE.out
      (repeat' (first|(with_reducible first|exact Below.refl _ _|assumption|refine Ze ?_ _|refine Below.drew ?_|refine Below.alloc ?_ ?_ _|refine Below.setCell ?_ ?_ _|refine Below.then_ ?_ (by assumption) ?_)|go_size))
end Go.Proofs.YtkgnjijonikchaaGreat
