import Derived.Test.YtkgnjijonikchaaGreatProg
import Derived.Test.YtkgnjijonikchaaGreatBase3
import Derived.Test.YtkgnjijonikchaaGreatMark
import Derived.Laws.CopyOwn
namespace Go.Proofs.YtkgnjijonikchaaGreat
open Go.RowKit
set_option linter.unusedVariables false
set_option linter.unusedSimpArgs false
def Zro :Prop:=∀(x y:Nat) (w:World),x<18446744073709551616→y<18446744073709551616→Calls Tryz.prog 117 #[.int .u64 x,.int .u64 y] w fun e w'=>e=.returned (.tuple #[.int .u64 ((x * y / 18446744073709551616:Nat):Int),.int .u64 ((x * y % 18446744073709551616:Nat):Int)])∧w'=w
def ZaU (v:Int) (L:List Value) (k:Nat):List Value:=List.replicate k (.int .i64 v)++L.drop k
theorem Zh7 {v:Int} {L:List Value} {k:Nat} (h:k≤L.length):(ZaU v L k).length=L.length:=by simp[ZaU];omega
theorem ZgN {v:Int} {L:List Value} {k m:Nat} (h:k+m≤L.length):Go.splice (ZaU v L k) k (List.replicate m (.int .i64 v))=ZaU v L (k+m):=by
 have e1:(ZaU v L k).take k=List.replicate k (.int .i64 v):=by simp[ZaU]
 have e2:(ZaU v L k).drop (k+m)=L.drop (k+m):=by simp[ZaU,List.drop_append,List.drop_drop]
 show (ZaU v L k).take k++(List.replicate m (.int .i64 v)++(ZaU v L k).drop (k+(List.replicate m (Value.int .i64 v)).length))=_
 rw[List.length_replicate,e1,e2,←List.append_assoc,List.replicate_append_replicate]
 rfl
theorem Zoj {v:Int} {L:List Value} {k j:Nat} (h:j<k):(ZaU v L k)[j]?=some (.int .i64 v):=by
 unfold ZaU
 rw[List.getElem?_append_left (by simpa using h),List.getElem?_replicate]
 simp[h]
theorem Zm0 {w:World} {g:Nat} {L:List Value} {e:TypeId} {j:Nat} {x:Value} (h:w.heap[g]?=some (.cells L.toArray e (0,0))) (hx:L[j]?=some x):w.cell? ((⟨g,0,none⟩:Addr).add j)=some x:=by
 have hj:=(List.getElem?_eq_some_iff.1 hx).1
 have:(⟨g,0,none⟩:Addr).add j=⟨g,j,none⟩:=by
  by_cases h0:j=0
  ·subst h0;rfl
  ·simp[Addr.add,h0]
 rw[this]
 simp[World.cell?,h,hx]
theorem Zok (w:World) (o:Obj):(w.alloc o).heap[w.heap.size]?=some o:=heap_alloc_new w o
theorem Zt1 {v:Int} {L:List Value} {N base g:Nat} {w:World} {e:TypeId} (hv:InI v) (hL:L.length=N) (hN2:N≤1048576) (hg:w.heap[g]?=some (.cells (ZaU v L N).toArray e (0,0))) (hb:base≤g:=by omega):Own Zx w base e (some ⟨g,0,none⟩) N (List.replicate N v):=by
 have e1:ZaU v L N=List.replicate N (.int .i64 v):=by unfold ZaU;rw[List.drop_eq_nil_of_le (by omega)];simp
 rw[e1] at hg
 have e2:∀n:Nat,(List.replicate n [Value.int .i64 v]).flatten=List.replicate n (.int .i64 v):=fun n=>by
  induction n with
  |zero=>rfl
  |succ n ih=>rw[List.replicate_succ,List.replicate_succ,List.flatten_cons,ih];rfl
 refine ⟨List.replicate N [.int .i64 v],⟨?_,.inr ⟨g,N,_,by simp,hb,hg,by simp,by simp only[maxLen];omega,by rw[show Zx.size=1 from rfl];simp, ?_⟩⟩,by simp,fun k x cs hx hcs=> ?_⟩
 ·rw[e2,show Zx.size=1 from rfl];simp
 ·rw[e2,show Zx.size=1 from rfl];simp
 ·rw[List.getElem?_replicate] at hx hcs
  split at hx
  ·rw[if_pos (by assumption)] at hcs
   cases hx;cases hcs
   exact ⟨rfl,hv⟩
  ·cases hx
theorem Zj0 {P:Program} {w:World} {ty elem:TypeId} (dT sT:TypeId) (hu:P.underlying dT=some (.slice elem)) (hsz:(P.info? elem).map (·.size)=some 1)
 (dp sp:Option Addr) (dLen dCap sLen sCap g off:Nat) (cur:List Value) (t:TypeId) (hg:w.heap[g]?=some (.cells cur.toArray t (0,0))) (cs:List Value) (hn:cs.length=Nat.min sLen dLen)
 (hpos:0<cs.length→dp=some ⟨g,off,none⟩∧∃ad,sp=some ad∧∀j v,cs[j]?=some v→w.cell? (ad.add j)=some v)
 (hfit:off+cs.length≤cur.length) (h1:∀v∈cs,v.oneCell'=true) (B:Nat) (w0:World) (hb:Below B w0 w) (hBg:B≤g):
 ∃w',(Builtin.copy_ #[dT,sT] ty #[.slice dp dLen dCap,.slice sp sLen sCap]).run P w=.ok (goInt cs.length) w'∧Hid (w'.heap[g]?=some (.cells (Go.splice cur off cs).toArray t (0,0)))∧Below B w0 w':=by
 by_cases h0:cs.length=0
 ·obtain rfl:cs=[]:=List.eq_nil_of_length_eq_zero h0
  exact ⟨w,run_copy_none (P:=P) w dT sT ty elem dp sp dLen dCap sLen sCap hu hsz (by simpa using hn.symm),show _=_ by simpa[Go.splice] using hg,hb⟩
 ·obtain ⟨rfl,ad,rfl,hsrc⟩:=hpos (by omega)
  exact ⟨_,run_copy_row (P:=P) w dT sT ty elem g off dLen dCap ad sLen sCap cur.toArray t cs hu hsz hg hn hsrc (by simpa using hfit) h1,show _=_ by simpa[Go.splice] using setRow_heap w g _ _ t _ hg,Go.below_setRow hb hBg _⟩
set_option maxRecDepth 20000 in
set_option maxHeartbeats 1000000 in
theorem Zm1 (hmul:Zro) (v:Int) (N:Nat) (A:Option Addr) (c:Nat) (w:World) (hv:InI v) (h1:1≤c) (h2:c≤9223372036854775807) (hr:RA Zx w A [v]) (hN:1≤N) (hN2:N≤1048576):
 Calls Tryz.prog 79 #[.slice A 1 c,.int .i64 N] w fun e w'=>∃A' c',e=.returned (.slice A' N c')∧Own Zx w' w.heap.size 3 A' c' (List.replicate N v)∧Below w.heap.size w w':=by
 have hm:∀w:World,Calls Tryz.prog 117 #[.int .u64 1,.int .u64 (N:Int)] w fun e w'=>e=.returned (.tuple #[.int .u64 0,.int .u64 (N:Int)])∧w'=w:=fun w=>by
  refine (hmul 1 N w (by omega) (by omega)).mono fun e w' h=> ?_
  have e1:1 * N / 18446744073709551616=0:=by omega
  have e2:1 * N % 18446744073709551616=N:=by omega
  rw[e1,e2] at h
  exact h
 have hNw:IntKind.u64.wrap (N:Int)=(N:Int):=by rw[IntKind.wrap_u64];omega
 obtain ⟨cells,hcs,hmk⟩:=Zet (P:=Tryz.prog) (t:=103) (e:=3) (size:=1) (bytes:=8) Tryz.underlying103 (by kernel_rfl) N (by omega) (by decide)
 obtain ⟨L,rfl⟩:∃L:List Value,cells=L.toArray:=⟨cells.toList,by simp⟩
 have hL:L.length=N:=by simpa using hcs
 have HL:=Zl hL
 clear hL hcs
 have HM:=Zl hmk;clear hmk
 have hm:=Zl hm
 clear hmul
 go_enter Tryz.func79,Tryz.ntmps79
 go_wp2_with fail
 refine (hm.out _).mono ?_
 rintro e w1 ⟨rfl,hw1⟩
 rw[hw1]
 clear hw1 w1
 have hmk:=HM.out w
 obtain ⟨b,off,rfl,hbl,d0,f0⟩:=RA.int_at (k:=0) hr (Below.refl _ w) rfl
 have hsrc:∀(o:Obj) (j:Nat) (u:Value),[Value.int .i64 v][j]?=some u→(w.alloc o).cell? ((⟨b,off,none⟩:Addr).add j)=some u:=fun o j u hj=>by
  cases j with
  |succ j=>simp at hj
  | zero=>
   simp at hj;subst hj
   have:(w.alloc o).cell? ⟨b,off,none⟩=w.cell? ⟨b,off,none⟩:=by first|exact World.cell?_alloc_past w o b off hbl|exact World.cell?_alloc_past o b off hbl
   exact this.trans (by simpa using d0)
 have HSRC:=Zl hsrc
 clear hsrc
 have h0:ZaU v L 0=L:=by simp[ZaU]
 have HN:=Zl hN
 obtain ⟨w2,hrun,hg2,hb2⟩:=Zj0 (P:=Tryz.prog) (w:=w.alloc (.cells L.toArray 3)) (ty:=3) 103 103 Tryz.underlying103 (by kernel_rfl) (some ⟨w.heap.size,0,none⟩) (some ⟨b,off,none⟩) N N 1 c w.heap.size 0 (ZaU v L 0) 3 (by rw[h0];exact Zok w _) [.int .i64 v] (by show 1=min 1 N;omega) (fun _=>⟨rfl,_,rfl,HSRC.out _⟩) (by rw[Zh7 (by omega),HL.out];simp;omega) (by simp[Value.oneCell']) w.heap.size w (by (repeat' (first|(with_reducible first|exact Below.refl _ _|assumption|refine Ze ?_ _|refine Below.drew ?_|refine Below.alloc ?_ ?_ _|refine Below.setCell ?_ ?_ _|refine Below.then_ ?_ (by assumption) ?_)|go_size))) (Nat.le_refl _)
 go_wp2_with fail
 clear hmk hrun
 have e1:Go.splice (ZaU v L 0) 0 [Value.int .i64 v]=ZaU v L 1:=by
  have:=ZgN (v:=v) (L:=L) (k:=0) (m:=1) (by rw[HL.out];have:=HN.out;omega)
  simpa using this
 rw[e1] at hg2
 clear e1 h0
 go_loopw [8] (fun nv wr=>∃k:Nat,1≤k∧k≤N∧nv=.int .i64 k∧Hid (wr.heap[w.heap.size]?=some (.cells (ZaU v L k).toArray 3 (0,0)))∧Below w.heap.size w wr) (fun nv _=>N - (intOf nv).toNat)
 case atStart=>exact ⟨1,Nat.le_refl _,hN,rfl,hg2,hb2⟩
 case round=>
  obtain ⟨k,hk1,hk2,rfl,hg,hb⟩:=hrel
  by_cases hlt:k<N
  ·have hki:(k:Int)<(N:Int):=by omega
   go_wp2_with fail
   have hne:¬N=k:=by omega
   obtain ⟨m,hmm,hm1,hm2⟩:∃m,min k (N - k)=m∧1≤m∧m≤N - k∧m≤k:=⟨_,rfl,by omega,by omega,by omega⟩
   have hwr:IntKind.i64.wrap ((k:Int)+(m:Int))=((k+m:Nat):Int):=by rw[IntKind.wrap_i64];omega
   have HMM:=Zl hmm
   clear hmm
   obtain ⟨hm2,hm3⟩:=hm2
   have hbd:Below w.heap.size w wr.drew:=by (repeat' (first|(with_reducible first|exact Below.refl _ _|assumption|refine Ze ?_ _|refine Below.drew ?_|refine Below.alloc ?_ ?_ _|refine Below.setCell ?_ ?_ _|refine Below.then_ ?_ (by assumption) ?_)|go_size))
   have hsrc2:Hid (∀(j:Nat) (u:Value),(List.replicate m (Value.int .i64 v))[j]?=some u→wr.drew.cell? ((⟨w.heap.size,0,none⟩:Addr).add j)=some u):=fun j u hj=>by
    rw[List.getElem?_replicate] at hj
    split at hj
    ·cases hj
     exact Zm0 (w:=wr.drew) (L:=ZaU v L k) hg.out (Zoj (by omega))
    ·cases hj
   obtain ⟨w4,hrun,hg4,hb4⟩:=Zj0 (P:=Tryz.prog) (w:=wr.drew) (ty:=3) 103 103 Tryz.underlying103 (by kernel_rfl) (some ⟨w.heap.size,k,none⟩) (some ⟨w.heap.size,0,none⟩) (N - k) (N - k) k N w.heap.size k (ZaU v L k) 3 hg.out (List.replicate m (.int .i64 v)) (by rw[List.length_replicate];exact HMM.out.symm) (fun _=>⟨rfl,_,rfl,hsrc2.out⟩) (by rw[Zh7 (by rw[HL.out];omega),HL.out,List.length_replicate];omega) (by intro u hu;rw[List.eq_of_mem_replicate hu];rfl) w.heap.size w hbd (Nat.le_refl _)
   rw[ZgN (by rw[HL.out];omega)] at hg4
   rw[List.length_replicate] at hrun
   have ht:True:=trivial
   go_region_held3 (fun W=>W.heap.size=W.heap.size) (rfl) (fail)
   clear hrun hsrc2
   go_wp2_with fail
   go_roundw
   case rel=>exact ⟨k+m,by omega,by omega,by rw[Int.natCast_add],hg4,hb4⟩
   case measure=>simp[intOf];omega
  ·obtain rfl:k=N:=by omega
   go_wp2_with fail
   go_ret
   exact ⟨some ⟨w.heap.size,0,none⟩,k,rfl,Zt1 hv HL.out (by omega) hg.out,hb⟩
set_option maxRecDepth 20000 in
set_option maxHeartbeats 1000000 in
theorem Zrp (hmul:Zro) (v:Int) (N:Nat) (A:Option Addr) (c:Nat) (w:World) (hv:InI v) (h1:1≤c) (h2:c≤9223372036854775807) (hr:RA Zx w A [v]) (hN2:N≤1048576):
 Calls Tryz.prog 79 #[.slice A 1 c,.int .i64 N] w fun e w'=>∃A' c',e=.returned (.slice A' N c')∧Own Zx w' w.heap.size 3 A' c' (List.replicate N v)∧Below w.heap.size w w':=by
 have hm:∀w:World,Calls Tryz.prog 117 #[.int .u64 1,.int .u64 (N:Int)] w fun e w'=>e=.returned (.tuple #[.int .u64 0,.int .u64 (N:Int)])∧w'=w:=fun w=>by
  refine (hmul 1 N w (by omega) (by omega)).mono fun e w' h=> ?_
  have e1:1 * N / 18446744073709551616=0:=by omega
  have e2:1 * N % 18446744073709551616=N:=by omega
  rw[e1,e2] at h
  exact h
 have hNw:IntKind.u64.wrap (N:Int)=(N:Int):=by rw[IntKind.wrap_u64];omega
 obtain ⟨cells,hcs,hmk⟩:=Zet (P:=Tryz.prog) (t:=103) (e:=3) (size:=1) (bytes:=8) Tryz.underlying103 (by kernel_rfl) N (by omega) (by decide)
 obtain ⟨L,rfl⟩:∃L:List Value,cells=L.toArray:=⟨cells.toList,by simp⟩
 have hL:L.length=N:=by simpa using hcs
 have HL:=Zl hL
 clear hL hcs
 have HM:=Zl hmk;clear hmk
 have hm:=Zl hm
 clear hmul
 go_enter Tryz.func79,Tryz.ntmps79
 go_wp2_with fail
 refine (hm.out _).mono ?_
 rintro e w1 ⟨rfl,hw1⟩
 rw[hw1]
 clear hw1 w1
 have hmk:=HM.out w
 obtain ⟨b,off,rfl,hbl,d0,f0⟩:=RA.int_at (k:=0) hr (Below.refl _ w) rfl
 obtain ⟨m0,hm0,hm1⟩:∃m0:Nat,min 1 N=m0∧(m0=1∧1≤N∨m0=0∧N=0):=⟨_,rfl,by omega⟩
 have HM0:=Zl hm0;clear hm0
 have HM1:=Zl hm1;clear hm1
 have hsrc:∀(o:Obj) (j:Nat) (u:Value),(List.replicate m0 (Value.int .i64 v))[j]?=some u→(w.alloc o).cell? ((⟨b,off,none⟩:Addr).add j)=some u:=fun o j u hj=>by
  rw[List.getElem?_replicate] at hj
  split at hj
  case isFalse=>cases hj
  rename_i hjm
  cases hj
  cases j with
  |succ j=>have:=HM1.out;omega
  | zero=>
   have:(w.alloc o).cell? ⟨b,off,none⟩=w.cell? ⟨b,off,none⟩:=by first|exact World.cell?_alloc_past w o b off hbl|exact World.cell?_alloc_past o b off hbl
   exact this.trans (by simpa using d0)
 have HSRC:=Zl hsrc
 clear hsrc
 have h0:ZaU v L 0=L:=by simp[ZaU]
 have hm0N:m0≤N:=by have:=HM1.out;omega
 have HN:=Zl hm0N
 obtain ⟨w2,hrun,hg2,hb2⟩:=Zj0 (P:=Tryz.prog) (w:=w.alloc (.cells L.toArray 3)) (ty:=3) 103 103 Tryz.underlying103 (by kernel_rfl) (some ⟨w.heap.size,0,none⟩) (some ⟨b,off,none⟩) N N 1 c w.heap.size 0 (ZaU v L 0) 3 (by rw[h0];exact Zok w _) (List.replicate m0 (.int .i64 v)) (by rw[List.length_replicate];exact HM0.out.symm) (fun _=>⟨rfl,_,rfl,HSRC.out _⟩) (by rw[Zh7 (by omega),HL.out,List.length_replicate];have:=HN.out;omega) (by intro u hu;rw[List.eq_of_mem_replicate hu];rfl) w.heap.size w (by (repeat' (first|(with_reducible first|exact Below.refl _ _|assumption|refine Ze ?_ _|refine Below.drew ?_|refine Below.alloc ?_ ?_ _|refine Below.setCell ?_ ?_ _|refine Below.then_ ?_ (by assumption) ?_)|go_size))) (Nat.le_refl _)
 rw[List.length_replicate] at hrun
 go_wp2_with fail
 clear hmk hrun
 have e1:Go.splice (ZaU v L 0) 0 (List.replicate m0 (Value.int .i64 v))=ZaU v L m0:=by
  have:=ZgN (v:=v) (L:=L) (k:=0) (m:=m0) (by rw[HL.out];have:=HN.out;omega)
  simpa using this
 rw[e1] at hg2
 clear e1 h0
 go_loopw [8] (fun nv wr=>∃k:Nat,(1≤k∨N=0)∧k≤N∧nv=.int .i64 k∧Hid (wr.heap[w.heap.size]?=some (.cells (ZaU v L k).toArray 3 (0,0)))∧Below w.heap.size w wr) (fun nv _=>N - (intOf nv).toNat)
 case atStart=>exact ⟨m0,by have:=HM1.out;omega,HN.out,rfl,hg2,hb2⟩
 case round=>
  obtain ⟨k,hk1,hk2,rfl,hg,hb⟩:=hrel
  by_cases hlt:k<N
  ·have hki:(k:Int)<(N:Int):=by omega
   go_wp2_with fail
   have hne:¬N=k:=by omega
   obtain ⟨m,hmm,hm1,hm2⟩:∃m,min k (N - k)=m∧1≤m∧m≤N - k∧m≤k:=⟨_,rfl,by omega,by omega,by omega⟩
   have hwr:IntKind.i64.wrap ((k:Int)+(m:Int))=((k+m:Nat):Int):=by rw[IntKind.wrap_i64];omega
   have HMM:=Zl hmm
   clear hmm
   obtain ⟨hm2,hm3⟩:=hm2
   have hbd:Below w.heap.size w wr.drew:=by (repeat' (first|(with_reducible first|exact Below.refl _ _|assumption|refine Ze ?_ _|refine Below.drew ?_|refine Below.alloc ?_ ?_ _|refine Below.setCell ?_ ?_ _|refine Below.then_ ?_ (by assumption) ?_)|go_size))
   have hsrc2:Hid (∀(j:Nat) (u:Value),(List.replicate m (Value.int .i64 v))[j]?=some u→wr.drew.cell? ((⟨w.heap.size,0,none⟩:Addr).add j)=some u):=fun j u hj=>by
    rw[List.getElem?_replicate] at hj
    split at hj
    ·cases hj
     exact Zm0 (w:=wr.drew) (L:=ZaU v L k) hg.out (Zoj (by omega))
    ·cases hj
   obtain ⟨w4,hrun,hg4,hb4⟩:=Zj0 (P:=Tryz.prog) (w:=wr.drew) (ty:=3) 103 103 Tryz.underlying103 (by kernel_rfl) (some ⟨w.heap.size,k,none⟩) (some ⟨w.heap.size,0,none⟩) (N - k) (N - k) k N w.heap.size k (ZaU v L k) 3 hg.out (List.replicate m (.int .i64 v)) (by rw[List.length_replicate];exact HMM.out.symm) (fun _=>⟨rfl,_,rfl,hsrc2.out⟩) (by rw[Zh7 (by rw[HL.out];omega),HL.out,List.length_replicate];omega) (by intro u hu;rw[List.eq_of_mem_replicate hu];rfl) w.heap.size w hbd (Nat.le_refl _)
   rw[ZgN (by rw[HL.out];omega)] at hg4
   rw[List.length_replicate] at hrun
   have ht:True:=trivial
   go_region_held3 (fun W=>W.heap.size=W.heap.size) (rfl) (fail)
   clear hrun hsrc2
   go_wp2_with fail
   go_roundw
   case rel=>exact ⟨k+m,by omega,by omega,by rw[Int.natCast_add],hg4,hb4⟩
   case measure=>simp[intOf];omega
  ·obtain rfl:k=N:=by omega
   go_wp2_with fail
   go_ret
   exact ⟨some ⟨w.heap.size,0,none⟩,k,rfl,Zt1 hv HL.out (by omega) hg.out,hb⟩
end Go.Proofs.YtkgnjijonikchaaGreat
