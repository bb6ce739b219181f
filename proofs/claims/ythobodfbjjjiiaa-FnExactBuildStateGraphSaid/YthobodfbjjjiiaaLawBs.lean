import Derived.Test.YthobodfbjjjiiaaRows
import Derived.Test.YthobodfbjjjiiaaData
import Derived.Test.YthobodfbjjjiiaaFrz
namespace Go.Proofs.Ythobodfbjjjiiaa.Lw
open Go.RowKit
set_option linter.unusedVariables false
set_option maxHeartbeats 400000 in
theorem szIntS (A:Option Addr) (n c:Nat) (left:Int) (w:World) (hn:n≤9223372036854775807) (h0:0≤left) (h1:left≤1048576):
 Calls Try.prog 78 #[.slice A n c,.int .i64 left] w fun e w'=>e=.returned (.int .i64 (Zrc n left))∧w'=w:=by
 by_cases h:left<n
 ·go_enter Try.func78,Try.ntmps78
  go_wp2
  go_ret
  exact ⟨Zrk (by unfold Zrc;rw[if_pos (by omega)]),rfl⟩
 ·go_enter Try.func78,Try.ntmps78
  go_wp2
  go_ret
  exact ⟨Zrk (by unfold Zrc;rw[if_neg (by omega)]),rfl⟩
set_option maxHeartbeats 1000000 in
theorem toIntS (A:Option Addr) (c:Nat) (l:(List Int)) (w:World) (hs:l.length≤1048576) (hr:RA Ze8 w A l):
 Calls Try.prog 79 #[.slice A l.length c] w fun e w'=>∃A',e=.returned (.slice A' l.length l.length)∧RSl Ze8 w' (ZsG w w') A' l∧Below w.heap.size w w'∧Frz w w':=by
 have hl:=hs
 obtain ⟨cells,hcs,hmk⟩:=ZtW (P:=Try.prog) (t:=65) (e:=3) (size:=1) (bytes:=8) Try.underlying65 (by kernel_rfl) l.length (by omega) (by decide)
 have HC:=Zrb hcs;clear hcs
 have HM:=Zrb hmk;clear hmk
 go_enter Try.func79,Try.ntmps79
 have hmk:=HM.out w
 go_wp2
 clear hmk
 go_loopw [4] (fun i wr=>∃k:Nat,k≤l.length∧i=.int .i64 k∧Hid (ZaP Ze8 wr (ZtZ w.heap.size wr) w.heap.size 3 l.length k l)∧Below w.heap.size w wr∧Frz w wr) (fun i _=>l.length - (intOf i).toNat)
 case atStart=>exact ⟨0,Nat.zero_le _,rfl,ZaP.start HC.out,by (repeat' (first|(with_reducible exact Below.refl _ _)|(with_reducible assumption)|(with_reducible refine Zra ?_ _)|(with_reducible refine Below.drew ?_)|(with_reducible refine Below.alloc ?_ ?_ _)|(with_reducible refine Below.setCell ?_ ?_ _)|(with_reducible refine Below.then_ ?_ (by assumption) ?_)|go_size)),by (repeat' (first|(with_reducible exact Frz.refl _)|(with_reducible assumption)|(with_reducible refine Frz.drewN ?_ _)|(with_reducible refine Frz.drew ?_)|(with_reducible refine Frz.alloc ?_ _ _)|(with_reducible refine Frz.setCell ?_ _ _)|(with_reducible refine Frz.then_ ?_ (by assumption))))⟩
 case round=>
  obtain ⟨k,hk,rfl,hf,hb,hfz⟩:=hrel
  have hsz:=hb.size
  by_cases hlt:k<l.length
  ·obtain ⟨x,hx⟩:=ZfX hlt
   obtain ⟨b,off,rfl,hbl,d0,f0⟩:=hr.int_at hb hx
   have HX:=Zrb hx;clear hx
   obtain ⟨⟨v0,r0⟩,z0⟩:=hf.out.room hlt 0 (by decide)
   have hgl:=hf.out.lt
   simp only[Ze8,Nat.add_zero,Nat.mul_one] at r0 z0
   go_wp2_with fail
   go_roundw
   case rel=>exact ⟨k+1,by omega,by go_num,Zrb (hf.out.step [.int .i64 x] HX.out ⟨rfl,f0⟩ (by simp[ZbC,Ze8])),by (repeat' (first|(with_reducible exact Below.refl _ _)|(with_reducible assumption)|(with_reducible refine Zra ?_ _)|(with_reducible refine Below.drew ?_)|(with_reducible refine Below.alloc ?_ ?_ _)|(with_reducible refine Below.setCell ?_ ?_ _)|(with_reducible refine Below.then_ ?_ (by assumption) ?_)|go_size)),by (repeat' (first|(with_reducible exact Frz.refl _)|(with_reducible assumption)|(with_reducible refine Frz.drewN ?_ _)|(with_reducible refine Frz.drew ?_)|(with_reducible refine Frz.alloc ?_ _ _)|(with_reducible refine Frz.setCell ?_ _ _)|(with_reducible refine Frz.then_ ?_ (by assumption))))⟩
   case measure=>simp[intOf];omega
  ·have:k=l.length:=by omega
   subst this
   go_wp2
   go_ret
   exact ⟨_,rfl,hf.out.finish,by (repeat' (first|(with_reducible exact Below.refl _ _)|(with_reducible assumption)|(with_reducible refine Zra ?_ _)|(with_reducible refine Below.drew ?_)|(with_reducible refine Below.alloc ?_ ?_ _)|(with_reducible refine Below.setCell ?_ ?_ _)|(with_reducible refine Below.then_ ?_ (by assumption) ?_)|go_size)),by (repeat' (first|(with_reducible exact Frz.refl _)|(with_reducible assumption)|(with_reducible refine Frz.drewN ?_ _)|(with_reducible refine Frz.drew ?_)|(with_reducible refine Frz.alloc ?_ _ _)|(with_reducible refine Frz.setCell ?_ _ _)|(with_reducible refine Frz.then_ ?_ (by assumption))))⟩
set_option maxHeartbeats 1000000 in
theorem eqIntS (A A':Option Addr) (c c':Nat) (l:(List Int)) (w:World) (hl:l.length≤9223372036854775807) (hr:RA Ze8 w A l) (hr':RA Ze8 w A' l):
 Calls Try.prog 80 #[.slice A l.length c,.slice A' l.length c'] w fun e w'=>e=.returned (.bool true)∧Below w.heap.size w w':=by
 go_enter Try.func80,Try.ntmps80
 go_wp2
 go_loopw [5] (fun i wr=>∃k:Nat,k≤l.length∧i=.int .i64 k∧Below w.heap.size w wr) (fun i _=>l.length - (intOf i).toNat)
 case atStart=>exact ⟨0,Nat.zero_le _,rfl,Below.refl _ _⟩
 case round=>
  obtain ⟨k,hk,rfl,hb⟩:=hrel
  have hsz:=hb.size
  by_cases hlt:k<l.length
  ·obtain ⟨x,hx⟩:=ZfX hlt
   obtain ⟨b,off,rfl,hbl,d0,f0⟩:=hr.int_at hb hx
   obtain ⟨b',off',rfl,hbl',d0',f0'⟩:=hr'.int_at hb hx
   have HX:=Zrb hx;clear hx
   go_wp2_with fail
   go_quiet (fail)
   go_wp2_with fail
   go_roundw
   case rel=>exact ⟨k+1,by omega,by go_num,by (repeat' (first|(with_reducible exact Below.refl _ _)|(with_reducible assumption)|(with_reducible refine Zra ?_ _)|(with_reducible refine Below.drew ?_)|(with_reducible refine Below.alloc ?_ ?_ _)|(with_reducible refine Below.setCell ?_ ?_ _)|(with_reducible refine Below.then_ ?_ (by assumption) ?_)|go_size))⟩
   case measure=>simp[intOf];omega
  ·go_wp2
   go_ret
   exact ⟨rfl,by (repeat' (first|(with_reducible exact Below.refl _ _)|(with_reducible assumption)|(with_reducible refine Zra ?_ _)|(with_reducible refine Below.drew ?_)|(with_reducible refine Below.alloc ?_ ?_ _)|(with_reducible refine Below.setCell ?_ ?_ _)|(with_reducible refine Below.then_ ?_ (by assumption) ?_)|go_size))⟩
def wtTr (x:Tr):Nat:=(x.pre).length+(x.post).length
set_option maxHeartbeats 1000000 in
theorem szTransition (x:Tr) (A_pre:Option Addr) (c_pre:Nat) (A_post:Option Addr) (c_post:Nat) (left:Int) (w:World) (g0:(x.pre).length≤c_pre) (g1:c_pre≤9223372036854775807) (g2:RA Ze8 w A_pre x.pre) (g3:(x.post).length≤c_post) (g4:c_post≤9223372036854775807) (g5:RA Ze8 w A_post x.post) (h0:0≤left) (h1:left≤1048576):
 Calls Try.prog 60 #[.agg #[.slice A_pre (x.pre).length c_pre,.slice A_post (x.post).length c_post],.int .i64 left] w fun e w'=>e=.returned (.int .i64 (Zrc (wtTr x) left))∧Below w.heap.size w w':=by
 show Calls _ _ _ _ fun e w'=>e=.returned (.int .i64 (Zrc ((x.pre).length+(x.post).length) left))∧_
 go_enter Try.func60,Try.ntmps60
 go_wp2_with fail
 refine (szIntS A_pre (x.pre).length c_pre (left) _ (by omega) (by omega) (by omega)).mono ?_
 rintro e w1 ⟨rfl,rfl⟩
 by_cases q1:left<((x.pre).length:Nat)
 ·rw[ZrZ q1]
  go_wp2
  go_ret
  exact ⟨Zrk (by unfold Zrc;rw[if_pos (by omega)]),by (repeat' (first|(with_reducible exact Below.refl _ _)|(with_reducible assumption)|(with_reducible refine Zra ?_ _)|(with_reducible refine Below.drew ?_)|(with_reducible refine Below.alloc ?_ ?_ _)|(with_reducible refine Below.setCell ?_ ?_ _)|(with_reducible refine Below.then_ ?_ (by assumption) ?_)|go_size))⟩
 ·rw[Zr6 q1]
  go_wp2_with fail
  refine (szIntS A_post (x.post).length c_post (left - ((x.pre).length:Nat)) _ (by omega) (by omega) (by omega)).mono ?_
  rintro e w2 ⟨rfl,rfl⟩
  by_cases q2:left - ((x.pre).length:Nat)<((x.post).length:Nat)
  ·rw[ZrZ q2]
   go_wp2
   go_ret
   exact ⟨Zrk (by unfold Zrc;rw[if_pos (by omega)]),by (repeat' (first|(with_reducible exact Below.refl _ _)|(with_reducible assumption)|(with_reducible refine Zra ?_ _)|(with_reducible refine Below.drew ?_)|(with_reducible refine Below.alloc ?_ ?_ _)|(with_reducible refine Below.setCell ?_ ?_ _)|(with_reducible refine Below.then_ ?_ (by assumption) ?_)|go_size))⟩
  ·rw[Zr6 q2]
   go_wp2
   go_ret
   exact ⟨Zrk (by (unfold Zrc;rw[if_neg (by omega)])<;>omega),by (repeat' (first|(with_reducible exact Below.refl _ _)|(with_reducible assumption)|(with_reducible refine Zra ?_ _)|(with_reducible refine Below.drew ?_)|(with_reducible refine Below.alloc ?_ ?_ _)|(with_reducible refine Below.setCell ?_ ?_ _)|(with_reducible refine Below.then_ ?_ (by assumption) ?_)|go_size))⟩
set_option maxHeartbeats 1000000 in
theorem toTransition (x:Tr) (A_pre:Option Addr) (c_pre:Nat) (A_post:Option Addr) (c_post:Nat) (w:World) (g0:(x.pre).length≤c_pre) (g1:c_pre≤9223372036854775807) (g2:RA Ze8 w A_pre x.pre) (g3:(x.post).length≤c_post) (g4:c_post≤9223372036854775807) (g5:RA Ze8 w A_post x.post) (hs:wtTr x≤1048576):
 Calls Try.prog 61 #[.agg #[.slice A_pre (x.pre).length c_pre,.slice A_post (x.post).length c_post]] w fun e w'=>∃A_pre' A_post',e=.returned (.agg #[.slice A_pre' (x.pre).length (x.pre).length,.slice A_post' (x.post).length (x.post).length])∧RSl Ze8 w' (ZsG w w') A_pre' x.pre∧RSl Ze8 w' (ZsG w w') A_post' x.post∧Below w.heap.size w w'∧Frz w w':=by
 unfold wtTr at hs
 go_enter Try.func61,Try.ntmps61
 go_wp2_with fail
 refine (toIntS A_pre c_pre x.pre _ (by omega) (RA.to g2 ?hb)).mono ?_
 case hb=>(repeat' (first|(with_reducible exact Below.refl _ _)|(with_reducible assumption)|(with_reducible refine Zra ?_ _)|(with_reducible refine Below.drew ?_)|(with_reducible refine Below.alloc ?_ ?_ _)|(with_reducible refine Below.setCell ?_ ?_ _)|(with_reducible refine Below.then_ ?_ (by assumption) ?_)|go_size))
 rintro e w1 ⟨A_pre',rfl,r1,hb1,fz1⟩
 obtain ⟨hc1,hf1⟩:=Zrp hb1
 have hz1:=hb1.size
 repeat (first|rw[World.size_alloc] at hz1|rw[World.size_setCell] at hz1)
 have l1_0:w.heap.size<w1.heap.size:=by omega
 have l1_1:w.heap.size+1<w1.heap.size:=by omega
 have l1_2:w.heap.size+1+1<w1.heap.size:=by omega
 go_wp2_with fail
 refine (toIntS A_post c_post x.post _ (by omega) (RA.to g5 ?hb)).mono ?_
 case hb=>(repeat' (first|(with_reducible exact Below.refl _ _)|(with_reducible assumption)|(with_reducible refine Zra ?_ _)|(with_reducible refine Below.drew ?_)|(with_reducible refine Below.alloc ?_ ?_ _)|(with_reducible refine Below.setCell ?_ ?_ _)|(with_reducible refine Below.then_ ?_ (by assumption) ?_)|go_size))
 rintro e w2 ⟨A_post',rfl,r2,hb2,fz2⟩
 obtain ⟨hc2,hf2⟩:=Zrp hb2
 have hz2:=hb2.size
 repeat (first|rw[World.size_alloc] at hz2|rw[World.size_setCell] at hz2)
 have l2_0:w.heap.size<w2.heap.size:=by omega
 have l2_1:w.heap.size+1<w2.heap.size:=by omega
 have l2_2:w.heap.size+1+1<w2.heap.size:=by omega
 go_wp2
 refine bodyPost_ret (v:=.agg #[.slice A_pre' (x.pre).length (x.pre).length,.slice A_post' (x.post).length (x.post).length]) ?_ rfl ?_
 ·simp[results,Try.results61,go_sem, *]
 exact ⟨_,_,rfl,(r1).keep (by (refine Agree.out ?_;repeat' (first|(with_reducible exact Agree.refl _ _)|(with_reducible refine Agree.drew ?_)|(with_reducible refine Agree.drewN ?_ _)|(with_reducible refine Agree.setCell ?_ ?_ _)|(with_reducible refine Agree.alloc ?_ ?_ _)|(with_reducible refine Agree.then_ ?_ (by assumption) ?_)|(intro b hb;obtain ⟨hb1,hb2⟩:=hb;(first|omega|((try simp at hb1);(try simp at hb2);(try simp);omega)))))) (by (intro b hb;obtain ⟨hb1,hb2⟩:=hb;exact ⟨by (first|omega|((try simp at hb1);(try simp at hb2);(try simp);omega)),by (first|omega|((try simp at hb1);(try simp at hb2);(try simp);omega))⟩)),(r2).keep (by (refine Agree.out ?_;repeat' (first|(with_reducible exact Agree.refl _ _)|(with_reducible refine Agree.drew ?_)|(with_reducible refine Agree.drewN ?_ _)|(with_reducible refine Agree.setCell ?_ ?_ _)|(with_reducible refine Agree.alloc ?_ ?_ _)|(with_reducible refine Agree.then_ ?_ (by assumption) ?_)|(intro b hb;obtain ⟨hb1,hb2⟩:=hb;(first|omega|((try simp at hb1);(try simp at hb2);(try simp);omega)))))) (by (intro b hb;obtain ⟨hb1,hb2⟩:=hb;exact ⟨by (first|omega|((try simp at hb1);(try simp at hb2);(try simp);omega)),by (first|omega|((try simp at hb1);(try simp at hb2);(try simp);omega))⟩)),by (repeat' (first|(with_reducible exact Below.refl _ _)|(with_reducible assumption)|(with_reducible refine Zra ?_ _)|(with_reducible refine Below.drew ?_)|(with_reducible refine Below.alloc ?_ ?_ _)|(with_reducible refine Below.setCell ?_ ?_ _)|(with_reducible refine Below.then_ ?_ (by assumption) ?_)|go_size)),by (repeat' (first|(with_reducible exact Frz.refl _)|(with_reducible assumption)|(with_reducible refine Frz.drewN ?_ _)|(with_reducible refine Frz.drew ?_)|(with_reducible refine Frz.alloc ?_ _ _)|(with_reducible refine Frz.setCell ?_ _ _)|(with_reducible refine Frz.then_ ?_ (by assumption))))⟩
set_option maxHeartbeats 1000000 in
theorem eqTransition (x:Tr) (A_pre:Option Addr) (c_pre:Nat) (A_post:Option Addr) (c_post:Nat) (A_pre':Option Addr) (c_pre':Nat) (A_post':Option Addr) (c_post':Nat) (w:World) (g0:(x.pre).length≤c_pre) (g1:c_pre≤9223372036854775807) (g2:RA Ze8 w A_pre x.pre) (g3:(x.post).length≤c_post) (g4:c_post≤9223372036854775807) (g5:RA Ze8 w A_post x.post) (g0':(x.pre).length≤c_pre') (g1':c_pre'≤9223372036854775807) (g2':RA Ze8 w A_pre' x.pre) (g3':(x.post).length≤c_post') (g4':c_post'≤9223372036854775807) (g5':RA Ze8 w A_post' x.post):
 Calls Try.prog 62 #[.agg #[.slice A_pre (x.pre).length c_pre,.slice A_post (x.post).length c_post],.agg #[.slice A_pre' (x.pre).length c_pre',.slice A_post' (x.post).length c_post']] w fun e w'=>e=.returned (.bool true)∧Below w.heap.size w w':=by
 go_enter Try.func62,Try.ntmps62
 go_wp2_with fail
 refine (eqIntS A_pre A_pre' c_pre c_pre' x.pre _ (by omega) (RA.to g2 ?hb) (RA.to g2' ?hb2)).mono ?_
 case hb=>(repeat' (first|(with_reducible exact Below.refl _ _)|(with_reducible assumption)|(with_reducible refine Zra ?_ _)|(with_reducible refine Below.drew ?_)|(with_reducible refine Below.alloc ?_ ?_ _)|(with_reducible refine Below.setCell ?_ ?_ _)|(with_reducible refine Below.then_ ?_ (by assumption) ?_)|go_size))
 case hb2=>(repeat' (first|(with_reducible exact Below.refl _ _)|(with_reducible assumption)|(with_reducible refine Zra ?_ _)|(with_reducible refine Below.drew ?_)|(with_reducible refine Below.alloc ?_ ?_ _)|(with_reducible refine Below.setCell ?_ ?_ _)|(with_reducible refine Below.then_ ?_ (by assumption) ?_)|go_size))
 rintro e w1 ⟨rfl,hb1⟩
 obtain ⟨hc1,hf1⟩:=Zrp hb1
 have hz1:=hb1.size
 repeat (first|rw[World.size_alloc] at hz1|rw[World.size_setCell] at hz1)
 have l1_0:w.heap.size<w1.heap.size:=by omega
 have l1_1:w.heap.size+1<w1.heap.size:=by omega
 go_wp2_with fail
 refine (eqIntS A_post A_post' c_post c_post' x.post _ (by omega) (RA.to g5 ?hb) (RA.to g5' ?hb2)).mono ?_
 case hb=>(repeat' (first|(with_reducible exact Below.refl _ _)|(with_reducible assumption)|(with_reducible refine Zra ?_ _)|(with_reducible refine Below.drew ?_)|(with_reducible refine Below.alloc ?_ ?_ _)|(with_reducible refine Below.setCell ?_ ?_ _)|(with_reducible refine Below.then_ ?_ (by assumption) ?_)|go_size))
 case hb2=>(repeat' (first|(with_reducible exact Below.refl _ _)|(with_reducible assumption)|(with_reducible refine Zra ?_ _)|(with_reducible refine Below.drew ?_)|(with_reducible refine Below.alloc ?_ ?_ _)|(with_reducible refine Below.setCell ?_ ?_ _)|(with_reducible refine Below.then_ ?_ (by assumption) ?_)|go_size))
 rintro e w2 ⟨rfl,hb2⟩
 obtain ⟨hc2,hf2⟩:=Zrp hb2
 have hz2:=hb2.size
 repeat (first|rw[World.size_alloc] at hz2|rw[World.size_setCell] at hz2)
 have l2_0:w.heap.size<w2.heap.size:=by omega
 have l2_1:w.heap.size+1<w2.heap.size:=by omega
 go_wp2
 go_ret
 exact ⟨rfl,by (repeat' (first|(with_reducible exact Below.refl _ _)|(with_reducible assumption)|(with_reducible refine Zra ?_ _)|(with_reducible refine Below.drew ?_)|(with_reducible refine Below.alloc ?_ ?_ _)|(with_reducible refine Below.setCell ?_ ?_ _)|(with_reducible refine Below.then_ ?_ (by assumption) ?_)|go_size))⟩
set_option maxHeartbeats 1000000 in
theorem szTransitionS (A:Option Addr) (c:Nat) (l:(List Tr)) (left:Int) (w:World) (hn:l.length≤9223372036854775807) (hr:RA ZrX w A l) (h0:0≤left) (h1:left≤1048576):
 Calls Try.prog 42 #[.slice A l.length c,.int .i64 left] w fun e w'=>e=.returned (.int .i64 (Zrc (wtL wtTr l) left))∧Below w.heap.size w w':=by
 by_cases h:left<l.length
 ·have hs:Zrc (wtL wtTr l) left= -1:=by unfold Zrc wtL;rw[if_pos (by omega)]
  have HS:=Zrb hs;clear hs
  go_enter Try.func42,Try.ntmps42
  go_wp2
  go_ret
  exact ⟨Zrk HS.out.symm,by (repeat' (first|(with_reducible exact Below.refl _ _)|(with_reducible assumption)|(with_reducible refine Zra ?_ _)|(with_reducible refine Below.drew ?_)|(with_reducible refine Below.alloc ?_ ?_ _)|(with_reducible refine Below.setCell ?_ ?_ _)|(with_reducible refine Below.then_ ?_ (by assumption) ?_)|go_size))⟩
 ·obtain ⟨R,hR⟩:∃R,Zrc (wtL wtTr l) left=R:=⟨_,rfl⟩
  have HR:=Zrb hR
  have HL:Hid (Zrc ((l.drop 0).map wtTr).sum (left - l.length)=R):=by show _=_;rw[←hR,wtL,ZtT h];rfl
  clear hR
  go_enter Try.func42,Try.ntmps42
  go_wp2
  go_loopw [5,1] (fun i L wr=>∃(k:Nat) (m:Int),k≤l.length∧i=.int .i64 k∧L=.int .i64 m∧0≤m∧m≤1048576∧Hid (Zrc ((l.drop k).map wtTr).sum m=R)∧Below w.heap.size w wr) (fun i _ _=>l.length - (intOf i).toNat)
  case atStart=>exact ⟨0,_,Nat.zero_le _,rfl,rfl,by omega,by omega,HL,by (repeat' (first|(with_reducible exact Below.refl _ _)|(with_reducible assumption)|(with_reducible refine Zra ?_ _)|(with_reducible refine Below.drew ?_)|(with_reducible refine Below.alloc ?_ ?_ _)|(with_reducible refine Below.setCell ?_ ?_ _)|(with_reducible refine Below.then_ ?_ (by assumption) ?_)|go_size))⟩
  case round=>
   obtain ⟨k,m,hk,rfl,rfl,hm0,hm1,hgo,hb⟩:=hrel
   have hsz:=hb.size
   by_cases hlt:k<l.length
   ·obtain ⟨x,hx⟩:=ZfX hlt
    obtain ⟨b,off,A_pre,c_pre,A_post,c_post,rfl,hbl,d0,d1,f0,f1,f2,f3,f4,f5⟩:=hr.Tr_at hb hx
    have Hd:=Zrb (ZtB hx)
    clear hx
    have hg1:=hgo.out
    rw[Hd.out,List.map_cons,List.sum_cons] at hg1
    have HG:=Zrb hg1;clear hg1
    go_wp2_with fail
    refine (szTransition x A_pre c_pre A_post c_post m _ f0 f1 f2 f3 f4 f5 hm0 hm1).mono ?_
    rintro e w1 ⟨rfl,hb1⟩
    have hb2:=hb.trans (hb1.mono hsz)
    by_cases hq:m<(wtTr x:Nat)
    ·rw[ZrZ hq]
     have HQ:=Zrb (ZtV (b:=((l.drop (k+1)).map wtTr).sum) hq)
     go_wp2
     go_ret
     exact ⟨Zrk (by rw[HR.out,←HG.out,←HQ.out]),by (repeat' (first|(with_reducible exact Below.refl _ _)|(with_reducible assumption)|(with_reducible refine Zra ?_ _)|(with_reducible refine Below.drew ?_)|(with_reducible refine Below.alloc ?_ ?_ _)|(with_reducible refine Below.setCell ?_ ?_ _)|(with_reducible refine Below.then_ ?_ (by assumption) ?_)|go_size))⟩
    ·rw[Zr6 hq]
     have HG2:Hid (Zrc ((l.drop (k+1)).map wtTr).sum (m - (wtTr x:Nat))=R):=by show _=_;rw[←HG.out];exact (ZtT hq).symm
     have hq1:(wtTr x:Int)≤m:=by omega
     have hq2:(0:Int)≤(wtTr x:Nat):=by omega
     go_wp2_with fail
     go_roundw
     case rel=>exact ⟨k+1,_,by omega,by go_num,rfl,by omega,by omega,HG2,by (repeat' (first|(with_reducible exact Below.refl _ _)|(with_reducible assumption)|(with_reducible refine Zra ?_ _)|(with_reducible refine Below.drew ?_)|(with_reducible refine Below.alloc ?_ ?_ _)|(with_reducible refine Below.setCell ?_ ?_ _)|(with_reducible refine Below.then_ ?_ (by assumption) ?_)|go_size))⟩
     case measure=>simp[intOf];omega
   ·have hg1:=hgo.out
    rw[Zt3 hlt] at hg1
    have HG:=Zrb hg1;clear hg1
    go_wp2
    go_ret
    exact ⟨Zrk (by rw[HR.out,←HG.out];unfold Zrc;simp;omega),by (repeat' (first|(with_reducible exact Below.refl _ _)|(with_reducible assumption)|(with_reducible refine Zra ?_ _)|(with_reducible refine Below.drew ?_)|(with_reducible refine Below.alloc ?_ ?_ _)|(with_reducible refine Below.setCell ?_ ?_ _)|(with_reducible refine Below.then_ ?_ (by assumption) ?_)|go_size))⟩
set_option maxHeartbeats 1000000 in
theorem toTransitionS (A:Option Addr) (c:Nat) (l:(List Tr)) (w:World) (hs:wtL wtTr l≤1048576) (hr:RA ZrX w A l):
 Calls Try.prog 44 #[.slice A l.length c] w fun e w'=>∃A',e=.returned (.slice A' l.length l.length)∧RSl ZrX w' (ZsG w w') A' l∧Below w.heap.size w w'∧Frz w w':=by
 have hl:l.length≤1048576:=by unfold wtL at hs;omega
 obtain ⟨cells,hcs,hmk⟩:=ZtW (P:=Try.prog) (t:=32) (e:=115) (size:=2) (bytes:=48) Try.underlying32 (by kernel_rfl) l.length (by omega) (by decide)
 have HC:=Zrb hcs;clear hcs
 have HM:=Zrb hmk;clear hmk
 go_enter Try.func44,Try.ntmps44
 have hmk:=HM.out w
 go_wp2
 clear hmk
 go_loopw [4] (fun i wr=>∃k:Nat,k≤l.length∧i=.int .i64 k∧Hid (ZaP ZrX wr (ZtZ w.heap.size wr) w.heap.size 115 l.length k l)∧Below w.heap.size w wr∧Frz w wr) (fun i _=>l.length - (intOf i).toNat)
 case atStart=>exact ⟨0,Nat.zero_le _,rfl,ZaP.start HC.out,by (repeat' (first|(with_reducible exact Below.refl _ _)|(with_reducible assumption)|(with_reducible refine Zra ?_ _)|(with_reducible refine Below.drew ?_)|(with_reducible refine Below.alloc ?_ ?_ _)|(with_reducible refine Below.setCell ?_ ?_ _)|(with_reducible refine Below.then_ ?_ (by assumption) ?_)|go_size)),by (repeat' (first|(with_reducible exact Frz.refl _)|(with_reducible assumption)|(with_reducible refine Frz.drewN ?_ _)|(with_reducible refine Frz.drew ?_)|(with_reducible refine Frz.alloc ?_ _ _)|(with_reducible refine Frz.setCell ?_ _ _)|(with_reducible refine Frz.then_ ?_ (by assumption))))⟩
 case round=>
  obtain ⟨k,hk,rfl,hf,hb,hfz⟩:=hrel
  have hsz:=hb.size
  by_cases hlt:k<l.length
  ·obtain ⟨x,hx⟩:=ZfX hlt
   obtain ⟨b,off,A_pre,c_pre,A_post,c_post,rfl,hbl,d0,d1,f0,f1,f2,f3,f4,f5⟩:=hr.Tr_at hb hx
   have hwx:wtTr x≤1048576:=Nat.le_trans (Zub hx) hs
   have HX:=Zrb hx;clear hx
   have hgl:=hf.out.lt
   go_wp2_with fail
   refine (toTransition x A_pre c_pre A_post c_post wr f0 f1 f2 f3 f4 f5 hwx).mono ?_
   rintro e w1 ⟨A_pre',A_post',rfl,rA_pre,rA_post,hb1,fz1⟩
   have hf1:=hf.out.to hb1
   obtain ⟨⟨v0,p0⟩,z0⟩:=hf1.room hlt 0 (by decide)
   obtain ⟨⟨v1,p1⟩,z1⟩:=hf1.room hlt 1 (by decide)
   have HF:=Zrb hf1;clear hf1
   simp only[ZtU,Nat.add_zero] at p0 z0 p1 z1
   have hb2:=hb.trans (hb1.mono hsz)
   have hsz1:=hb1.size
   go_wp2_with fail
   go_roundw
   case rel=>exact ⟨k+1,by omega,by go_num,Zrb (HF.out.step [.slice A_pre' (x.pre).length (x.pre).length,.slice A_post' (x.post).length (x.post).length] HX.out (ZuN (Nat.le_refl _) (by omega) (rA_pre.mono (by (intro b hb;obtain ⟨hb1,hb2⟩:=hb;exact ⟨by omega,by omega⟩))) (Nat.le_refl _) (by omega) (rA_post.mono (by (intro b hb;obtain ⟨hb1,hb2⟩:=hb;exact ⟨by omega,by omega⟩)))) (by simp[ZbC,ZtU])),by (repeat' (first|(with_reducible exact Below.refl _ _)|(with_reducible assumption)|(with_reducible refine Zra ?_ _)|(with_reducible refine Below.drew ?_)|(with_reducible refine Below.alloc ?_ ?_ _)|(with_reducible refine Below.setCell ?_ ?_ _)|(with_reducible refine Below.then_ ?_ (by assumption) ?_)|go_size)),by (repeat' (first|(with_reducible exact Frz.refl _)|(with_reducible assumption)|(with_reducible refine Frz.drewN ?_ _)|(with_reducible refine Frz.drew ?_)|(with_reducible refine Frz.alloc ?_ _ _)|(with_reducible refine Frz.setCell ?_ _ _)|(with_reducible refine Frz.then_ ?_ (by assumption))))⟩
   case measure=>simp[intOf];omega
  ·have:k=l.length:=by omega
   subst this
   go_wp2
   go_ret
   exact ⟨_,rfl,hf.out.finish,by (repeat' (first|(with_reducible exact Below.refl _ _)|(with_reducible assumption)|(with_reducible refine Zra ?_ _)|(with_reducible refine Below.drew ?_)|(with_reducible refine Below.alloc ?_ ?_ _)|(with_reducible refine Below.setCell ?_ ?_ _)|(with_reducible refine Below.then_ ?_ (by assumption) ?_)|go_size)),by (repeat' (first|(with_reducible exact Frz.refl _)|(with_reducible assumption)|(with_reducible refine Frz.drewN ?_ _)|(with_reducible refine Frz.drew ?_)|(with_reducible refine Frz.alloc ?_ _ _)|(with_reducible refine Frz.setCell ?_ _ _)|(with_reducible refine Frz.then_ ?_ (by assumption))))⟩
set_option maxHeartbeats 1000000 in
theorem eqTransitionS (A A':Option Addr) (c c':Nat) (l:(List Tr)) (w:World) (hl:l.length≤9223372036854775807) (hr:RA ZrX w A l) (hr':RA ZrX w A' l):
 Calls Try.prog 47 #[.slice A l.length c,.slice A' l.length c'] w fun e w'=>e=.returned (.bool true)∧Below w.heap.size w w':=by
 go_enter Try.func47,Try.ntmps47
 go_wp2
 go_loopw [5] (fun i wr=>∃k:Nat,k≤l.length∧i=.int .i64 k∧Below w.heap.size w wr) (fun i _=>l.length - (intOf i).toNat)
 case atStart=>exact ⟨0,Nat.zero_le _,rfl,Below.refl _ _⟩
 case round=>
  obtain ⟨k,hk,rfl,hb⟩:=hrel
  have hsz:=hb.size
  by_cases hlt:k<l.length
  ·obtain ⟨x,hx⟩:=ZfX hlt
   obtain ⟨b,off,A_pre,c_pre,A_post,c_post,rfl,hbl,d0,d1,f0,f1,f2,f3,f4,f5⟩:=hr.Tr_at hb hx
   obtain ⟨b',off',A_pre',c_pre',A_post',c_post',rfl,hbl',d0',d1',f0',f1',f2',f3',f4',f5'⟩:=hr'.Tr_at hb hx
   have HX:=Zrb hx;clear hx
   go_wp2_with fail
   go_region_held3 (fun W=>W.cell? ⟨b,off+k * 2,none⟩=some (.slice A_pre (x.pre).length c_pre)∧W.cell? ⟨b,off+k * 2+1,none⟩=some (.slice A_post (x.post).length c_post)∧W.cell? ⟨b',off'+k * 2,none⟩=some (.slice A_pre' (x.pre).length c_pre')∧W.cell? ⟨b',off'+k * 2+1,none⟩=some (.slice A_post' (x.post).length c_post')) (first|exact ⟨d0,d1,d0',d1'⟩|exact ⟨(cell_later hb1 d0),(cell_later hb1 d1),(cell_later hb1 d0'),(cell_later hb1 d1')⟩) (first|(go_at_call 62;refine (eqTransition x A_pre c_pre A_post c_post A_pre' c_pre' A_post' c_post' _ f0 f1 (RA.to f2 (Below.drew (Below.refl _ _))) f3 f4 (RA.to f5 (Below.drew (Below.refl _ _))) f0' f1' (RA.to f2' (Below.drew (Below.refl _ _))) f3' f4' (RA.to f5' (Below.drew (Below.refl _ _)))).mono ?_;rintro e w1 ⟨rfl,hb1⟩))
   have hb2:=hb.drew.trans (hb1.mono hsz)
   go_wp2_with fail
   go_roundw
   case rel=>exact ⟨k+1,by omega,by go_num,by (repeat' (first|(with_reducible exact Below.refl _ _)|(with_reducible assumption)|(with_reducible refine Zra ?_ _)|(with_reducible refine Below.drew ?_)|(with_reducible refine Below.alloc ?_ ?_ _)|(with_reducible refine Below.setCell ?_ ?_ _)|(with_reducible refine Below.then_ ?_ (by assumption) ?_)|go_size))⟩
   case measure=>simp[intOf];omega
  ·go_wp2
   go_ret
   exact ⟨rfl,by (repeat' (first|(with_reducible exact Below.refl _ _)|(with_reducible assumption)|(with_reducible refine Zra ?_ _)|(with_reducible refine Below.drew ?_)|(with_reducible refine Below.alloc ?_ ?_ _)|(with_reducible refine Below.setCell ?_ ?_ _)|(with_reducible refine Below.then_ ?_ (by assumption) ?_)|go_size))⟩
def wtNet (x:Net):Nat:=(wtL wtTr x.trans)
set_option maxHeartbeats 1000000 in
theorem szNet (x:Net) (A_trans:Option Addr) (c_trans:Nat) (left:Int) (w:World) (g1:(x.trans).length≤c_trans) (g2:c_trans≤9223372036854775807) (g3:RA ZrX w A_trans x.trans) (h0:0≤left) (h1:left≤1048576):
 Calls Try.prog 16 #[.agg #[.int .i64 x.places,.slice A_trans (x.trans).length c_trans],.int .i64 left] w fun e w'=>e=.returned (.int .i64 (Zrc (wtNet x) left))∧Below w.heap.size w w':=by
 show Calls _ _ _ _ fun e w'=>e=.returned (.int .i64 (Zrc ((wtL wtTr x.trans)) left))∧_
 go_enter Try.func16,Try.ntmps16
 go_wp2_with fail
 refine (szTransitionS A_trans c_trans x.trans (left) _ (by omega) (RA.to g3 ?hb) (by omega) (by omega)).mono ?_
 case hb=>(repeat' (first|(with_reducible exact Below.refl _ _)|(with_reducible assumption)|(with_reducible refine Zra ?_ _)|(with_reducible refine Below.drew ?_)|(with_reducible refine Below.alloc ?_ ?_ _)|(with_reducible refine Below.setCell ?_ ?_ _)|(with_reducible refine Below.then_ ?_ (by assumption) ?_)|go_size))
 rintro e w1 ⟨rfl,hb1⟩
 obtain ⟨hc1,hf1⟩:=Zrp hb1
 have hz1:=hb1.size
 repeat (first|rw[World.size_alloc] at hz1|rw[World.size_setCell] at hz1)
 have l1_0:w.heap.size<w1.heap.size:=by omega
 by_cases q1:left<((wtL wtTr x.trans):Nat)
 ·rw[ZrZ q1]
  go_wp2
  go_ret
  exact ⟨Zrk (by unfold Zrc;rw[if_pos (by omega)]),by (repeat' (first|(with_reducible exact Below.refl _ _)|(with_reducible assumption)|(with_reducible refine Zra ?_ _)|(with_reducible refine Below.drew ?_)|(with_reducible refine Below.alloc ?_ ?_ _)|(with_reducible refine Below.setCell ?_ ?_ _)|(with_reducible refine Below.then_ ?_ (by assumption) ?_)|go_size))⟩
 ·rw[Zr6 q1]
  go_wp2
  go_ret
  exact ⟨Zrk (by (unfold Zrc;rw[if_neg (by omega)])<;>omega),by (repeat' (first|(with_reducible exact Below.refl _ _)|(with_reducible assumption)|(with_reducible refine Zra ?_ _)|(with_reducible refine Below.drew ?_)|(with_reducible refine Below.alloc ?_ ?_ _)|(with_reducible refine Below.setCell ?_ ?_ _)|(with_reducible refine Below.then_ ?_ (by assumption) ?_)|go_size))⟩
set_option maxHeartbeats 1000000 in
theorem toNet (x:Net) (A_trans:Option Addr) (c_trans:Nat) (w:World) (g1:(x.trans).length≤c_trans) (g2:c_trans≤9223372036854775807) (g3:RA ZrX w A_trans x.trans) (hs:wtNet x≤1048576):
 Calls Try.prog 19 #[.agg #[.int .i64 x.places,.slice A_trans (x.trans).length c_trans]] w fun e w'=>∃A_trans',e=.returned (.agg #[.int .i64 x.places,.slice A_trans' (x.trans).length (x.trans).length])∧RSl ZrX w' (ZsG w w') A_trans' x.trans∧Below w.heap.size w w'∧Frz w w':=by
 unfold wtNet at hs
 go_enter Try.func19,Try.ntmps19
 go_wp2_with fail
 refine (toTransitionS A_trans c_trans x.trans _ (by omega) (RA.to g3 ?hb)).mono ?_
 case hb=>(repeat' (first|(with_reducible exact Below.refl _ _)|(with_reducible assumption)|(with_reducible refine Zra ?_ _)|(with_reducible refine Below.drew ?_)|(with_reducible refine Below.alloc ?_ ?_ _)|(with_reducible refine Below.setCell ?_ ?_ _)|(with_reducible refine Below.then_ ?_ (by assumption) ?_)|go_size))
 rintro e w1 ⟨A_trans',rfl,r1,hb1,fz1⟩
 obtain ⟨hc1,hf1⟩:=Zrp hb1
 have hz1:=hb1.size
 repeat (first|rw[World.size_alloc] at hz1|rw[World.size_setCell] at hz1)
 have l1_0:w.heap.size<w1.heap.size:=by omega
 have l1_1:w.heap.size+1<w1.heap.size:=by omega
 have l1_2:w.heap.size+1+1<w1.heap.size:=by omega
 go_wp2
 refine bodyPost_ret (v:=.agg #[.int .i64 x.places,.slice A_trans' (x.trans).length (x.trans).length]) ?_ rfl ?_
 ·simp[results,Try.results19,go_sem, *]
 exact ⟨_,rfl,(r1).keep (by (refine Agree.out ?_;repeat' (first|(with_reducible exact Agree.refl _ _)|(with_reducible refine Agree.drew ?_)|(with_reducible refine Agree.drewN ?_ _)|(with_reducible refine Agree.setCell ?_ ?_ _)|(with_reducible refine Agree.alloc ?_ ?_ _)|(with_reducible refine Agree.then_ ?_ (by assumption) ?_)|(intro b hb;obtain ⟨hb1,hb2⟩:=hb;(first|omega|((try simp at hb1);(try simp at hb2);(try simp);omega)))))) (by (intro b hb;obtain ⟨hb1,hb2⟩:=hb;exact ⟨by (first|omega|((try simp at hb1);(try simp at hb2);(try simp);omega)),by (first|omega|((try simp at hb1);(try simp at hb2);(try simp);omega))⟩)),by (repeat' (first|(with_reducible exact Below.refl _ _)|(with_reducible assumption)|(with_reducible refine Zra ?_ _)|(with_reducible refine Below.drew ?_)|(with_reducible refine Below.alloc ?_ ?_ _)|(with_reducible refine Below.setCell ?_ ?_ _)|(with_reducible refine Below.then_ ?_ (by assumption) ?_)|go_size)),by (repeat' (first|(with_reducible exact Frz.refl _)|(with_reducible assumption)|(with_reducible refine Frz.drewN ?_ _)|(with_reducible refine Frz.drew ?_)|(with_reducible refine Frz.alloc ?_ _ _)|(with_reducible refine Frz.setCell ?_ _ _)|(with_reducible refine Frz.then_ ?_ (by assumption))))⟩
set_option maxHeartbeats 1000000 in
theorem eqNet (x:Net) (A_trans:Option Addr) (c_trans:Nat) (A_trans':Option Addr) (c_trans':Nat) (w:World) (g1:(x.trans).length≤c_trans) (g2:c_trans≤9223372036854775807) (g3:RA ZrX w A_trans x.trans) (g1':(x.trans).length≤c_trans') (g2':c_trans'≤9223372036854775807) (g3':RA ZrX w A_trans' x.trans):
 Calls Try.prog 22 #[.agg #[.int .i64 x.places,.slice A_trans (x.trans).length c_trans],.agg #[.int .i64 x.places,.slice A_trans' (x.trans).length c_trans']] w fun e w'=>e=.returned (.bool true)∧Below w.heap.size w w':=by
 go_enter Try.func22,Try.ntmps22
 go_wp2_with fail
 refine (eqTransitionS A_trans A_trans' c_trans c_trans' x.trans _ (by omega) (RA.to g3 ?hb) (RA.to g3' ?hb2)).mono ?_
 case hb=>(repeat' (first|(with_reducible exact Below.refl _ _)|(with_reducible assumption)|(with_reducible refine Zra ?_ _)|(with_reducible refine Below.drew ?_)|(with_reducible refine Below.alloc ?_ ?_ _)|(with_reducible refine Below.setCell ?_ ?_ _)|(with_reducible refine Below.then_ ?_ (by assumption) ?_)|go_size))
 case hb2=>(repeat' (first|(with_reducible exact Below.refl _ _)|(with_reducible assumption)|(with_reducible refine Zra ?_ _)|(with_reducible refine Below.drew ?_)|(with_reducible refine Below.alloc ?_ ?_ _)|(with_reducible refine Below.setCell ?_ ?_ _)|(with_reducible refine Below.then_ ?_ (by assumption) ?_)|go_size))
 rintro e w1 ⟨rfl,hb1⟩
 obtain ⟨hc1,hf1⟩:=Zrp hb1
 have hz1:=hb1.size
 repeat (first|rw[World.size_alloc] at hz1|rw[World.size_setCell] at hz1)
 have l1_0:w.heap.size<w1.heap.size:=by omega
 have l1_1:w.heap.size+1<w1.heap.size:=by omega
 go_wp2
 go_ret
 exact ⟨rfl,by (repeat' (first|(with_reducible exact Below.refl _ _)|(with_reducible assumption)|(with_reducible refine Zra ?_ _)|(with_reducible refine Below.drew ?_)|(with_reducible refine Below.alloc ?_ ?_ _)|(with_reducible refine Below.setCell ?_ ?_ _)|(with_reducible refine Below.then_ ?_ (by assumption) ?_)|go_size))⟩
def wtSig (x:Sig):Nat:=(x.name).length
set_option maxHeartbeats 1000000 in
theorem szSignal (x:Sig)  (left:Int) (w:World) (g0:(x.name).length≤9223372036854775807) (h0:0≤left) (h1:left≤1048576):
 Calls Try.prog 43 #[.agg #[.string ⟨(x.name).toArray⟩,.int .i64 x.kind],.int .i64 left] w fun e w'=>e=.returned (.int .i64 (Zrc (wtSig x) left))∧Below w.heap.size w w':=by
 show Calls _ _ _ _ fun e w'=>e=.returned (.int .i64 (Zrc ((x.name).length) left))∧_
 go_enter Try.func43,Try.ntmps43
 by_cases q1:left<((x.name).length:Nat)
 ·go_wp2
  go_ret
  exact ⟨Zrk (by unfold Zrc;rw[if_pos (by omega)]),by (repeat' (first|(with_reducible exact Below.refl _ _)|(with_reducible assumption)|(with_reducible refine Zra ?_ _)|(with_reducible refine Below.drew ?_)|(with_reducible refine Below.alloc ?_ ?_ _)|(with_reducible refine Below.setCell ?_ ?_ _)|(with_reducible refine Below.then_ ?_ (by assumption) ?_)|go_size))⟩
 ·skip
  go_wp2
  go_ret
  exact ⟨Zrk (by (unfold Zrc;rw[if_neg (by omega)])<;>omega),by (repeat' (first|(with_reducible exact Below.refl _ _)|(with_reducible assumption)|(with_reducible refine Zra ?_ _)|(with_reducible refine Below.drew ?_)|(with_reducible refine Below.alloc ?_ ?_ _)|(with_reducible refine Below.setCell ?_ ?_ _)|(with_reducible refine Below.then_ ?_ (by assumption) ?_)|go_size))⟩
set_option maxHeartbeats 1000000 in
theorem toSignal (x:Sig)  (w:World) (g0:(x.name).length≤9223372036854775807) (hs:wtSig x≤1048576):
 Calls Try.prog 45 #[.agg #[.string ⟨(x.name).toArray⟩,.int .i64 x.kind]] w fun e w'=>e=.returned (.agg #[.string ⟨(x.name).toArray⟩,.int .i64 x.kind])∧Below w.heap.size w w'∧Frz w w':=by
 unfold wtSig at hs
 go_enter Try.func45,Try.ntmps45
 go_wp2
 go_returns
 exact ⟨rfl,by (repeat' (first|(with_reducible exact Below.refl _ _)|(with_reducible assumption)|(with_reducible refine Zra ?_ _)|(with_reducible refine Below.drew ?_)|(with_reducible refine Below.alloc ?_ ?_ _)|(with_reducible refine Below.setCell ?_ ?_ _)|(with_reducible refine Below.then_ ?_ (by assumption) ?_)|go_size)),by (repeat' (first|(with_reducible exact Frz.refl _)|(with_reducible assumption)|(with_reducible refine Frz.drewN ?_ _)|(with_reducible refine Frz.drew ?_)|(with_reducible refine Frz.alloc ?_ _ _)|(with_reducible refine Frz.setCell ?_ _ _)|(with_reducible refine Frz.then_ ?_ (by assumption))))⟩
set_option maxHeartbeats 1000000 in
theorem eqSignal (x:Sig)   (w:World) (g0:(x.name).length≤9223372036854775807)  :
 Calls Try.prog 48 #[.agg #[.string ⟨(x.name).toArray⟩,.int .i64 x.kind],.agg #[.string ⟨(x.name).toArray⟩,.int .i64 x.kind]] w fun e w'=>e=.returned (.bool true)∧Below w.heap.size w w':=by
 go_enter Try.func48,Try.ntmps48
 go_wp2
 go_ret
 exact ⟨rfl,by (repeat' (first|(with_reducible exact Below.refl _ _)|(with_reducible assumption)|(with_reducible refine Zra ?_ _)|(with_reducible refine Below.drew ?_)|(with_reducible refine Below.alloc ?_ ?_ _)|(with_reducible refine Below.setCell ?_ ?_ _)|(with_reducible refine Below.then_ ?_ (by assumption) ?_)|go_size))⟩
set_option maxHeartbeats 1000000 in
theorem szSignalS (A:Option Addr) (c:Nat) (l:(List Sig)) (left:Int) (w:World) (hn:l.length≤9223372036854775807) (hr:RA Zrj w A l) (h0:0≤left) (h1:left≤1048576):
 Calls Try.prog 17 #[.slice A l.length c,.int .i64 left] w fun e w'=>e=.returned (.int .i64 (Zrc (wtL wtSig l) left))∧Below w.heap.size w w':=by
 by_cases h:left<l.length
 ·have hs:Zrc (wtL wtSig l) left= -1:=by unfold Zrc wtL;rw[if_pos (by omega)]
  have HS:=Zrb hs;clear hs
  go_enter Try.func17,Try.ntmps17
  go_wp2
  go_ret
  exact ⟨Zrk HS.out.symm,by (repeat' (first|(with_reducible exact Below.refl _ _)|(with_reducible assumption)|(with_reducible refine Zra ?_ _)|(with_reducible refine Below.drew ?_)|(with_reducible refine Below.alloc ?_ ?_ _)|(with_reducible refine Below.setCell ?_ ?_ _)|(with_reducible refine Below.then_ ?_ (by assumption) ?_)|go_size))⟩
 ·obtain ⟨R,hR⟩:∃R,Zrc (wtL wtSig l) left=R:=⟨_,rfl⟩
  have HR:=Zrb hR
  have HL:Hid (Zrc ((l.drop 0).map wtSig).sum (left - l.length)=R):=by show _=_;rw[←hR,wtL,ZtT h];rfl
  clear hR
  go_enter Try.func17,Try.ntmps17
  go_wp2
  go_loopw [5,1] (fun i L wr=>∃(k:Nat) (m:Int),k≤l.length∧i=.int .i64 k∧L=.int .i64 m∧0≤m∧m≤1048576∧Hid (Zrc ((l.drop k).map wtSig).sum m=R)∧Below w.heap.size w wr) (fun i _ _=>l.length - (intOf i).toNat)
  case atStart=>exact ⟨0,_,Nat.zero_le _,rfl,rfl,by omega,by omega,HL,by (repeat' (first|(with_reducible exact Below.refl _ _)|(with_reducible assumption)|(with_reducible refine Zra ?_ _)|(with_reducible refine Below.drew ?_)|(with_reducible refine Below.alloc ?_ ?_ _)|(with_reducible refine Below.setCell ?_ ?_ _)|(with_reducible refine Below.then_ ?_ (by assumption) ?_)|go_size))⟩
  case round=>
   obtain ⟨k,m,hk,rfl,rfl,hm0,hm1,hgo,hb⟩:=hrel
   have hsz:=hb.size
   by_cases hlt:k<l.length
   ·obtain ⟨x,hx⟩:=ZfX hlt
    obtain ⟨b,off,rfl,hbl,d0,d1,f0,f1⟩:=hr.Sig_at hb hx
    have Hd:=Zrb (ZtB hx)
    clear hx
    have hg1:=hgo.out
    rw[Hd.out,List.map_cons,List.sum_cons] at hg1
    have HG:=Zrb hg1;clear hg1
    go_wp2_with fail
    refine (szSignal x  m _ f0 hm0 hm1).mono ?_
    rintro e w1 ⟨rfl,hb1⟩
    have hb2:=hb.trans (hb1.mono hsz)
    by_cases hq:m<(wtSig x:Nat)
    ·rw[ZrZ hq]
     have HQ:=Zrb (ZtV (b:=((l.drop (k+1)).map wtSig).sum) hq)
     go_wp2
     go_ret
     exact ⟨Zrk (by rw[HR.out,←HG.out,←HQ.out]),by (repeat' (first|(with_reducible exact Below.refl _ _)|(with_reducible assumption)|(with_reducible refine Zra ?_ _)|(with_reducible refine Below.drew ?_)|(with_reducible refine Below.alloc ?_ ?_ _)|(with_reducible refine Below.setCell ?_ ?_ _)|(with_reducible refine Below.then_ ?_ (by assumption) ?_)|go_size))⟩
    ·rw[Zr6 hq]
     have HG2:Hid (Zrc ((l.drop (k+1)).map wtSig).sum (m - (wtSig x:Nat))=R):=by show _=_;rw[←HG.out];exact (ZtT hq).symm
     have hq1:(wtSig x:Int)≤m:=by omega
     have hq2:(0:Int)≤(wtSig x:Nat):=by omega
     go_wp2_with fail
     go_roundw
     case rel=>exact ⟨k+1,_,by omega,by go_num,rfl,by omega,by omega,HG2,by (repeat' (first|(with_reducible exact Below.refl _ _)|(with_reducible assumption)|(with_reducible refine Zra ?_ _)|(with_reducible refine Below.drew ?_)|(with_reducible refine Below.alloc ?_ ?_ _)|(with_reducible refine Below.setCell ?_ ?_ _)|(with_reducible refine Below.then_ ?_ (by assumption) ?_)|go_size))⟩
     case measure=>simp[intOf];omega
   ·have hg1:=hgo.out
    rw[Zt3 hlt] at hg1
    have HG:=Zrb hg1;clear hg1
    go_wp2
    go_ret
    exact ⟨Zrk (by rw[HR.out,←HG.out];unfold Zrc;simp;omega),by (repeat' (first|(with_reducible exact Below.refl _ _)|(with_reducible assumption)|(with_reducible refine Zra ?_ _)|(with_reducible refine Below.drew ?_)|(with_reducible refine Below.alloc ?_ ?_ _)|(with_reducible refine Below.setCell ?_ ?_ _)|(with_reducible refine Below.then_ ?_ (by assumption) ?_)|go_size))⟩
set_option maxHeartbeats 1000000 in
theorem toSignalS (A:Option Addr) (c:Nat) (l:(List Sig)) (w:World) (hs:wtL wtSig l≤1048576) (hr:RA Zrj w A l):
 Calls Try.prog 20 #[.slice A l.length c] w fun e w'=>∃A',e=.returned (.slice A' l.length l.length)∧RSl Zrj w' (ZsG w w') A' l∧Below w.heap.size w w'∧Frz w w':=by
 have hl:l.length≤1048576:=by unfold wtL at hs;omega
 obtain ⟨cells,hcs,hmk⟩:=ZtW (P:=Try.prog) (t:=35) (e:=76) (size:=2) (bytes:=24) Try.underlying35 (by kernel_rfl) l.length (by omega) (by decide)
 have HC:=Zrb hcs;clear hcs
 have HM:=Zrb hmk;clear hmk
 go_enter Try.func20,Try.ntmps20
 have hmk:=HM.out w
 go_wp2
 clear hmk
 go_loopw [4] (fun i wr=>∃k:Nat,k≤l.length∧i=.int .i64 k∧Hid (ZaP Zrj wr (ZtZ w.heap.size wr) w.heap.size 76 l.length k l)∧Below w.heap.size w wr∧Frz w wr) (fun i _=>l.length - (intOf i).toNat)
 case atStart=>exact ⟨0,Nat.zero_le _,rfl,ZaP.start HC.out,by (repeat' (first|(with_reducible exact Below.refl _ _)|(with_reducible assumption)|(with_reducible refine Zra ?_ _)|(with_reducible refine Below.drew ?_)|(with_reducible refine Below.alloc ?_ ?_ _)|(with_reducible refine Below.setCell ?_ ?_ _)|(with_reducible refine Below.then_ ?_ (by assumption) ?_)|go_size)),by (repeat' (first|(with_reducible exact Frz.refl _)|(with_reducible assumption)|(with_reducible refine Frz.drewN ?_ _)|(with_reducible refine Frz.drew ?_)|(with_reducible refine Frz.alloc ?_ _ _)|(with_reducible refine Frz.setCell ?_ _ _)|(with_reducible refine Frz.then_ ?_ (by assumption))))⟩
 case round=>
  obtain ⟨k,hk,rfl,hf,hb,hfz⟩:=hrel
  have hsz:=hb.size
  by_cases hlt:k<l.length
  ·obtain ⟨x,hx⟩:=ZfX hlt
   obtain ⟨b,off,rfl,hbl,d0,d1,f0,f1⟩:=hr.Sig_at hb hx
   have hwx:wtSig x≤1048576:=Nat.le_trans (Zub hx) hs
   have HX:=Zrb hx;clear hx
   have hgl:=hf.out.lt
   go_wp2_with fail
   refine (toSignal x  wr f0 hwx).mono ?_
   rintro e w1 ⟨rfl,hb1,fz1⟩
   have hf1:=hf.out.to hb1
   obtain ⟨⟨v0,p0⟩,z0⟩:=hf1.room hlt 0 (by decide)
   obtain ⟨⟨v1,p1⟩,z1⟩:=hf1.room hlt 1 (by decide)
   have HF:=Zrb hf1;clear hf1
   simp only[ZsR,Nat.add_zero] at p0 z0 p1 z1
   have hb2:=hb.trans (hb1.mono hsz)
   have hsz1:=hb1.size
   go_wp2_with fail
   go_roundw
   case rel=>exact ⟨k+1,by omega,by go_num,Zrb (HF.out.step [.string ⟨(x.name).toArray⟩,.int .i64 x.kind] HX.out (Zt5 f0 f1) (by simp[ZbC,ZsR])),by (repeat' (first|(with_reducible exact Below.refl _ _)|(with_reducible assumption)|(with_reducible refine Zra ?_ _)|(with_reducible refine Below.drew ?_)|(with_reducible refine Below.alloc ?_ ?_ _)|(with_reducible refine Below.setCell ?_ ?_ _)|(with_reducible refine Below.then_ ?_ (by assumption) ?_)|go_size)),by (repeat' (first|(with_reducible exact Frz.refl _)|(with_reducible assumption)|(with_reducible refine Frz.drewN ?_ _)|(with_reducible refine Frz.drew ?_)|(with_reducible refine Frz.alloc ?_ _ _)|(with_reducible refine Frz.setCell ?_ _ _)|(with_reducible refine Frz.then_ ?_ (by assumption))))⟩
   case measure=>simp[intOf];omega
  ·have:k=l.length:=by omega
   subst this
   go_wp2
   go_ret
   exact ⟨_,rfl,hf.out.finish,by (repeat' (first|(with_reducible exact Below.refl _ _)|(with_reducible assumption)|(with_reducible refine Zra ?_ _)|(with_reducible refine Below.drew ?_)|(with_reducible refine Below.alloc ?_ ?_ _)|(with_reducible refine Below.setCell ?_ ?_ _)|(with_reducible refine Below.then_ ?_ (by assumption) ?_)|go_size)),by (repeat' (first|(with_reducible exact Frz.refl _)|(with_reducible assumption)|(with_reducible refine Frz.drewN ?_ _)|(with_reducible refine Frz.drew ?_)|(with_reducible refine Frz.alloc ?_ _ _)|(with_reducible refine Frz.setCell ?_ _ _)|(with_reducible refine Frz.then_ ?_ (by assumption))))⟩
set_option maxHeartbeats 1000000 in
theorem eqSignalS (A A':Option Addr) (c c':Nat) (l:(List Sig)) (w:World) (hl:l.length≤9223372036854775807) (hr:RA Zrj w A l) (hr':RA Zrj w A' l):
 Calls Try.prog 23 #[.slice A l.length c,.slice A' l.length c'] w fun e w'=>e=.returned (.bool true)∧Below w.heap.size w w':=by
 go_enter Try.func23,Try.ntmps23
 go_wp2
 go_loopw [5] (fun i wr=>∃k:Nat,k≤l.length∧i=.int .i64 k∧Below w.heap.size w wr) (fun i _=>l.length - (intOf i).toNat)
 case atStart=>exact ⟨0,Nat.zero_le _,rfl,Below.refl _ _⟩
 case round=>
  obtain ⟨k,hk,rfl,hb⟩:=hrel
  have hsz:=hb.size
  by_cases hlt:k<l.length
  ·obtain ⟨x,hx⟩:=ZfX hlt
   obtain ⟨b,off,rfl,hbl,d0,d1,f0,f1⟩:=hr.Sig_at hb hx
   obtain ⟨b',off',rfl,hbl',d0',d1',f0',f1'⟩:=hr'.Sig_at hb hx
   have HX:=Zrb hx;clear hx
   go_wp2_with fail
   go_region_held3 (fun W=>W.cell? ⟨b,off+k * 2,none⟩=some (.string ⟨(x.name).toArray⟩)∧W.cell? ⟨b,off+k * 2+1,none⟩=some (.int .i64 x.kind)∧W.cell? ⟨b',off'+k * 2,none⟩=some (.string ⟨(x.name).toArray⟩)∧W.cell? ⟨b',off'+k * 2+1,none⟩=some (.int .i64 x.kind)) (first|exact ⟨d0,d1,d0',d1'⟩|exact ⟨(cell_later hb1 d0),(cell_later hb1 d1),(cell_later hb1 d0'),(cell_later hb1 d1')⟩) (first|(go_at_call 48;refine (eqSignal x   _ f0).mono ?_;rintro e w1 ⟨rfl,hb1⟩))
   have hb2:=hb.drew.trans (hb1.mono hsz)
   go_wp2_with fail
   go_roundw
   case rel=>exact ⟨k+1,by omega,by go_num,by (repeat' (first|(with_reducible exact Below.refl _ _)|(with_reducible assumption)|(with_reducible refine Zra ?_ _)|(with_reducible refine Below.drew ?_)|(with_reducible refine Below.alloc ?_ ?_ _)|(with_reducible refine Below.setCell ?_ ?_ _)|(with_reducible refine Below.then_ ?_ (by assumption) ?_)|go_size))⟩
   case measure=>simp[intOf];omega
  ·go_wp2
   go_ret
   exact ⟨rfl,by (repeat' (first|(with_reducible exact Below.refl _ _)|(with_reducible assumption)|(with_reducible refine Zra ?_ _)|(with_reducible refine Below.drew ?_)|(with_reducible refine Below.alloc ?_ ?_ _)|(with_reducible refine Below.setCell ?_ ?_ _)|(with_reducible refine Below.then_ ?_ (by assumption) ?_)|go_size))⟩
set_option maxHeartbeats 1000000 in
theorem toLabel (x:Lab)  (w:World)   :
 Calls Try.prog 46 #[.agg #[.int .i64 x.sig,.bool x.up]] w fun e w'=>e=.returned (.agg #[.int .i64 x.sig,.bool x.up])∧Below w.heap.size w w'∧Frz w w':=by
 go_enter Try.func46,Try.ntmps46
 go_wp2
 go_returns
 exact ⟨rfl,by (repeat' (first|(with_reducible exact Below.refl _ _)|(with_reducible assumption)|(with_reducible refine Zra ?_ _)|(with_reducible refine Below.drew ?_)|(with_reducible refine Below.alloc ?_ ?_ _)|(with_reducible refine Below.setCell ?_ ?_ _)|(with_reducible refine Below.then_ ?_ (by assumption) ?_)|go_size)),by (repeat' (first|(with_reducible exact Frz.refl _)|(with_reducible assumption)|(with_reducible refine Frz.drewN ?_ _)|(with_reducible refine Frz.drew ?_)|(with_reducible refine Frz.alloc ?_ _ _)|(with_reducible refine Frz.setCell ?_ _ _)|(with_reducible refine Frz.then_ ?_ (by assumption))))⟩
set_option maxHeartbeats 1000000 in
theorem eqLabel (x:Lab)   (w:World)   :
 Calls Try.prog 49 #[.agg #[.int .i64 x.sig,.bool x.up],.agg #[.int .i64 x.sig,.bool x.up]] w fun e w'=>e=.returned (.bool true)∧Below w.heap.size w w':=by
 go_enter Try.func49,Try.ntmps49
 go_wp2
 go_ret
 exact ⟨rfl,by (repeat' (first|(with_reducible exact Below.refl _ _)|(with_reducible assumption)|(with_reducible refine Zra ?_ _)|(with_reducible refine Below.drew ?_)|(with_reducible refine Below.alloc ?_ ?_ _)|(with_reducible refine Below.setCell ?_ ?_ _)|(with_reducible refine Below.then_ ?_ (by assumption) ?_)|go_size))⟩
set_option maxHeartbeats 400000 in
theorem szLabelS (A:Option Addr) (n c:Nat) (left:Int) (w:World) (hn:n≤9223372036854775807) (h0:0≤left) (h1:left≤1048576):
 Calls Try.prog 18 #[.slice A n c,.int .i64 left] w fun e w'=>e=.returned (.int .i64 (Zrc n left))∧w'=w:=by
 by_cases h:left<n
 ·go_enter Try.func18,Try.ntmps18
  go_wp2
  go_ret
  exact ⟨Zrk (by unfold Zrc;rw[if_pos (by omega)]),rfl⟩
 ·go_enter Try.func18,Try.ntmps18
  go_wp2
  go_ret
  exact ⟨Zrk (by unfold Zrc;rw[if_neg (by omega)]),rfl⟩
set_option maxHeartbeats 1000000 in
theorem toLabelS (A:Option Addr) (c:Nat) (l:(List Lab)) (w:World) (hs:l.length≤1048576) (hr:RA ZrG w A l):
 Calls Try.prog 21 #[.slice A l.length c] w fun e w'=>∃A',e=.returned (.slice A' l.length l.length)∧RSl ZrG w' (ZsG w w') A' l∧Below w.heap.size w w'∧Frz w w':=by
 have hl:=hs
 obtain ⟨cells,hcs,hmk⟩:=ZtW (P:=Try.prog) (t:=36) (e:=71) (size:=2) (bytes:=16) Try.underlying36 (by kernel_rfl) l.length (by omega) (by decide)
 have HC:=Zrb hcs;clear hcs
 have HM:=Zrb hmk;clear hmk
 go_enter Try.func21,Try.ntmps21
 have hmk:=HM.out w
 go_wp2
 clear hmk
 go_loopw [4] (fun i wr=>∃k:Nat,k≤l.length∧i=.int .i64 k∧Hid (ZaP ZrG wr (ZtZ w.heap.size wr) w.heap.size 71 l.length k l)∧Below w.heap.size w wr∧Frz w wr) (fun i _=>l.length - (intOf i).toNat)
 case atStart=>exact ⟨0,Nat.zero_le _,rfl,ZaP.start HC.out,by (repeat' (first|(with_reducible exact Below.refl _ _)|(with_reducible assumption)|(with_reducible refine Zra ?_ _)|(with_reducible refine Below.drew ?_)|(with_reducible refine Below.alloc ?_ ?_ _)|(with_reducible refine Below.setCell ?_ ?_ _)|(with_reducible refine Below.then_ ?_ (by assumption) ?_)|go_size)),by (repeat' (first|(with_reducible exact Frz.refl _)|(with_reducible assumption)|(with_reducible refine Frz.drewN ?_ _)|(with_reducible refine Frz.drew ?_)|(with_reducible refine Frz.alloc ?_ _ _)|(with_reducible refine Frz.setCell ?_ _ _)|(with_reducible refine Frz.then_ ?_ (by assumption))))⟩
 case round=>
  obtain ⟨k,hk,rfl,hf,hb,hfz⟩:=hrel
  have hsz:=hb.size
  by_cases hlt:k<l.length
  ·obtain ⟨x,hx⟩:=ZfX hlt
   obtain ⟨b,off,rfl,hbl,d0,d1,f0⟩:=hr.Lab_at hb hx
   have HX:=Zrb hx;clear hx
   have hgl:=hf.out.lt
   go_wp2_with fail
   refine (toLabel x  wr  ).mono ?_
   rintro e w1 ⟨rfl,hb1,fz1⟩
   have hf1:=hf.out.to hb1
   obtain ⟨⟨v0,p0⟩,z0⟩:=hf1.room hlt 0 (by decide)
   obtain ⟨⟨v1,p1⟩,z1⟩:=hf1.room hlt 1 (by decide)
   have HF:=Zrb hf1;clear hf1
   simp only[ZtM,Nat.add_zero] at p0 z0 p1 z1
   have hb2:=hb.trans (hb1.mono hsz)
   have hsz1:=hb1.size
   go_wp2_with fail
   go_roundw
   case rel=>exact ⟨k+1,by omega,by go_num,Zrb (HF.out.step [.int .i64 x.sig,.bool x.up] HX.out (Zuz f0) (by simp[ZbC,ZtM])),by (repeat' (first|(with_reducible exact Below.refl _ _)|(with_reducible assumption)|(with_reducible refine Zra ?_ _)|(with_reducible refine Below.drew ?_)|(with_reducible refine Below.alloc ?_ ?_ _)|(with_reducible refine Below.setCell ?_ ?_ _)|(with_reducible refine Below.then_ ?_ (by assumption) ?_)|go_size)),by (repeat' (first|(with_reducible exact Frz.refl _)|(with_reducible assumption)|(with_reducible refine Frz.drewN ?_ _)|(with_reducible refine Frz.drew ?_)|(with_reducible refine Frz.alloc ?_ _ _)|(with_reducible refine Frz.setCell ?_ _ _)|(with_reducible refine Frz.then_ ?_ (by assumption))))⟩
   case measure=>simp[intOf];omega
  ·have:k=l.length:=by omega
   subst this
   go_wp2
   go_ret
   exact ⟨_,rfl,hf.out.finish,by (repeat' (first|(with_reducible exact Below.refl _ _)|(with_reducible assumption)|(with_reducible refine Zra ?_ _)|(with_reducible refine Below.drew ?_)|(with_reducible refine Below.alloc ?_ ?_ _)|(with_reducible refine Below.setCell ?_ ?_ _)|(with_reducible refine Below.then_ ?_ (by assumption) ?_)|go_size)),by (repeat' (first|(with_reducible exact Frz.refl _)|(with_reducible assumption)|(with_reducible refine Frz.drewN ?_ _)|(with_reducible refine Frz.drew ?_)|(with_reducible refine Frz.alloc ?_ _ _)|(with_reducible refine Frz.setCell ?_ _ _)|(with_reducible refine Frz.then_ ?_ (by assumption))))⟩
set_option maxHeartbeats 1000000 in
theorem eqLabelS (A A':Option Addr) (c c':Nat) (l:(List Lab)) (w:World) (hl:l.length≤9223372036854775807) (hr:RA ZrG w A l) (hr':RA ZrG w A' l):
 Calls Try.prog 24 #[.slice A l.length c,.slice A' l.length c'] w fun e w'=>e=.returned (.bool true)∧Below w.heap.size w w':=by
 go_enter Try.func24,Try.ntmps24
 go_wp2
 go_loopw [5] (fun i wr=>∃k:Nat,k≤l.length∧i=.int .i64 k∧Below w.heap.size w wr) (fun i _=>l.length - (intOf i).toNat)
 case atStart=>exact ⟨0,Nat.zero_le _,rfl,Below.refl _ _⟩
 case round=>
  obtain ⟨k,hk,rfl,hb⟩:=hrel
  have hsz:=hb.size
  by_cases hlt:k<l.length
  ·obtain ⟨x,hx⟩:=ZfX hlt
   obtain ⟨b,off,rfl,hbl,d0,d1,f0⟩:=hr.Lab_at hb hx
   obtain ⟨b',off',rfl,hbl',d0',d1',f0'⟩:=hr'.Lab_at hb hx
   have HX:=Zrb hx;clear hx
   go_wp2_with fail
   go_region_held3 (fun W=>W.cell? ⟨b,off+k * 2,none⟩=some (.int .i64 x.sig)∧W.cell? ⟨b,off+k * 2+1,none⟩=some (.bool x.up)∧W.cell? ⟨b',off'+k * 2,none⟩=some (.int .i64 x.sig)∧W.cell? ⟨b',off'+k * 2+1,none⟩=some (.bool x.up)) (first|exact ⟨d0,d1,d0',d1'⟩|exact ⟨(cell_later hb1 d0),(cell_later hb1 d1),(cell_later hb1 d0'),(cell_later hb1 d1')⟩) (first|(go_at_call 49;refine (eqLabel x   _  ).mono ?_;rintro e w1 ⟨rfl,hb1⟩))
   have hb2:=hb.drew.trans (hb1.mono hsz)
   go_wp2_with fail
   go_roundw
   case rel=>exact ⟨k+1,by omega,by go_num,by (repeat' (first|(with_reducible exact Below.refl _ _)|(with_reducible assumption)|(with_reducible refine Zra ?_ _)|(with_reducible refine Below.drew ?_)|(with_reducible refine Below.alloc ?_ ?_ _)|(with_reducible refine Below.setCell ?_ ?_ _)|(with_reducible refine Below.then_ ?_ (by assumption) ?_)|go_size))⟩
   case measure=>simp[intOf];omega
  ·go_wp2
   go_ret
   exact ⟨rfl,by (repeat' (first|(with_reducible exact Below.refl _ _)|(with_reducible assumption)|(with_reducible refine Zra ?_ _)|(with_reducible refine Below.drew ?_)|(with_reducible refine Below.alloc ?_ ?_ _)|(with_reducible refine Below.setCell ?_ ?_ _)|(with_reducible refine Below.then_ ?_ (by assumption) ?_)|go_size))⟩
def wtSTG (x:STG):Nat:=(wtNet x.net)+(wtL wtSig x.signals)+(x.labels).length+(x.start).length
set_option maxHeartbeats 1000000 in
theorem szSTG (x:STG) (A_net_trans:Option Addr) (c_net_trans:Nat) (A_signals:Option Addr) (c_signals:Nat) (A_labels:Option Addr) (c_labels:Nat) (left:Int) (w:World) (g1:(x.net.trans).length≤c_net_trans) (g2:c_net_trans≤9223372036854775807) (g3:RA ZrX w A_net_trans x.net.trans) (g4:(x.signals).length≤c_signals) (g5:c_signals≤9223372036854775807) (g6:RA Zrj w A_signals x.signals) (g7:(x.labels).length≤c_labels) (g8:c_labels≤9223372036854775807) (g9:RA ZrG w A_labels x.labels) (g10:(x.start).length≤9223372036854775807) (h0:0≤left) (h1:left≤1048576):
 Calls Try.prog 5 #[.agg #[.int .i64 x.net.places,.slice A_net_trans (x.net.trans).length c_net_trans,.slice A_signals (x.signals).length c_signals,.slice A_labels (x.labels).length c_labels,.string ⟨(x.start).toArray⟩],.int .i64 left] w fun e w'=>e=.returned (.int .i64 (Zrc (wtSTG x) left))∧Below w.heap.size w w':=by
 show Calls _ _ _ _ fun e w'=>e=.returned (.int .i64 (Zrc ((wtNet x.net)+(wtL wtSig x.signals)+(x.labels).length+(x.start).length) left))∧_
 go_enter Try.func5,Try.ntmps5
 go_wp2_with fail
 refine (szNet x.net A_net_trans c_net_trans (left) _ (by omega) (by omega) (RA.to g3 ?hb) (by omega) (by omega)).mono ?_
 case hb=>(repeat' (first|(with_reducible exact Below.refl _ _)|(with_reducible assumption)|(with_reducible refine Zra ?_ _)|(with_reducible refine Below.drew ?_)|(with_reducible refine Below.alloc ?_ ?_ _)|(with_reducible refine Below.setCell ?_ ?_ _)|(with_reducible refine Below.then_ ?_ (by assumption) ?_)|go_size))
 rintro e w1 ⟨rfl,hb1⟩
 obtain ⟨hc1,hf1⟩:=Zrp hb1
 have hz1:=hb1.size
 repeat (first|rw[World.size_alloc] at hz1|rw[World.size_setCell] at hz1)
 have l1_0:w.heap.size<w1.heap.size:=by omega
 by_cases q1:left<((wtNet x.net):Nat)
 ·rw[ZrZ q1]
  go_wp2
  go_ret
  exact ⟨Zrk (by unfold Zrc;rw[if_pos (by omega)]),by (repeat' (first|(with_reducible exact Below.refl _ _)|(with_reducible assumption)|(with_reducible refine Zra ?_ _)|(with_reducible refine Below.drew ?_)|(with_reducible refine Below.alloc ?_ ?_ _)|(with_reducible refine Below.setCell ?_ ?_ _)|(with_reducible refine Below.then_ ?_ (by assumption) ?_)|go_size))⟩
 ·rw [Zr6 q1]
  go_wp2_with fail
  refine (szSignalS A_signals c_signals x.signals (left - ((wtNet x.net):Nat)) _ (by omega) (RA.to g6 ?hb) (by omega) (by omega)).mono ?_
  case hb=>(repeat' (first|(with_reducible exact Below.refl _ _)|(with_reducible assumption)|(with_reducible refine Zra ?_ _)|(with_reducible refine Below.drew ?_)|(with_reducible refine Below.alloc ?_ ?_ _)|(with_reducible refine Below.setCell ?_ ?_ _)|(with_reducible refine Below.then_ ?_ (by assumption) ?_)|go_size))
  rintro e w2 ⟨rfl,hb2⟩
  obtain ⟨hc2,hf2⟩:=Zrp hb2
  have hz2:=hb2.size
  repeat (first|rw[World.size_alloc] at hz2|rw[World.size_setCell] at hz2)
  have l2_0:w.heap.size<w2.heap.size:=by omega
  by_cases q2:left - ((wtNet x.net):Nat)<((wtL wtSig x.signals):Nat)
  ·rw[ZrZ q2]
   go_wp2
   go_ret
   exact ⟨Zrk (by unfold Zrc;rw[if_pos (by omega)]),by (repeat' (first|(with_reducible exact Below.refl _ _)|(with_reducible assumption)|(with_reducible refine Zra ?_ _)|(with_reducible refine Below.drew ?_)|(with_reducible refine Below.alloc ?_ ?_ _)|(with_reducible refine Below.setCell ?_ ?_ _)|(with_reducible refine Below.then_ ?_ (by assumption) ?_)|go_size))⟩
  ·rw [Zr6 q2]
   go_wp2_with fail
   refine (szLabelS A_labels (x.labels).length c_labels (left - ((wtNet x.net):Nat) - ((wtL wtSig x.signals):Nat)) _ (by omega) (by omega) (by omega)).mono ?_
   rintro e w3 ⟨rfl,rfl⟩
   by_cases q3:left - ((wtNet x.net):Nat) - ((wtL wtSig x.signals):Nat)<((x.labels).length:Nat)
   ·rw[ZrZ q3]
    go_wp2
    go_ret
    exact ⟨Zrk (by unfold Zrc;rw[if_pos (by omega)]),by (repeat' (first|(with_reducible exact Below.refl _ _)|(with_reducible assumption)|(with_reducible refine Zra ?_ _)|(with_reducible refine Below.drew ?_)|(with_reducible refine Below.alloc ?_ ?_ _)|(with_reducible refine Below.setCell ?_ ?_ _)|(with_reducible refine Below.then_ ?_ (by assumption) ?_)|go_size))⟩
   ·rw[Zr6 q3]
    by_cases q4:left - ((wtNet x.net):Nat) - ((wtL wtSig x.signals):Nat) - ((x.labels).length:Nat)<((x.start).length:Nat)
    ·go_wp2
     go_ret
     exact ⟨Zrk (by unfold Zrc;rw[if_pos (by omega)]),by (repeat' (first|(with_reducible exact Below.refl _ _)|(with_reducible assumption)|(with_reducible refine Zra ?_ _)|(with_reducible refine Below.drew ?_)|(with_reducible refine Below.alloc ?_ ?_ _)|(with_reducible refine Below.setCell ?_ ?_ _)|(with_reducible refine Below.then_ ?_ (by assumption) ?_)|go_size))⟩
    ·skip
     go_wp2
     go_ret
     exact ⟨Zrk (by (unfold Zrc;rw[if_neg (by omega)])<;>omega),by (repeat' (first|(with_reducible exact Below.refl _ _)|(with_reducible assumption)|(with_reducible refine Zra ?_ _)|(with_reducible refine Below.drew ?_)|(with_reducible refine Below.alloc ?_ ?_ _)|(with_reducible refine Below.setCell ?_ ?_ _)|(with_reducible refine Below.then_ ?_ (by assumption) ?_)|go_size))⟩
set_option maxHeartbeats 1000000 in
theorem toSTG (x:STG) (A_net_trans:Option Addr) (c_net_trans:Nat) (A_signals:Option Addr) (c_signals:Nat) (A_labels:Option Addr) (c_labels:Nat) (w:World) (g1:(x.net.trans).length≤c_net_trans) (g2:c_net_trans≤9223372036854775807) (g3:RA ZrX w A_net_trans x.net.trans) (g4:(x.signals).length≤c_signals) (g5:c_signals≤9223372036854775807) (g6:RA Zrj w A_signals x.signals) (g7:(x.labels).length≤c_labels) (g8:c_labels≤9223372036854775807) (g9:RA ZrG w A_labels x.labels) (g10:(x.start).length≤9223372036854775807) (hs:wtSTG x≤1048576):
 Calls Try.prog 7 #[.agg #[.int .i64 x.net.places,.slice A_net_trans (x.net.trans).length c_net_trans,.slice A_signals (x.signals).length c_signals,.slice A_labels (x.labels).length c_labels,.string ⟨(x.start).toArray⟩]] w fun e w'=>∃A_net_trans' A_signals' A_labels',e=.returned (.agg #[.int .i64 x.net.places,.slice A_net_trans' (x.net.trans).length (x.net.trans).length,.slice A_signals' (x.signals).length (x.signals).length,.slice A_labels' (x.labels).length (x.labels).length,.string ⟨(x.start).toArray⟩])∧RSl ZrX w' (ZsG w w') A_net_trans' x.net.trans∧RSl Zrj w' (ZsG w w') A_signals' x.signals∧RSl ZrG w' (ZsG w w') A_labels' x.labels∧Below w.heap.size w w'∧Frz w w':=by
 unfold wtSTG at hs
 go_enter Try.func7,Try.ntmps7
 go_wp2_with fail
 refine (toNet x.net A_net_trans c_net_trans _ (by omega) (by omega) (RA.to g3 ?hn1) (by omega)).mono ?_
 case hn1=>(repeat' (first|(with_reducible exact Below.refl _ _)|(with_reducible assumption)|(with_reducible refine Zra ?_ _)|(with_reducible refine Below.drew ?_)|(with_reducible refine Below.alloc ?_ ?_ _)|(with_reducible refine Below.setCell ?_ ?_ _)|(with_reducible refine Below.then_ ?_ (by assumption) ?_)|go_size))
 rintro e w1 ⟨A_net_trans',rfl,r1A_net_trans,hb1,fz1⟩
 obtain ⟨hc1,hf1⟩:=Zrp hb1
 have hz1:=hb1.size
 repeat (first|rw[World.size_alloc] at hz1|rw[World.size_setCell] at hz1)
 have l1_0:w.heap.size<w1.heap.size:=by omega
 have l1_1:w.heap.size+1<w1.heap.size:=by omega
 have l1_2:w.heap.size+1+1<w1.heap.size:=by omega
 go_wp2_with fail
 refine (toSignalS A_signals c_signals x.signals _ (by omega) (RA.to g6 ?hb)).mono ?_
 case hb=>(repeat' (first|(with_reducible exact Below.refl _ _)|(with_reducible assumption)|(with_reducible refine Zra ?_ _)|(with_reducible refine Below.drew ?_)|(with_reducible refine Below.alloc ?_ ?_ _)|(with_reducible refine Below.setCell ?_ ?_ _)|(with_reducible refine Below.then_ ?_ (by assumption) ?_)|go_size))
 rintro e w2 ⟨A_signals',rfl,r2,hb2,fz2⟩
 obtain ⟨hc2,hf2⟩:=Zrp hb2
 have hz2:=hb2.size
 repeat (first|rw[World.size_alloc] at hz2|rw[World.size_setCell] at hz2)
 have l2_0:w.heap.size<w2.heap.size:=by omega
 have l2_1:w.heap.size+1<w2.heap.size:=by omega
 have l2_2:w.heap.size+1+1<w2.heap.size:=by omega
 go_wp2_with fail
 refine (toLabelS A_labels c_labels x.labels _ (by omega) (RA.to g9 ?hb)).mono ?_
 case hb=>(repeat' (first|(with_reducible exact Below.refl _ _)|(with_reducible assumption)|(with_reducible refine Zra ?_ _)|(with_reducible refine Below.drew ?_)|(with_reducible refine Below.alloc ?_ ?_ _)|(with_reducible refine Below.setCell ?_ ?_ _)|(with_reducible refine Below.then_ ?_ (by assumption) ?_)|go_size))
 rintro e w3 ⟨A_labels',rfl,r3,hb3,fz3⟩
 obtain ⟨hc3,hf3⟩:=Zrp hb3
 have hz3:=hb3.size
 repeat (first|rw[World.size_alloc] at hz3|rw[World.size_setCell] at hz3)
 have l3_0:w.heap.size<w3.heap.size:=by omega
 have l3_1:w.heap.size+1<w3.heap.size:=by omega
 have l3_2:w.heap.size+1+1<w3.heap.size:=by omega
 go_wp2
 refine bodyPost_ret (v:=.agg #[.int .i64 x.net.places,.slice A_net_trans' (x.net.trans).length (x.net.trans).length,.slice A_signals' (x.signals).length (x.signals).length,.slice A_labels' (x.labels).length (x.labels).length,.string ⟨(x.start).toArray⟩]) ?_ rfl ?_
 ·simp[results,Try.results7,go_sem, *]
 exact ⟨_,_,_,rfl,(r1A_net_trans).keep (by (refine Agree.out ?_;repeat' (first|(with_reducible exact Agree.refl _ _)|(with_reducible refine Agree.drew ?_)|(with_reducible refine Agree.drewN ?_ _)|(with_reducible refine Agree.setCell ?_ ?_ _)|(with_reducible refine Agree.alloc ?_ ?_ _)|(with_reducible refine Agree.then_ ?_ (by assumption) ?_)|(intro b hb;obtain ⟨hb1,hb2⟩:=hb;(first|omega|((try simp at hb1);(try simp at hb2);(try simp);omega)))))) (by (intro b hb;obtain ⟨hb1,hb2⟩:=hb;exact ⟨by (first|omega|((try simp at hb1);(try simp at hb2);(try simp);omega)),by (first|omega|((try simp at hb1);(try simp at hb2);(try simp);omega))⟩)),(r2).keep (by (refine Agree.out ?_;repeat' (first|(with_reducible exact Agree.refl _ _)|(with_reducible refine Agree.drew ?_)|(with_reducible refine Agree.drewN ?_ _)|(with_reducible refine Agree.setCell ?_ ?_ _)|(with_reducible refine Agree.alloc ?_ ?_ _)|(with_reducible refine Agree.then_ ?_ (by assumption) ?_)|(intro b hb;obtain ⟨hb1,hb2⟩:=hb;(first|omega|((try simp at hb1);(try simp at hb2);(try simp);omega)))))) (by (intro b hb;obtain ⟨hb1,hb2⟩:=hb;exact ⟨by (first|omega|((try simp at hb1);(try simp at hb2);(try simp);omega)),by (first|omega|((try simp at hb1);(try simp at hb2);(try simp);omega))⟩)),(r3).keep (by (refine Agree.out ?_;repeat' (first|(with_reducible exact Agree.refl _ _)|(with_reducible refine Agree.drew ?_)|(with_reducible refine Agree.drewN ?_ _)|(with_reducible refine Agree.setCell ?_ ?_ _)|(with_reducible refine Agree.alloc ?_ ?_ _)|(with_reducible refine Agree.then_ ?_ (by assumption) ?_)|(intro b hb;obtain ⟨hb1,hb2⟩:=hb;(first|omega|((try simp at hb1);(try simp at hb2);(try simp);omega)))))) (by (intro b hb;obtain ⟨hb1,hb2⟩:=hb;exact ⟨by (first|omega|((try simp at hb1);(try simp at hb2);(try simp);omega)),by (first|omega|((try simp at hb1);(try simp at hb2);(try simp);omega))⟩)),by (repeat' (first|(with_reducible exact Below.refl _ _)|(with_reducible assumption)|(with_reducible refine Zra ?_ _)|(with_reducible refine Below.drew ?_)|(with_reducible refine Below.alloc ?_ ?_ _)|(with_reducible refine Below.setCell ?_ ?_ _)|(with_reducible refine Below.then_ ?_ (by assumption) ?_)|go_size)),by (repeat' (first|(with_reducible exact Frz.refl _)|(with_reducible assumption)|(with_reducible refine Frz.drewN ?_ _)|(with_reducible refine Frz.drew ?_)|(with_reducible refine Frz.alloc ?_ _ _)|(with_reducible refine Frz.setCell ?_ _ _)|(with_reducible refine Frz.then_ ?_ (by assumption))))⟩
set_option maxHeartbeats 1000000 in
theorem eqSTG (x:STG) (A_net_trans:Option Addr) (c_net_trans:Nat) (A_signals:Option Addr) (c_signals:Nat) (A_labels:Option Addr) (c_labels:Nat) (A_net_trans':Option Addr) (c_net_trans':Nat) (A_signals':Option Addr) (c_signals':Nat) (A_labels':Option Addr) (c_labels':Nat) (w:World) (g1:(x.net.trans).length≤c_net_trans) (g2:c_net_trans≤9223372036854775807) (g3:RA ZrX w A_net_trans x.net.trans) (g4:(x.signals).length≤c_signals) (g5:c_signals≤9223372036854775807) (g6:RA Zrj w A_signals x.signals) (g7:(x.labels).length≤c_labels) (g8:c_labels≤9223372036854775807) (g9:RA ZrG w A_labels x.labels) (g10:(x.start).length≤9223372036854775807) (g1':(x.net.trans).length≤c_net_trans') (g2':c_net_trans'≤9223372036854775807) (g3':RA ZrX w A_net_trans' x.net.trans) (g4':(x.signals).length≤c_signals') (g5':c_signals'≤9223372036854775807) (g6':RA Zrj w A_signals' x.signals) (g7':(x.labels).length≤c_labels') (g8':c_labels'≤9223372036854775807) (g9':RA ZrG w A_labels' x.labels):
 Calls Try.prog 9 #[.agg #[.int .i64 x.net.places,.slice A_net_trans (x.net.trans).length c_net_trans,.slice A_signals (x.signals).length c_signals,.slice A_labels (x.labels).length c_labels,.string ⟨(x.start).toArray⟩],.agg #[.int .i64 x.net.places,.slice A_net_trans' (x.net.trans).length c_net_trans',.slice A_signals' (x.signals).length c_signals',.slice A_labels' (x.labels).length c_labels',.string ⟨(x.start).toArray⟩]] w fun e w'=>e=.returned (.bool true)∧Below w.heap.size w w':=by
 go_enter Try.func9,Try.ntmps9
 go_wp2_with fail
 refine (eqNet x.net A_net_trans c_net_trans A_net_trans' c_net_trans' _ (by omega) (by omega) (RA.to g3 ?_) (by omega) (by omega) (RA.to g3' ?_)).mono ?_
 any_goals ((repeat' (first|(with_reducible exact Below.refl _ _)|(with_reducible assumption)|(with_reducible refine Zra ?_ _)|(with_reducible refine Below.drew ?_)|(with_reducible refine Below.alloc ?_ ?_ _)|(with_reducible refine Below.setCell ?_ ?_ _)|(with_reducible refine Below.then_ ?_ (by assumption) ?_)|go_size));done)
 rintro e w1 ⟨rfl,hb1⟩
 obtain ⟨hc1,hf1⟩:=Zrp hb1
 have hz1:=hb1.size
 repeat (first|rw[World.size_alloc] at hz1|rw[World.size_setCell] at hz1)
 have l1_0:w.heap.size<w1.heap.size:=by omega
 have l1_1:w.heap.size+1<w1.heap.size:=by omega
 go_wp2_with fail
 refine (eqSignalS A_signals A_signals' c_signals c_signals' x.signals _ (by omega) (RA.to g6 ?hb) (RA.to g6' ?hb2)).mono ?_
 case hb=>(repeat' (first|(with_reducible exact Below.refl _ _)|(with_reducible assumption)|(with_reducible refine Zra ?_ _)|(with_reducible refine Below.drew ?_)|(with_reducible refine Below.alloc ?_ ?_ _)|(with_reducible refine Below.setCell ?_ ?_ _)|(with_reducible refine Below.then_ ?_ (by assumption) ?_)|go_size))
 case hb2=>(repeat' (first|(with_reducible exact Below.refl _ _)|(with_reducible assumption)|(with_reducible refine Zra ?_ _)|(with_reducible refine Below.drew ?_)|(with_reducible refine Below.alloc ?_ ?_ _)|(with_reducible refine Below.setCell ?_ ?_ _)|(with_reducible refine Below.then_ ?_ (by assumption) ?_)|go_size))
 rintro e w2 ⟨rfl,hb2⟩
 obtain ⟨hc2,hf2⟩:=Zrp hb2
 have hz2:=hb2.size
 repeat (first|rw[World.size_alloc] at hz2|rw[World.size_setCell] at hz2)
 have l2_0:w.heap.size<w2.heap.size:=by omega
 have l2_1:w.heap.size+1<w2.heap.size:=by omega
 go_wp2_with fail
 refine (eqLabelS A_labels A_labels' c_labels c_labels' x.labels _ (by omega) (RA.to g9 ?hb) (RA.to g9' ?hb2)).mono ?_
 case hb=>(repeat' (first|(with_reducible exact Below.refl _ _)|(with_reducible assumption)|(with_reducible refine Zra ?_ _)|(with_reducible refine Below.drew ?_)|(with_reducible refine Below.alloc ?_ ?_ _)|(with_reducible refine Below.setCell ?_ ?_ _)|(with_reducible refine Below.then_ ?_ (by assumption) ?_)|go_size))
 case hb2=>(repeat' (first|(with_reducible exact Below.refl _ _)|(with_reducible assumption)|(with_reducible refine Zra ?_ _)|(with_reducible refine Below.drew ?_)|(with_reducible refine Below.alloc ?_ ?_ _)|(with_reducible refine Below.setCell ?_ ?_ _)|(with_reducible refine Below.then_ ?_ (by assumption) ?_)|go_size))
 rintro e w3 ⟨rfl,hb3⟩
 obtain ⟨hc3,hf3⟩:=Zrp hb3
 have hz3:=hb3.size
 repeat (first|rw[World.size_alloc] at hz3|rw[World.size_setCell] at hz3)
 have l3_0:w.heap.size<w3.heap.size:=by omega
 have l3_1:w.heap.size+1<w3.heap.size:=by omega
 go_wp2
 go_ret
 exact ⟨rfl,by (repeat' (first|(with_reducible exact Below.refl _ _)|(with_reducible assumption)|(with_reducible refine Zra ?_ _)|(with_reducible refine Below.drew ?_)|(with_reducible refine Below.alloc ?_ ?_ _)|(with_reducible refine Below.setCell ?_ ?_ _)|(with_reducible refine Below.then_ ?_ (by assumption) ?_)|go_size))⟩
set_option maxHeartbeats 1000000 in
theorem eqStringS (A A':Option Addr) (c c':Nat) (l:(List (List UInt8))) (w:World) (hl:l.length≤9223372036854775807) (hr:RA Zjr w A l) (hr':RA Zjr w A' l):
 Calls Try.prog 32 #[.slice A l.length c,.slice A' l.length c'] w fun e w'=>e=.returned (.bool true)∧Below w.heap.size w w':=by
 go_enter Try.func32,Try.ntmps32
 go_wp2
 go_loopw [5] (fun i wr=>∃k:Nat,k≤l.length∧i=.int .i64 k∧Below w.heap.size w wr) (fun i _=>l.length - (intOf i).toNat)
 case atStart=>exact ⟨0,Nat.zero_le _,rfl,Below.refl _ _⟩
 case round=>
  obtain ⟨k,hk,rfl,hb⟩:=hrel
  have hsz:=hb.size
  by_cases hlt:k<l.length
  ·obtain ⟨x,hx⟩:=ZfX hlt
   obtain ⟨b,off,rfl,hbl,d0,f0⟩:=hr.str_at hb hx
   obtain ⟨b',off',rfl,hbl',d0',f0'⟩:=hr'.str_at hb hx
   have HX:=Zrb hx;clear hx
   go_wp2_with fail
   go_quiet (fail)
   go_wp2_with fail
   go_roundw
   case rel=>exact ⟨k+1,by omega,by go_num,by (repeat' (first|(with_reducible exact Below.refl _ _)|(with_reducible assumption)|(with_reducible refine Zra ?_ _)|(with_reducible refine Below.drew ?_)|(with_reducible refine Below.alloc ?_ ?_ _)|(with_reducible refine Below.setCell ?_ ?_ _)|(with_reducible refine Below.then_ ?_ (by assumption) ?_)|go_size))⟩
   case measure=>simp[intOf];omega
  ·go_wp2
   go_ret
   exact ⟨rfl,by (repeat' (first|(with_reducible exact Below.refl _ _)|(with_reducible assumption)|(with_reducible refine Zra ?_ _)|(with_reducible refine Below.drew ?_)|(with_reducible refine Below.alloc ?_ ?_ _)|(with_reducible refine Below.setCell ?_ ?_ _)|(with_reducible refine Below.then_ ?_ (by assumption) ?_)|go_size))⟩
set_option maxHeartbeats 1000000 in
theorem eqArc (x:Ac)   (w:World)   :
 Calls Try.prog 57 #[.agg #[.int .i64 x.from_,.int .i64 x.sig,.bool x.up,.int .i64 x.to_],.agg #[.int .i64 x.from_,.int .i64 x.sig,.bool x.up,.int .i64 x.to_]] w fun e w'=>e=.returned (.bool true)∧Below w.heap.size w w':=by
 go_enter Try.func57,Try.ntmps57
 go_wp2
 go_ret
 exact ⟨rfl,by (repeat' (first|(with_reducible exact Below.refl _ _)|(with_reducible assumption)|(with_reducible refine Zra ?_ _)|(with_reducible refine Below.drew ?_)|(with_reducible refine Below.alloc ?_ ?_ _)|(with_reducible refine Below.setCell ?_ ?_ _)|(with_reducible refine Below.then_ ?_ (by assumption) ?_)|go_size))⟩
set_option maxHeartbeats 1000000 in
theorem eqArcS (A A':Option Addr) (c c':Nat) (l:(List Ac)) (w:World) (hl:l.length≤9223372036854775807) (hr:RA Zts w A l) (hr':RA Zts w A' l):
 Calls Try.prog 33 #[.slice A l.length c,.slice A' l.length c'] w fun e w'=>e=.returned (.bool true)∧Below w.heap.size w w':=by
 go_enter Try.func33,Try.ntmps33
 go_wp2
 go_loopw [5] (fun i wr=>∃k:Nat,k≤l.length∧i=.int .i64 k∧Below w.heap.size w wr) (fun i _=>l.length - (intOf i).toNat)
 case atStart=>exact ⟨0,Nat.zero_le _,rfl,Below.refl _ _⟩
 case round=>
  obtain ⟨k,hk,rfl,hb⟩:=hrel
  have hsz:=hb.size
  by_cases hlt:k<l.length
  ·obtain ⟨x,hx⟩:=ZfX hlt
   obtain ⟨b,off,rfl,hbl,d0,d1,d2,d3,f0,f1,f2⟩:=hr.Ac_at hb hx
   obtain ⟨b',off',rfl,hbl',d0',d1',d2',d3',f0',f1',f2'⟩:=hr'.Ac_at hb hx
   have HX:=Zrb hx;clear hx
   go_wp2_with fail
   go_region_held3 (fun W=>W.cell? ⟨b,off+k * 4,none⟩=some (.int .i64 x.from_)∧W.cell? ⟨b,off+k * 4+1,none⟩=some (.int .i64 x.sig)∧W.cell? ⟨b,off+k * 4+2,none⟩=some (.bool x.up)∧W.cell? ⟨b,off+k * 4+3,none⟩=some (.int .i64 x.to_)∧W.cell? ⟨b',off'+k * 4,none⟩=some (.int .i64 x.from_)∧W.cell? ⟨b',off'+k * 4+1,none⟩=some (.int .i64 x.sig)∧W.cell? ⟨b',off'+k * 4+2,none⟩=some (.bool x.up)∧W.cell? ⟨b',off'+k * 4+3,none⟩=some (.int .i64 x.to_)) (first|exact ⟨d0,d1,d2,d3,d0',d1',d2',d3'⟩|exact ⟨(cell_later hb1 d0),(cell_later hb1 d1),(cell_later hb1 d2),(cell_later hb1 d3),(cell_later hb1 d0'),(cell_later hb1 d1'),(cell_later hb1 d2'),(cell_later hb1 d3')⟩) (first|(go_at_call 57;refine (eqArc x   _  ).mono ?_;rintro e w1 ⟨rfl,hb1⟩))
   have hb2:=hb.drew.trans (hb1.mono hsz)
   go_wp2_with fail
   go_roundw
   case rel=>exact ⟨k+1,by omega,by go_num,by (repeat' (first|(with_reducible exact Below.refl _ _)|(with_reducible assumption)|(with_reducible refine Zra ?_ _)|(with_reducible refine Below.drew ?_)|(with_reducible refine Below.alloc ?_ ?_ _)|(with_reducible refine Below.setCell ?_ ?_ _)|(with_reducible refine Below.then_ ?_ (by assumption) ?_)|go_size))⟩
   case measure=>simp[intOf];omega
  ·go_wp2
   go_ret
   exact ⟨rfl,by (repeat' (first|(with_reducible exact Below.refl _ _)|(with_reducible assumption)|(with_reducible refine Zra ?_ _)|(with_reducible refine Below.drew ?_)|(with_reducible refine Below.alloc ?_ ?_ _)|(with_reducible refine Below.setCell ?_ ?_ _)|(with_reducible refine Below.then_ ?_ (by assumption) ?_)|go_size))⟩
set_option maxHeartbeats 1000000 in
theorem eqStateGraph (x:SGr) (A_signals:Option Addr) (c_signals:Nat) (A_codes:Option Addr) (c_codes:Nat) (A_arcs:Option Addr) (c_arcs:Nat) (A_signals':Option Addr) (c_signals':Nat) (A_codes':Option Addr) (c_codes':Nat) (A_arcs':Option Addr) (c_arcs':Nat) (w:World) (g0:(x.signals).length≤c_signals) (g1:c_signals≤9223372036854775807) (g2:RA Zrj w A_signals x.signals) (g3:(x.codes).length≤c_codes) (g4:c_codes≤9223372036854775807) (g5:RA Zjr w A_codes x.codes) (g6:(x.arcs).length≤c_arcs) (g7:c_arcs≤9223372036854775807) (g8:RA Zts w A_arcs x.arcs) (g0':(x.signals).length≤c_signals') (g1':c_signals'≤9223372036854775807) (g2':RA Zrj w A_signals' x.signals) (g3':(x.codes).length≤c_codes') (g4':c_codes'≤9223372036854775807) (g5':RA Zjr w A_codes' x.codes) (g6':(x.arcs).length≤c_arcs') (g7':c_arcs'≤9223372036854775807) (g8':RA Zts w A_arcs' x.arcs):
 Calls Try.prog 12 #[.agg #[.slice A_signals (x.signals).length c_signals,.slice A_codes (x.codes).length c_codes,.slice A_arcs (x.arcs).length c_arcs],.agg #[.slice A_signals' (x.signals).length c_signals',.slice A_codes' (x.codes).length c_codes',.slice A_arcs' (x.arcs).length c_arcs']] w fun e w'=>e=.returned (.bool true)∧Below w.heap.size w w':=by
 go_enter Try.func12,Try.ntmps12
 go_wp2_with fail
 refine (eqSignalS A_signals A_signals' c_signals c_signals' x.signals _ (by omega) (RA.to g2 ?hb) (RA.to g2' ?hb2)).mono ?_
 case hb=>(repeat' (first|(with_reducible exact Below.refl _ _)|(with_reducible assumption)|(with_reducible refine Zra ?_ _)|(with_reducible refine Below.drew ?_)|(with_reducible refine Below.alloc ?_ ?_ _)|(with_reducible refine Below.setCell ?_ ?_ _)|(with_reducible refine Below.then_ ?_ (by assumption) ?_)|go_size))
 case hb2=>(repeat' (first|(with_reducible exact Below.refl _ _)|(with_reducible assumption)|(with_reducible refine Zra ?_ _)|(with_reducible refine Below.drew ?_)|(with_reducible refine Below.alloc ?_ ?_ _)|(with_reducible refine Below.setCell ?_ ?_ _)|(with_reducible refine Below.then_ ?_ (by assumption) ?_)|go_size))
 rintro e w1 ⟨rfl,hb1⟩
 obtain ⟨hc1,hf1⟩:=Zrp hb1
 have hz1:=hb1.size
 repeat (first|rw[World.size_alloc] at hz1|rw[World.size_setCell] at hz1)
 have l1_0:w.heap.size<w1.heap.size:=by omega
 have l1_1:w.heap.size+1<w1.heap.size:=by omega
 go_wp2_with fail
 refine (eqStringS A_codes A_codes' c_codes c_codes' x.codes _ (by omega) (RA.to g5 ?hb) (RA.to g5' ?hb2)).mono ?_
 case hb=>(repeat' (first|(with_reducible exact Below.refl _ _)|(with_reducible assumption)|(with_reducible refine Zra ?_ _)|(with_reducible refine Below.drew ?_)|(with_reducible refine Below.alloc ?_ ?_ _)|(with_reducible refine Below.setCell ?_ ?_ _)|(with_reducible refine Below.then_ ?_ (by assumption) ?_)|go_size))
 case hb2=>(repeat' (first|(with_reducible exact Below.refl _ _)|(with_reducible assumption)|(with_reducible refine Zra ?_ _)|(with_reducible refine Below.drew ?_)|(with_reducible refine Below.alloc ?_ ?_ _)|(with_reducible refine Below.setCell ?_ ?_ _)|(with_reducible refine Below.then_ ?_ (by assumption) ?_)|go_size))
 rintro e w2 ⟨rfl,hb2⟩
 obtain ⟨hc2,hf2⟩:=Zrp hb2
 have hz2:=hb2.size
 repeat (first|rw[World.size_alloc] at hz2|rw[World.size_setCell] at hz2)
 have l2_0:w.heap.size<w2.heap.size:=by omega
 have l2_1:w.heap.size+1<w2.heap.size:=by omega
 go_wp2_with fail
 refine (eqArcS A_arcs A_arcs' c_arcs c_arcs' x.arcs _ (by omega) (RA.to g8 ?hb) (RA.to g8' ?hb2)).mono ?_
 case hb=>(repeat' (first|(with_reducible exact Below.refl _ _)|(with_reducible assumption)|(with_reducible refine Zra ?_ _)|(with_reducible refine Below.drew ?_)|(with_reducible refine Below.alloc ?_ ?_ _)|(with_reducible refine Below.setCell ?_ ?_ _)|(with_reducible refine Below.then_ ?_ (by assumption) ?_)|go_size))
 case hb2=>(repeat' (first|(with_reducible exact Below.refl _ _)|(with_reducible assumption)|(with_reducible refine Zra ?_ _)|(with_reducible refine Below.drew ?_)|(with_reducible refine Below.alloc ?_ ?_ _)|(with_reducible refine Below.setCell ?_ ?_ _)|(with_reducible refine Below.then_ ?_ (by assumption) ?_)|go_size))
 rintro e w3 ⟨rfl,hb3⟩
 obtain ⟨hc3,hf3⟩:=Zrp hb3
 have hz3:=hb3.size
 repeat (first|rw[World.size_alloc] at hz3|rw[World.size_setCell] at hz3)
 have l3_0:w.heap.size<w3.heap.size:=by omega
 have l3_1:w.heap.size+1<w3.heap.size:=by omega
 go_wp2
 go_ret
 exact ⟨rfl,by (repeat' (first|(with_reducible exact Below.refl _ _)|(with_reducible assumption)|(with_reducible refine Zra ?_ _)|(with_reducible refine Below.drew ?_)|(with_reducible refine Below.alloc ?_ ?_ _)|(with_reducible refine Below.setCell ?_ ?_ _)|(with_reducible refine Below.then_ ?_ (by assumption) ?_)|go_size))⟩
end Go.Proofs.Ythobodfbjjjiiaa.Lw
