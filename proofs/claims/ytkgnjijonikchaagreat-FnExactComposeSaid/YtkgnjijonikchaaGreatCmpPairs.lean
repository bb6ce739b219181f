import Derived.Test.YtkgnjijonikchaaGreatRows
import Derived.Test.YtkgnjijonikchaaGreatBase
import Derived.Test.YtkgnjijonikchaaGreatIpk
namespace Go.Proofs.YtkgnjijonikchaaGreat
open Go.RowKit Go.Sort
set_option linter.unusedVariables false
set_option linter.unusedSimpArgs false
abbrev ZnM :={p:Int×List UInt8 // 0≤p.1∧p.1≤4611686018427387904}
instance : Inhabited ZnM:=⟨⟨(0,[]),by decide⟩⟩
def cmP (x y:ZnM):Int:=if x.1.1=y.1.1 then (if Op.bytesLess x.1.2 y.1.2=true then -1 else if (Op.bytesLess x.1.2 y.1.2||x.1.2==y.1.2)=true then 0 else 1) else x.1.1 - y.1.1
def encP (x:ZnM):List Value:=[.int .i64 x.1.1,.string ⟨x.1.2.toArray⟩]
theorem ZtX (w:World) (a b:Obj):(w.alloc a).alloc b=grow w #[a,b]:=by rw[alloc_eq_grow,alloc_eq_grow,grow_grow];rfl
set_option maxHeartbeats 1000000 in
theorem ZmY (x y:ZnM) (w:World):
 Calls Tryz.prog 36 #[.agg (encP x).toArray,.agg (encP y).toArray] w fun e w'=>e=.returned (.int .i64 (cmP x y))∧∃q os',w'=grow (w.drewN q) os':=by
 obtain ⟨⟨a,s⟩,ha,hb⟩:=x
 obtain ⟨⟨b,t⟩,hc,hd⟩:=y
 simp only[encP]
 dsimp only at ha hb hc hd
 by_cases h1:a=b
 ·subst h1
  cases h2:Op.bytesLess s t
  ·cases h3:(s==t)
   ·have hcf:cmP ⟨(a,s),ha,hb⟩ ⟨(a,t),hc,hd⟩=1:=by simp[cmP,h2,h3]
    rw[hcf]
    go_enter Tryz.func36,Tryz.ntmps36
    go_wp2_with fail
    go_ret
    exact ⟨rfl,0,_,ZtX _ _ _⟩
   ·have hcf:cmP ⟨(a,s),ha,hb⟩ ⟨(a,t),hc,hd⟩=0:=by simp[cmP,h2,h3]
    rw[hcf]
    go_enter Tryz.func36,Tryz.ntmps36
    go_wp2_with fail
    go_ret
    exact ⟨rfl,0,_,ZtX _ _ _⟩
  ·have hcf:cmP ⟨(a,s),ha,hb⟩ ⟨(a,t),hc,hd⟩= -1:=by simp[cmP,h2]
   rw[hcf]
   go_enter Tryz.func36,Tryz.ntmps36
   go_wp2_with fail
   go_ret
   exact ⟨rfl,0,_,ZtX _ _ _⟩
 ·have hcf:cmP ⟨(a,s),ha,hb⟩ ⟨(b,t),hc,hd⟩=a - b:=by simp[cmP,h1]
  have hw:IntKind.i64.wrap (a - b)=a - b:=by rw[IntKind.wrap_i64];omega
  have q1:decide (a=b)=false:=by simp[h1]
  rw[hcf]
  go_enter Tryz.func36,Tryz.ntmps36
  go_wp2_with fail
  go_ret
  exact ⟨rfl,0,_,ZtX _ _ _⟩
def fSP (x:ZnM):PV:=.agg [.int .i64 x.1.1,.str x.1.2]
theorem kcP :KCell encP 2 fSP:=⟨fun {w F x u} h=>by
 unfold fSP at h
 cases h with
 | agg l cs h1 h2 h3=>
  obtain ⟨cs⟩:=cs
  match cs,h1 with
  | [a,b],_=>
   have e1:=h3 0 _ rfl
   have e2:=h3 1 _ rfl
   have e1:=e1.int_eq
   have e2:=e2.str_eq
   simp only[Array.getD_eq_getD_getElem?,List.getElem?_toArray,List.getElem?_cons_zero,List.getElem?_cons_succ,Option.getD_some] at e1 e2
   rw[e1,e2]
   rfl,fun w F x=>.agg _ _ rfl (fun i y hy=>by
 match i with
 |0=>cases hy;rfl
 |1=>cases hy;rfl
 |n+2=>simp at hy) fun i y hy=>by
 match i with
 |0=>cases hy;exact .int _ _
 |1=>cases hy;exact .str _
 |n+2=>simp at hy,fun _=>rfl,fun x v hv=>by
 simp only[encP,List.mem_cons,List.not_mem_nil,or_false] at hv
 rcases hv with rfl|rfl<;>rfl,fun _=>rfl,fun x h=>by cases h⟩
def prOf :List PV→Option (List ZnM)
 |[]=>some []
 |.agg [.int .i64 n,.str s]::r=>if h:0≤n∧n≤4611686018427387904 then (prOf r).map (⟨(n,s),h⟩::·) else none
 |_=>none
theorem ZtY :∀(l:List PV) (zs:List ZnM),prOf l=some zs→l=zs.map fSP
 |[],zs,h=>by cases h;rfl
 | x ::r,zs,h=>by
  unfold prOf at h
  split at h
  ·rename_i he;cases he
  ·rename_i n s r' he
   cases he
   split at h
   ·obtain ⟨ys,hy,rfl⟩:=Option.map_eq_some_iff.1 h
    rw[ZtY _ _ hy]
    rfl
   ·cases h
  ·cases h
theorem blt :∀(x y:List UInt8),Op.bytesLess x y=decide (x<y)
 |[],[]=>by simp[Op.bytesLess]
 |_::_,[]=>by simp[Op.bytesLess]
 |[],_::_=>by simp[Op.bytesLess]
 | a::x,b::y=>by
  unfold Op.bytesLess
  rw[blt x y]
  simp only[List.cons_lt_cons_iff]
  by_cases h1:a<b<;>by_cases h2:a=b<;>by_cases h3:x<y<;>simp[h1,h2,h3]
theorem ZtZ (x y:ZnM):ltOf cmP x y=true↔x.1.1<y.1.1∨(x.1.1=y.1.1∧x.1.2<y.1.2):=by
 unfold ltOf cmP
 rw[blt,decide_eq_true_eq]
 by_cases h1:x.1.1=y.1.1
 ·rw[if_pos h1]
  by_cases h2:x.1.2<y.1.2
  ·simp[h1,h2]
  ·simp only[h2,decide_false,Bool.false_eq_true,if_false,Bool.false_or]
   split<;>simp[h1,h2]
 ·rw[if_neg h1]
  simp only[h1,false_and,or_false]
  omega
theorem Zwr (x y:ZnM):ltOf cmP x y=false↔y.1.1<x.1.1∨(x.1.1=y.1.1∧¬x.1.2<y.1.2):=by
 rw[←Bool.not_eq_true,ZtZ]
 by_cases h1:x.1.1=y.1.1
 ·simp[h1]
 ·simp only[h1,false_and,or_false];omega
theorem swoP :SWO (ltOf cmP) where
 irrefl x:=by rw[Zwr];exact .inr ⟨rfl,List.lt_irrefl _⟩
 trans x y z h1 h2:=by
  rw[ZtZ] at *
  rcases h1 with h1|⟨h1,h3⟩<;>rcases h2 with h2|⟨h2,h4⟩
  ·left;omega
  ·left;omega
  ·left;omega
  ·exact .inr ⟨by omega,List.lt_trans h3 h4⟩
 ntrans x y z h1 h2:=by
  rw[Zwr] at *
  rcases h1 with h1|⟨h1,h3⟩<;>rcases h2 with h2|⟨h2,h4⟩
  ·left;omega
  ·left;omega
  ·left;omega
  ·exact .inr ⟨by omega,fun h=>by
    have h5:=List.not_lt.1 h3
    have h6:=List.not_lt.1 h4
    exact absurd h (List.not_lt.2 (List.le_trans h6 h5))⟩
theorem totP (x y:ZnM) (h1:ltOf cmP x y=false) (h2:ltOf cmP y x=false):x=y:=by
 rw[Zwr] at h1 h2
 rcases h1 with h1|⟨h1,h3⟩<;>rcases h2 with h2|⟨h2,h4⟩
 ·omega
 ·omega
 ·omega
 ·exact Subtype.ext (Prod.ext h1 (List.le_antisymm (List.not_lt.1 h4) (List.not_lt.1 h3)))
noncomputable def ZsS :List PV→Option PV
 |[.lst l]=>(prOf l).bind fun zs=>if zs.length≤4294967296 then some (.lst ((zs.mergeSort fun x y=> !(ltOf cmP) y x).map fSP)) else none
 |_=>none
theorem Zrn :∀xs r,ZsS xs=some r→∃l zs,xs=[.lst l]∧prOf l=some zs∧zs.length≤4294967296∧r=.lst ((zs.mergeSort fun x y=> !(ltOf cmP) y x).map fSP):=fun xs r h=>by
 unfold ZsS at h
 split at h
 ·obtain ⟨zs,h1,h⟩:=Option.bind_eq_some_iff.1 h
  split at h
  ·rename_i hl;cases h;exact ⟨_,zs,rfl,h1,hl,rfl⟩
  ·cases h
 ·cases h
end Go.Proofs.YtkgnjijonikchaaGreat
