import Derived.Test.YtkgnjijonikchaaGreatIr1
import Derived.Great.BuildSlice
import Derived.Laws.IdiomStrings
import Derived.Laws.MakeOwn
import Derived.Laws.Slices
import Derived.Laws.Small
import Derived.Laws.StructEq
import Derived.Lib.AppendZeros
namespace Go.Proofs.YtkgnjijonikchaaGreat
open Go.RowKit
set_option linter.unusedVariables false
set_option linter.unusedSimpArgs false
def ZaG (n:Nat) (x:PV):Bool:=(Zc n x).isSome
def appV (n:Nat) (s x:SV):DV→DV→Option PV:=fun ds dx=>
 (Zi s ds).bind fun ls=>(Zi x dx).bind fun lx=>if ls.length+lx.length≤4294967296∧lx.all (ZaG n)=true then some (.lst (ls++lx)) else none
def Zka {R:Type} (T:Tab) (d:Nat) (t t2:TypeId) (s x:SV):Option (Eff R):=
 match T.lookup t with
 |none=>none
 | some ti=>
  match ti.desc with
  | .slice e=>
   match T.lookup e with
   |none=>none
   | some te=>
    if t≠t2∨te.size=0∨32768<te.bytes∨(ZbH x).isSome=false then none else
    match s.k with
    |.ck .nil=>some {gh:=[],tgt:=d,put:=true,k:=.ck (.own true e te.size),cut:=.no,dyn:=ZcD (appV te.size s x)}
    | _=>
     match ZbH s,Zcm s with
     | some (some (true,e',sz)),some (q,i)=>
      if e'=e∧sz=te.size then some {gh:=[⟨q,i,false,true,e,te.size⟩],tgt:=d,put:=true,k:=.ck (.own true e te.size),cut:=.no,dyn:=ZcD (appV te.size s x)}
      else none
     |_,_=>none
  |_=>none
section
variable {R :Type} {P:Program} {T:Tab} {o:Oper} {κ κ1:List Kd} {E:Eff R}
variable {w0 :World} {F0:Nat→Prop} {X0:List Nat} {σ:List PV} {a:Act} {w:World} {F F1:Nat→Prop} {fp fp1:Nat→List Nat}
theorem ZcK.of_prefix {sz:Nat} {l:List PV} {xs:List Value} {C:Array Value} (h:ZcK w F sz l xs.toArray) (hp:∀k,k<xs.length→C[k]?=xs[k]?):ZcK w F sz l C:=fun i x hx=>by
 obtain ⟨h1,h2,u,h3,h4⟩:=h i x hx
 refine ⟨h1,h2,u,h3,fun j c hc=> ?_⟩
 have:=h4 j c hc
 have hlt:=(Array.getElem?_eq_some_iff.1 this).1
 rw[hp _ (by simpa using hlt)]
 simpa using this
theorem ZcK.to_list {sz:Nat} {l:List PV} {cur:Array Value} (h:ZcK w F sz l cur) (hle:l.length * sz≤cur.size):ZcK w F sz l (cur.toList.take (l.length * sz)).toArray:=fun i x hx=>by
 obtain ⟨h1,h2,u,h3,h4⟩:=h i x hx
 refine ⟨h1,h2,u,h3,fun j c hc=> ?_⟩
 have hc':=h4 j c hc
 have hj:j<sz:=by rw[←h1,(h3.cells h2).1];exact (Array.getElem?_eq_some_iff.1 hc).1
 have hi:i<l.length:=(List.getElem?_eq_some_iff.1 hx).1
 have:(i+1) * sz≤l.length * sz:=Nat.mul_le_mul_right _ hi
 rw[Nat.succ_mul] at this
 rw[List.getElem?_toArray,List.getElem?_take,if_pos (by omega)]
 simpa using hc'
theorem ZcK.append {sz:Nat} {l l':List PV} {xs ys:List Value} (h:ZcK w F sz l xs.toArray) (h':ZcK w F sz l' ys.toArray) (hl:xs.length=l.length * sz):ZcK w F sz (l++l') (xs++ys).toArray:=fun i x hx=>by
 rw[List.getElem?_append] at hx
 split at hx
 ·obtain ⟨h1,h2,u,h3,h4⟩:=h i x hx
  refine ⟨h1,h2,u,h3,fun j c hc=> ?_⟩
  have:=h4 j c hc
  have hlt:=(Array.getElem?_eq_some_iff.1 this).1
  rw[List.getElem?_toArray,List.getElem?_append,if_pos (by simpa using hlt)]
  simpa using this
 ·rename_i hge
  obtain ⟨h1,h2,u,h3,h4⟩:=h' _ x hx
  refine ⟨h1,h2,u,h3,fun j c hc=> ?_⟩
  have:=h4 j c hc
  have e1:i * sz=l.length * sz+(i - l.length) * sz:=by rw[←Nat.add_mul];congr 1;omega
  rw[List.getElem?_toArray,List.getElem?_append,if_neg (by omega)]
  rw[show i * sz+j - xs.length=(i - l.length) * sz+j from by omega]
  simpa using this
theorem Zkb (h:St w0 F0 X0 κ σ a.tmps w F fp) {x:Operand} (hlx:Zcv κ σ x) {l:List PV} {sz:Nat} (hl:Zi (sv κ x) (dv κ σ x)=some l) (hok:l.all (ZaG sz)=true) (hsz:sz≠0) (hK:(ZbH (sv κ x)).isSome=true):
 ∃(A:Option Addr) (c:Nat),a.eval x=.slice A l.length c∧(l≠[]→∃(ad:Addr) (news:List Value),A=some ad∧news.length=l.length * sz∧(∀(j:Nat) (u:Value),news[j]?=some u→w.cell? (ad.add j)=some u)∧(∀u∈news,u.oneCell'=true)∧ZcK w F sz l news.toArray):=by
 have hw:∀(i:Nat) (y:PV),l[i]?=some y→y.width=sz∧y≠.undef:=fun i y hy=>by
  have:=List.all_eq_true.1 hok y (List.mem_of_getElem? hy)
  unfold ZaG at this
  obtain ⟨cl,hcl⟩:=Option.isSome_iff_exists.1 this
  obtain ⟨_,_,h3,h4⟩:=Zcw hcl
  exact ⟨h3,h4⟩
 obtain ⟨A,c,he⟩:=Zn7 h (x:=x) hlx (l:=l) hl
 refine ⟨A,c,he,fun hne=> ?_⟩
 have hlen0:0<l.length:=List.length_pos_iff.2 hne
 by_cases hv:(sv κ x).isV=true
 ·have hx:=rdS h hv
  have hd:(dv κ σ x).v=.lst l:=by
   unfold Zi at hl
   rw[if_pos hv] at hl
   split at hl
   ·rename_i l' e1;cases hl;exact e1
   ·cases hl
  rw[hd,he] at hx
  cases hx with
  | lst _ _ _ sz' vs h1 h2 h3 h4 h5=>
   obtain ⟨b,off,rfl,hF,hc⟩:=h3 hne
   have hs:sz'=sz:=by
    obtain ⟨y,hy⟩:∃y,l[0]?=some y:=⟨l[0],List.getElem?_eq_getElem hlen0⟩
    rw[←(h4 0 y hy).1];exact (hw 0 y hy).1
   subst hs
   have hvs:∀i,i<l.length→(vs i).cells.size=sz':=fun i hi=>(h4 i l[i] (List.getElem?_eq_getElem hi)).2
   have hget:∀i j,i<l.length→j<sz'→((List.range (l.length * sz')).map fun k=>(vs (k / sz')).cells.getD (k % sz') Go.undef)[i * sz'+j]?=some ((vs i).cells.getD j Go.undef):=by
    intro i j hi hj
    have:(i+1) * sz'≤l.length * sz':=Nat.mul_le_mul_right _ hi
    rw[Nat.succ_mul] at this
    have hlt:i * sz'+j<l.length * sz':=by omega
    rw[List.getElem?_map,List.getElem?_range hlt]
    have e1:(i * sz'+j) / sz'=i:=by rw[Nat.mul_comm,Nat.mul_add_div (by omega),Nat.div_eq_of_lt hj,Nat.add_zero]
    have e2:(i * sz'+j) % sz'=j:=by rw[Nat.mul_comm,Nat.mul_add_mod,Nat.mod_eq_of_lt hj]
    simp[e1,e2]
   have hat:∀k,k<l.length * sz'→k / sz'<l.length∧k % sz'<sz'∧k / sz' * sz'+k % sz'=k:=fun k hk=>
    ⟨(Nat.div_lt_iff_lt_mul (by omega)).2 hk,Nat.mod_lt _ (by omega),by rw[Nat.mul_comm];exact Nat.div_add_mod k sz'⟩
   refine ⟨⟨b,off,none⟩,(List.range (l.length * sz')).map fun k=>(vs (k / sz')).cells.getD (k % sz') Go.undef,rfl,by simp,fun k u hk=> ?_,fun u hu=> ?_,fun i y hy=> ?_⟩
   ·have hlt:=(List.getElem?_eq_some_iff.1 hk).1
    simp only[List.length_map,List.length_range] at hlt
    obtain ⟨a1,a2,a3⟩:=hat k hlt
    have:=hget _ _ a1 a2
    rw[a3,hk] at this
    rw[Addr.add_lit,←a3,←Nat.add_assoc]
    refine hc _ a1 _ _ ?_
    rw[Option.some.inj this]
    simp[Array.getD,hvs _ a1,a2]
   ·obtain ⟨k,hk⟩:=List.mem_iff_getElem?.1 hu
    have hlt:=(List.getElem?_eq_some_iff.1 hk).1
    simp only[List.length_map,List.length_range] at hlt
    obtain ⟨a1,a2,a3⟩:=hat k hlt
    have:=hget _ _ a1 a2
    rw[a3,hk] at this
    rw[Option.some.inj this]
    have hy:l[k / sz']?=some l[k / sz']:=List.getElem?_eq_getElem a1
    refine (h5 _ _ hy).store (hw _ _ hy).2 _ ?_
    refine List.mem_iff_getElem?.2 ⟨k % sz', ?_⟩
    simp[Array.getD,hvs _ a1,a2]
   ·obtain ⟨e1,e2⟩:=hw i y hy
    have hi:=(List.getElem?_eq_some_iff.1 hy).1
    refine ⟨e1,e2,vs i,h5 i y hy,fun j cc hcc=> ?_⟩
    have hj:j<sz':=by rw[←hvs i hi];exact (Array.getElem?_eq_some_iff.1 hcc).1
    rw[List.getElem?_toArray,hget i j hi hj]
    simp[Array.getD_eq_getD_getElem?,hcc]
 ·have hk:∃app e sz',ZbH (sv κ x)=some (some (app,e,sz')):=by
   obtain ⟨k,hk⟩:=Option.isSome_iff_exists.1 hK
   rw[hk]
   cases k with
   | none=>
    unfold ZbH at hk
    rw[if_neg hv] at hk
    split at hk
    ·cases hk
    ·split at hk<;>cases hk
    ·split at hk<;>cases hk
    ·cases hk
   |some p=>exact ⟨p.1,p.2.1,p.2.2,rfl⟩
  obtain ⟨app,e,sz',hk⟩:=hk
  obtain ⟨q,i,lb,r1,r2,r3,r4⟩:=Zd8 h (x:=x) hlx (l:=l) hl hk
  rcases r2 with ⟨s1,s2,s3⟩|⟨g,cap,cur,fr,s1,s2,s3,s4,s5,s6,s7,s8,s9⟩
  ·exact absurd s2 hne
  ·have hs:sz'=sz:=by
    obtain ⟨y,hy⟩:∃y,l[0]?=some y:=⟨l[0],List.getElem?_eq_getElem hlen0⟩
    rw[←(s9 0 y hy).1];exact (hw 0 y hy).1
   subst hs
   rw[s1] at he
   simp only[Value.slice.injEq] at he
   obtain ⟨rfl,_,rfl⟩:=he
   have hle:l.length * sz'≤cur.size:=by rw[s8];exact Nat.mul_le_mul_right _ s6
   have hel:=s9.to_list hle
   refine ⟨⟨g,0,none⟩,cur.toList.take (l.length * sz'),rfl,by simp;omega,fun k u hk=> ?_,fun u hu=> ?_,hel⟩
   ·rw[Addr.add_lit,Nat.zero_add,cell_of_row w g k cur e fr s3]
    rw[List.getElem?_take] at hk
    split at hk
    ·simpa using hk
    ·cases hk
   ·obtain ⟨k,hk⟩:=List.mem_iff_getElem?.1 hu
    have hlt:=(List.getElem?_eq_some_iff.1 hk).1
    have hlt':k<l.length * sz':=by simp at hlt;omega
    have a1:k / sz'<l.length:=(Nat.div_lt_iff_lt_mul (by omega)).2 hlt'
    have hy:l[k / sz']?=some l[k / sz']:=List.getElem?_eq_getElem a1
    obtain ⟨e1,e2,uu,e3,e4⟩:=s9 _ _ hy
    have hus:uu.cells.size=sz':=by rw[←(e3.cells e2).1];exact e1
    have hj:k % sz'<uu.cells.size:=by rw[hus];exact Nat.mod_lt _ (by omega)
    have:=e4 (k % sz') _ (Array.getElem?_eq_getElem hj)
    rw[show k / sz' * sz'+k % sz'=k from by rw[Nat.mul_comm];exact Nat.div_add_mod k sz'] at this
    rw[List.getElem?_take,if_pos hlt'] at hk
    have hk':cur[k]?=some u:=by simpa using hk
    rw[hk'] at this
    refine e3.store e2 u ?_
    rw[Option.some.inj this]
    exact Array.getElem_mem_toList hj
theorem Zk2 {t ty e:TypeId} {te:TI} (ht:P.underlying t=some (.slice e)) (he:TyOk P e te) {A B:Option Addr} {n cap c:Nat} (hle:n≤cap) (w:World):
 (Builtin.append_ #[t,t] ty #[.slice A n cap,.slice B 0 c]).run P w=.ok (.slice A n cap) w:=by
 have h1:=he.run_sizeOf w
 cases B<;>cases A<;>simp[Builtin.append_,underlying,ht,h1,Builtin.lenOf,Builtin.firstCells,hle,storeCells,loadCells,loadCellsFrom]
theorem Zp8 {n b:Nat} (hn:n≤4294967296) (hb:b≤32768):n * b≤140737488355328:=by
 have:=Nat.mul_le_mul hn hb
 omega
theorem ZlN {t ty e:TypeId} {te:TI} (ht:P.underlying t=some (.slice e)) (he:TyOk P e te) (hsz:te.size≠0) (hby:te.bytes≤32768) {ls lx:List PV} {v:Value} {lb:List Nat} (hrow:ZbV w F true e te.size ls v lb) (hfl:∀b,F b→b<w.heap.size) (hnF:∀b∈lb,¬F b)
 {A:Option Addr} {c:Nat} (hsrc:lx≠[]→∃(ad:Addr) (news:List Value),A=some ad∧news.length=lx.length * te.size∧(∀(j:Nat) (u:Value),news[j]?=some u→w.cell? (ad.add j)=some u)∧(∀u∈news,u.oneCell'=true)∧ZcK w F te.size lx news.toArray)
 (hlen:ls.length+lx.length≤4294967296):
 ∃ (v':Value) (w':World) (lb':List Nat),(Builtin.append_ #[t,t] ty #[v,.slice A lx.length c]).run P w=.ok v' w'∧w'.os=w.os∧w'.tape=w.tape∧w'.output=w.output∧w.heap.size≤w'.heap.size∧(∀b,b<w.heap.size→b∉lb→w'.heap[b]?=w.heap[b]?)∧
  ZbV w' F true e te.size (ls++lx) v' lb'∧lb'.Nodup∧(∀b∈lb',(b∈lb∨w.heap.size≤b)∧b<w'.heap.size):=by
 by_cases hlx:lx=[]
 ·subst hlx
  obtain ⟨A',c',rfl⟩:=hrow.slice_eq
  have hle:ls.length≤c'∧lb.Nodup∧∀b∈lb,b<w.heap.size:=by
   rcases hrow with ⟨s1,s2,s3⟩|⟨g,cap,cur,fr,s1,s2,s3,s4,s5,s6,s7,s8,s9⟩
   ·subst s2 s3;simp
   ·simp at s1;obtain ⟨_,rfl⟩:=s1;subst s2;exact ⟨s6,by simp,by simpa using (Array.getElem?_eq_some_iff.1 s3).1⟩
  exact ⟨_,w,lb,Zk2 ht he hle.1 w,rfl,rfl,rfl,Nat.le_refl _,fun _ _ _=>rfl,by simpa using hrow,hle.2.1,fun b hb=>⟨.inl hb,hle.2.2 b hb⟩⟩
 ·obtain ⟨ad,news,rfl,n1,n2,n3,n4⟩:=hsrc hlx
  have hm0:0<lx.length:=List.length_pos_iff.2 hlx
  have hbyt:=Zp8 hlen hby
  have hrb:(ls.length+lx.length) * he.row.bytes≤140737488355328:=by rw[he.hbytes];exact hbyt
  have hmx:ls.length+lx.length≤maxLen:=by unfold maxLen;omega
  have n1':news.length=lx.length * he.row.size:=by rw[he.hsize];exact n1
  have grown:∀(old:Nat) (xs:List Value),old<ls.length+lx.length→xs.length=ls.length * te.size→ZcK w F te.size ls xs.toArray→∀w',w'=w.drew.alloc (.cells (xs.toArray++news.toArray++Builtin.zeroCells he.zv.cells (grownCap w (ls.length+lx.length) old e - (ls.length+lx.length))) e)→
   w'.os=w.os∧w'.tape=w.tape∧w'.output=w.output∧w.heap.size≤w'.heap.size∧(∀b,b<w.heap.size→b∉lb→w'.heap[b]?=w.heap[b]?)∧
   ZbV w' F true e te.size (ls++lx) (.slice (some ⟨w.heap.size,0,none⟩) (ls.length+lx.length) (grownCap w (ls.length+lx.length) old e)) [w.heap.size]∧([w.heap.size]:List Nat).Nodup∧(∀b∈[w.heap.size],(b∈lb∨w.heap.size≤b)∧b<w'.heap.size):=by
   intro old xs ho hxl hxe w' hw'
   have hge:=grownCap_ge w (ls.length+lx.length) old e
   have hcm:=grownCap_le_maxLen w (ls.length+lx.length) old e hmx
   have hst:Stays w F w' F:=⟨fun _ h=>h,fun b hb=>by rw[hw'];exact Below.heap_alloc w.drew _ b (hfl b hb)⟩
   have hz:he.zv.cells.size=te.size:=he.hzs
   refine ⟨by rw[hw'];rfl,by rw[hw'];rfl,by rw[hw'];rfl,by rw[hw'];simp,fun b hb _=>by rw[hw'];exact Below.heap_alloc w.drew _ b hb,.inr ⟨w.heap.size,_,_,(0,0),by simp,rfl,by rw[hw'];exact heap_alloc_new w.drew _,fun _=>rfl,.inl (Nat.le_refl _),by simpa using hge,hcm, ?_, ?_⟩,by simp,fun b hb=> ?_⟩
   ·simp only[Array.size_append,List.size_toArray,size_zeroCells,hz,hxl,n1,←Nat.add_mul]
    congr 1
    omega
   ·refine ((hxe.append n4 hxl).keep hst).of_prefix fun k hk=> ?_
    simp only[Array.append_assoc]
    rw[←Array.append_assoc,Array.getElem?_append_left (by simpa using hk)]
    simp
   ·simp at hb;subst hb;exact ⟨.inr (Nat.le_refl _),by rw[hw'];simp⟩
  rcases hrow with ⟨rfl,rfl,rfl⟩|⟨g,cap,cur,fr,rfl,rfl,s3,s4,s5,s6,s7,s8,s9⟩
  ·have hr:=run_append_nil (P:=P) w t ty e he.row he.zv ht he.hrow he.hz ad lx.length c news n1' n2 hm0 (by simp at hlen;omega) (by simp only[List.length_nil,Nat.zero_add] at hrb;omega)
   have hg:=grown 0 [] (by omega) (by simp) (fun i x hx=>by simp at hx) _ rfl
   simp only[List.length_nil,Nat.zero_add,List.nil_append,Array.empty_append] at hg
   exact ⟨_,_,_,hr,hg⟩
  ·obtain rfl:=s4 rfl
   have hle:ls.length * te.size≤cur.size:=by rw[s8];exact Nat.mul_le_mul_right _ s6
   by_cases hroom:ls.length+lx.length≤cap
   ·have hfit:ls.length * te.size+news.length≤cur.size:=by rw[n1,s8,←Nat.add_mul];exact Nat.mul_le_mul_right _ hroom
    have hfit':ls.length * he.row.size+news.length≤cur.size:=by rw[he.hsize];exact hfit
    have hr:=run_append_room (P:=P) w t ty e he.row ht he.hrow g ls.length cap cur s3 ad lx.length c news n1' n2 n3 hroom hfit'
    rw[he.hsize] at hr
    have hst:Stays w F (w.setRow g (cur.toList.take (ls.length * te.size)++news++cur.toList.drop (ls.length * te.size+news.length)).toArray) F:=⟨fun _ h=>h,fun b hb=>setRow_other w g b _ (fun e=>hnF g (by simp) (e▸hb))⟩
    refine ⟨_,_,[g],hr,rfl,rfl,rfl,by rw[size_setRow];exact Nat.le_refl _,fun b _ hb=>setRow_other w g b _ (by simpa using hb),.inr ⟨g,cap,_,(0,0),by simp,rfl,setRow_heap w g cur _ e _ s3,fun _=>rfl,.inl (Nat.le_refl _),by simpa using hroom,s7, ?_, ?_⟩,by simp,fun b hb=> ?_⟩
    ·simp only[List.size_toArray,List.length_append,List.length_take,List.length_drop,Array.length_toList]
     omega
    ·have hl1:(cur.toList.take (ls.length * te.size)).length=ls.length * te.size:=by simp;omega
     refine (((s9.to_list hle).append n4 hl1).keep hst).of_prefix fun k hk=> ?_
     rw[List.getElem?_toArray,List.getElem?_append_left hk]
    ·simp at hb;subst hb;exact ⟨.inl (by simp),by rw[size_setRow];exact (Array.getElem?_eq_some_iff.1 s3).1⟩
   ·have hl1:(cur.toList.take (ls.length * te.size)).length=ls.length * te.size:=by simp;omega
    have holds:∀(j:Nat) (u:Value),(cur.toList.take (ls.length * te.size))[j]?=some u→w.cell? ((⟨g,0,none⟩:Addr).add j)=some u:=fun j u hj=>by
     rw[Addr.add_lit,Nat.zero_add,cell_of_row w g j cur e (0,0) s3]
     rw[List.getElem?_take] at hj
     split at hj
     ·simpa using hj
     ·cases hj
    have hr:=run_append_grow (P:=P) w t ty e he.row he.zv ht he.hrow he.hz ⟨g,0,none⟩ ls.length cap _ (by rw[he.hsize];exact hl1) holds ad lx.length c news n1' n2 (by omega) (by omega) (growslice_fits (by omega) hrb)
    exact ⟨_,_,_,hr,grown cap _ (by omega) hl1 (s9.to_list hle) _ rfl⟩
end
def elsV (n:Nat):List DV→Option (List PV)
 |[]=>some []
 |d::r=>(Zc n d.v).bind fun _=>(elsV n r).bind fun l=>some (d.v::l)
theorem Ztu {n:Nat}:∀{ds:List DV} {l:List PV},elsV n ds=some l→l=ds.map DV.v∧(ds.all fun d=>ZaG n d.v)=true
 |[],l,h=>by simp[elsV] at h;subst h;simp
 | d::r,l,h=>by
  unfold elsV at h
  obtain ⟨c,hc,h⟩:=Option.bind_eq_some_iff.1 h
  obtain ⟨l',hl',h⟩:=Option.bind_eq_some_iff.1 h
  cases h
  obtain ⟨h1,h2⟩:=Ztu hl'
  refine ⟨by rw[h1];rfl, ?_⟩
  rw[List.all_cons,h2]
  simp[ZaG,hc]
def ZrP (n:Nat) (ds:List DV):Option PV:=(elsV n ds).bind fun l=>some (.lst l)
def Zp9 :Nat→List (Nat×Operand)→Bool
 |_,[]=>true
 |i,(j,_)::r=>i=j&&Zp9 (i+1) r
def Zfk {R:Type} (T:Tab) (d:Nat) (t:TypeId) (len:Nat) (parts:List (Nat×Operand)) (svs:List SV):Option (Eff R):=
 match T.lookup t with
 |none=>none
 | some ti=>
  match ti.desc with
  | .slice e=>
   match T.lookup e with
   |none=>none
   | some te=>
    if parts.length=len∧Zp9 0 parts=true∧svs.all SV.isV=true∧te.size≠0∧len * te.size≤65536 then
     some (Zp d (.ck (.own true e te.size)) fun ds kk=>(ZrP te.size ds).bind kk)
    else none
  |_=>none
def SV.grpAt (x:SV):Option (Nat×List CK):=
 match x.k with
 |.grp true ks=>x.slot.map fun s=>(s,ks)
 |.ali (.slot q)=>match x.pk with|.grp true ks=>some (q,ks)|_=>none
 |_=>none
def PV.parts :PV→List PV
 |.tup l=>l
 |.agg l=>l
 |_=>[]
def Zd7 (x:SV) (d:DV):List PV:=
 match x.k with
 |.grp _ _=>d.v.parts
 |_=>d.pv.parts
def ZbD {R:Type} (d:Nat) (ix:Nat) (x:SV):Option (Eff R):=
 match x.grpAt with
 |none=>none
 | some (s,ks)=>
  match ks[ix]? with
  |some .val=>some (Zp d (.ck .val) (Zb4 fun y=>(Zd7 x y)[ix]?))
  |some .nil=>some (Zp d (.ck .nil) (Zb4 fun y=>(Zd7 x y)[ix]?))
  |some (.own app e sz)=>if s=d∨tgB≤ix then none else some {gh:=[⟨s,some ix,false,app,e,sz⟩],tgt:=d,put:=true,k:=.ck (.own app e sz),cut:=.no,dyn:=Zb4 fun y=>(Zd7 x y)[ix]?}
  |_=>none
def SV.tgrAt (x:SV):Option (Nat×List (Option Nat)×List CK):=
 match x.k with
 |.tgr sh ks=>x.slot.map fun s=>(s,sh,ks)
 |.ali (.slot q)=>match x.pk with|.tgr sh ks=>some (q,sh,ks)|_=>none
 |_=>none
def Znd (x:SV) (d:DV):List PV:=
 match x.k with
 |.tgr _ _=>d.v.parts
 |_=>d.pv.parts
def ZnW :List (Option Nat)→Nat→Option (Nat×Option Nat)
 |[],_=>none
 |c::_,0=>some (0,c)
 |c::r,i+1=>(ZnW r i).map fun p=>(c.getD 1+p.1,p.2)
def Zhe {R:Type} (d:Nat) (ix:Nat) (x:SV):Option (Eff R):=
 match x.tgrAt with
 |none=>none
 | some (s,sh,ks)=>
  match ZnW sh ix with
  |none=>none
  | some (off,none)=>
   match ks[off]? with
   |some .val=>some (Zp d (.ck .val) (Zb4 fun y=>(Znd x y)[ix]?))
   |some .nil=>some (Zp d (.ck .nil) (Zb4 fun y=>(Znd x y)[ix]?))
   |some (.own app e sz)=>if s=d then none else some {gh:=[⟨s,some (off+tgB),false,app,e,sz⟩],tgt:=d,put:=true,k:=.ck (.own app e sz),cut:=.no,dyn:=Zb4 fun y=>(Znd x y)[ix]?}
   |_=>none
  | some (off,some n)=>
   if s≠d∧((ks.drop off).take n).length=n then some {gh:=Zd6 s (off+tgB) ((ks.drop off).take n),tgt:=d,put:=true,k:=.grp false ((ks.drop off).take n),cut:=.no,dyn:=Zb4 fun y=>(Znd x y)[ix]?} else none
def ZkM :Kd→Bool
 |.tip=>true
 |_=>false
def Zhf {R:Type} (d:Nat) (ix:Nat):Option (Eff R):=
 match ix with
 |0=>some (Zp d .ipt (Zb4 fun y=>y.v.parts[0]?))
 |1=>some (Zp d (.ck .val) (Zb4 fun y=>y.v.parts[1]?))
 |_=>none
def Zbb {R:Type} (d:Nat) (ix:Nat) (x:SV):Option (Eff R):=
 match ZkM x.k with
 |true=>Zhf d ix
 |false=>
 match x.tgrAt with
 |none=>ZbD d ix x
 |some _=>Zhe d ix x
section
variable {R :Type} {P:Program} {T:Tab} {o:Oper} {κ κ1:List Kd} {E:Eff R}
variable {w0 :World} {F0:Nat→Prop} {X0:List Nat} {σ:List PV} {a:Act} {w:World} {F F1:Nat→Prop} {fp fp1:Nat→List Nat}
theorem ZhU (h:St w0 F0 X0 κ σ a.tmps w F fp) {x:Operand} (hlx:Zcv κ σ x) {q:Nat} {i:Option Nat} (hA:Zcm (sv κ x)=some (q,i)) {fz app:Bool} {e:TypeId} {sz:Nat} {y:PV} {v:Value} (hg:GhV ⟨q,i,fz,app,e,sz⟩ σ a.tmps w y v):v=a.eval x:=by
 unfold Zcm at hA
 split at hA
 ·obtain ⟨s2,hs2,e2⟩:=Option.map_eq_some_iff.1 hA
  cases e2
  obtain rfl:=Za3 hs2
  exact hg.1.symm
 ·rename_i q' hk
  cases hA
  have hal:=h.al' x hlx
  rw[hk] at hal
  exact hg.1.symm.trans hal
 ·rename_i q' off' hk
  cases hA
  have hal:=h.al' x hlx
  rw[hk] at hal
  obtain ⟨b1,t1,t2⟩:=hal
  rcases hg with ⟨b',xs',g1,g2,g3,g4⟩|⟨tt,cs',xs',g1,g2,g3,g4,_⟩|⟨cs',xs',g1,_⟩
  ·simp only at g1;rw[t1] at g1;simp at g1;subst g1;rw[t2] at g2;exact (Option.some.inj g2).symm
  ·simp only at g1;rw[t1] at g1;cases tt<;>simp at g1
  ·simp only at g1;rw[t1] at g1;cases g1
 ·cases hA
theorem ZaM {t e:TypeId} {ti:TI} (ht:TyOk P t ti) (hd:ti.desc=.slice e):P.underlying t=some (.slice e):=by
 have h2:=ht.hd
 rw[hd] at h2
 have h3:=ht.hdesc
 cases hdd:ht.desc<;>rw[hdd] at h2<;>simp[Zf3] at h2
 rw[hdd] at h3
 rw[h2]
 exact h3
theorem ZoB (hT:TabOk P T) {t t2:TypeId} {s x:Operand} {d:Nat} (hop:o.op=.call {callee:=.builtin .append,args:= #[s,x],argTypes:= #[t,t2]}) (hd:o.dst=some d) (hE:Zka T d t t2 (sv κ s) (sv κ x)=some E):Zat P o κ E:=by
 have hops:o.op.operands.toList=[s,x]:=by rw[hop];rfl
 unfold Zka at hE
 split at hE
 case h_1=>cases hE
 rename_i ti hi
 obtain ⟨ht⟩:=hT.ty hi
 split at hE
 case h_2=>cases hE
 rename_i e hds
 have hus:=ZaM ht hds
 split at hE
 case h_1=>cases hE
 rename_i te hte
 obtain ⟨he⟩:=hT.ty hte
 split at hE
 case isTrue=>cases hE
 rename_i hc
 have ht2:t=t2:=Classical.byContradiction fun h=>hc (.inl h)
 subst ht2
 have hsz:te.size≠0:=fun h=>hc (.inr (.inl h))
 have hby:te.bytes≤32768:=Nat.le_of_not_lt fun h=>hc (.inr (.inr (.inl h)))
 have hxK:(ZbH (sv κ x)).isSome=true:=by cases hh:(ZbH (sv κ x)).isSome;exact absurd (.inr (.inr (.inr hh))) hc;rfl
 have run:∀{ρ:Operand→Value} {w w':World} {v':Value},(∀ty,(Builtin.append_ #[t,t] ty #[ρ s,ρ x]).run P w=.ok v' w')→(execOp ρ o).run P w=.ok (.value v') w':=by
  intro ρ w w' v' h
  obtain ⟨cs,hcs⟩:=ZbE (P:=P) hop ρ w
  rw[hcs]
  have:=h o.type
  simp[builtin,this]
 split at hE
 ·rename_i hk
  cases hE
  refine Zdz hd rfl fun w0 F0 X0 κ1 σ a w F F1 fp fp1 kk r h h1 htt hg hF hall hlv hdy=> ?_
  cases hg
  have hdy':((appV te.size (sv κ s) (sv κ x) (dv κ σ s) (dv κ σ x)).bind kk)=some r:=by rw[hops] at hdy;exact hdy
  obtain ⟨z,hz,hkk⟩:=Option.bind_eq_some_iff.1 hdy'
  obtain ⟨ls,hls,hz⟩:=Option.bind_eq_some_iff.1 hz
  obtain ⟨lx,hlx,hz⟩:=Option.bind_eq_some_iff.1 hz
  split at hz
  case isFalse=>cases hz
  rename_i hlen
  cases hz
  obtain ⟨l,_,hsr⟩:=h1.at' s (by rw[hk];simp)
  rw[hk] at hsr
  obtain ⟨e1,e2,_⟩:=hsr
  have:ls=[]:=by
   unfold Zi at hls
   rw[if_pos (by simp[SV.isV,hk]),e1] at hls
   cases hls;rfl
  subst this
  obtain ⟨A,c,hx,hsrc⟩:=Zkb h1 (x:=x) (Zg hlv (by rw[hops];exact .tail _ (.head _))) hlx hlen.2 hsz hxK
  have:∀ty,∃(v':Value) (w':World) (lb':List Nat),(Builtin.append_ #[t,t] ty #[.slice none 0 0,.slice A lx.length c]).run P w=.ok v' w'∧w'.os=w.os∧w'.tape=w.tape∧w'.output=w.output∧w.heap.size≤w'.heap.size∧(∀b,b<w.heap.size→b∉([]:List Nat)→w'.heap[b]?=w.heap[b]?)∧
   ZbV w' F1 true e te.size ([]++lx) v' lb'∧lb'.Nodup∧(∀b∈lb',(b∈([]:List Nat)∨w.heap.size≤b)∧b<w'.heap.size):=fun ty=>ZlN hus he hsz hby (.inl ⟨rfl,rfl,rfl⟩) h1.fl (by simp) hsrc hlen.1
  obtain ⟨v',w',lb',r1,r2,r3,r4,r5,r6,r7,r8,r9⟩:=this o.type
  have hrun:(execOp a.eval o).run P w=.ok (.value v') w':=by
   obtain ⟨cs,hcs⟩:=ZbE (P:=P) hop a.eval w
   rw[hcs]
   simp[builtin,e2,hx,r1]
  refine ⟨_,v',w',F1,lb',hrun,hkk,r2,r3,r4,r5,fun b hb _=>r6 b hb (by simp),fun _ h=>h,fun _ h=>.inl h,fun b hb=>Nat.lt_of_lt_of_le (h1.fl b hb) r5,r8,⟨_,rfl,r7⟩,fun b hb=> ?_,fun _=>trivial,fun q hq=>by simp[Kd.bdep] at hq⟩
  obtain ⟨t1,t2⟩:=r9 b hb
  rcases t1 with t1|t1
  ·simp at t1
  ·exact ⟨.inl t1,t2,fun hc=>by have:=h1.fl b hc;omega⟩
 ·split at hE
  case h_2=>cases hE
  rename_i e' sz q i hK hA
  split at hE
  case isFalse=>cases hE
  rename_i hc2
  obtain ⟨rfl,rfl⟩:=hc2
  cases hE
  refine Zdz hd rfl fun w0 F0 X0 κ1 σ a w F F1 fp fp1 kk r h h1 htt hg hF hall hlv hdy=> ?_
  have hdy':((appV te.size (sv κ s) (sv κ x) (dv κ σ s) (dv κ σ x)).bind kk)=some r:=by rw[hops] at hdy;exact hdy
  obtain ⟨z,hz,hkk⟩:=Option.bind_eq_some_iff.1 hdy'
  obtain ⟨ls,hls,hz⟩:=Option.bind_eq_some_iff.1 hz
  obtain ⟨lx,hlx,hz⟩:=Option.bind_eq_some_iff.1 hz
  split at hz
  case isFalse=>cases hz
  rename_i hlen
  cases hz
  obtain ⟨q',i',lb,q1,q2,q3,q4⟩:=Zd8 h (x:=s) (Zg hlv (by rw[hops];exact .head _)) (l:=ls) hls hK
  obtain ⟨y',v0,l',lb',m1,m2,m3,m4,m5⟩:=hall _ (List.mem_singleton.2 rfl)
  simp only[Bool.false_eq_true,if_false] at m5
  have hv0:=ZhU h (Zg hlv (by rw[hops];exact .head _)) hA m1
  subst hv0
  have hlb:=q2.lb_eq m3
  subst hlb
  have hst:Stays w F w F1:=⟨hF,fun _ _=>rfl⟩
  have hrow:=q2.keep hst fun _ _=>rfl
  obtain ⟨A,c,hx,hsrc0⟩:=Zkb h (x:=x) (Zg hlv (by rw[hops];exact .tail _ (.head _))) hlx hlen.2 hsz hxK
  have hsrc:lx≠[]→∃(ad:Addr) (news:List Value),A=some ad∧news.length=lx.length * te.size∧(∀(j:Nat) (u:Value),news[j]?=some u→w.cell? (ad.add j)=some u)∧(∀u∈news,u.oneCell'=true)∧ZcK w F1 te.size lx news.toArray:=fun hne=>by
   obtain ⟨ad,news,t1,t2,t3,t4,t5⟩:=hsrc0 hne
   exact ⟨ad,news,t1,t2,t3,t4,t5.keep hst⟩
  obtain ⟨v',w',lb',r1,r2,r3,r4,r5,r6,r7,r8,r9⟩:=ZlN (ty:=o.type) hus he hsz hby hrow h1.fl (fun b hb=>(h1.pr _ b (m5 b hb)).2.1) hsrc hlen.1
  have hrun:(execOp a.eval o).run P w=.ok (.value v') w':=by
   obtain ⟨cs,hcs⟩:=ZbE (P:=P) hop a.eval w
   rw[hcs]
   simp[builtin,hx]
   rw[r1]
   rfl
  refine ⟨_,v',w',F1,lb',hrun,hkk,r2,r3,r4,r5,fun b hb hbn=>r6 b hb (fun hc=>by rcases hbn with hbn|hbn;exact hbn (m5 b hc);cases hbn),fun _ h=>h,fun _ h=>.inl h,fun b hb=>Nat.lt_of_lt_of_le (h1.fl b hb) r5,r8,⟨_,rfl,r7⟩,fun b hb=> ?_,fun _=>trivial,fun q hq=>by simp[Kd.bdep] at hq⟩
  obtain ⟨t1,t2⟩:=r9 b hb
  rcases t1 with t1|t1
  ·exact ⟨.inr (m5 b t1),t2,(h1.pr _ b (m5 b t1)).2.1⟩
  ·exact ⟨.inl t1,t2,fun hc=>by have:=h1.fl b hc;omega⟩
theorem Zkc :∀(parts:List (Nat×Operand)) (i:Nat),Zp9 i parts=true→∀(f:Operand→Value),(parts.map fun p=>(p.1,f p.2))=((parts.map fun p=>f p.2).zipIdx i).map fun x=>(x.2,x.1)
 |[],_,_,_=>rfl
 | (j,x)::r,i,h,f=>by
  simp only[Zp9,Bool.and_eq_true,decide_eq_true_eq] at h
  obtain ⟨rfl,h⟩:=h
  simp only[List.map_cons,List.zipIdx_cons,List.cons.injEq,true_and]
  exact Zkc r (i+1) h f
theorem Zkd (hT:TabOk P T) {t:TypeId} {len:Nat} {parts:Array (Nat×Operand)} {d:Nat} (hop:o.op=.buildSlice t len parts) (hd:o.dst=some d) (hE:Zfk T d t len parts.toList (o.op.operands.toList.map (sv κ))=some E):Zat P o κ E:=by
 have hops:o.op.operands.toList=parts.toList.map (·.2):=by rw[hop];simp[Op.operands]
 rw[hops] at hE
 unfold Zfk at hE
 split at hE
 case h_1=>cases hE
 rename_i ti hi
 obtain ⟨ht⟩:=hT.ty hi
 split at hE
 case h_2=>cases hE
 rename_i e hds
 have hus:=ZaM ht hds
 split at hE
 case h_1=>cases hE
 rename_i te hte
 obtain ⟨he⟩:=hT.ty hte
 split at hE
 case isFalse=>cases hE
 rename_i hc
 obtain ⟨c1,c2,c3,c4,c5⟩:=hc
 cases hE
 refine Z9 hd rfl rfl fun w0 F0 X0 σ a w F fp kk r h htt hlv hdy=> ?_
 rw[hops] at hdy
 have hdy':((ZrP te.size ((parts.toList.map (·.2)).map (dv κ σ))).bind kk)=some r:=hdy
 obtain ⟨z,hz,hkk⟩:=Option.bind_eq_some_iff.1 hdy'
 unfold ZrP at hz
 obtain ⟨l0,hl0,hz⟩:=Option.bind_eq_some_iff.1 hz
 obtain ⟨rfl,hall⟩:=Ztu hl0
 cases hz
 have hel:∀(i:Nat) (p:Nat×Operand),parts.toList[i]?=some p→VR w F (dv κ σ p.2).v (a.eval p.2)∧(dv κ σ p.2).v.width=te.size∧(dv κ σ p.2).v≠.undef:=fun i p hp=>by
  have hm:=List.mem_of_getElem? hp
  have h1:(sv κ p.2).isV=true:=List.all_eq_true.1 c3 _ (List.mem_map.2 ⟨p.2,List.mem_map.2 ⟨p,hm,rfl⟩,rfl⟩)
  have h2:=List.all_eq_true.1 hall (dv κ σ p.2) (List.mem_map.2 ⟨p.2,List.mem_map.2 ⟨p,hm,rfl⟩,rfl⟩)
  obtain ⟨cl,hcl⟩:=Option.isSome_iff_exists.1 h2
  obtain ⟨_,_,h3,h4⟩:=Zcw hcl
  exact ⟨rdS h h1,h3,h4⟩
 have hvs:∀v∈parts.toList.map (fun p=>a.eval p.2),v.cells.size=te.size:=fun v hv=>by
  obtain ⟨p,hp,rfl⟩:=List.mem_map.1 hv
  obtain ⟨i,hi⟩:=List.mem_iff_getElem?.1 hp
  obtain ⟨h1,h2,h3⟩:=hel i p hi
  rw[←(h1.cells h3).1];exact h2
 have hzs:he.zv.cells.size=te.size:=he.hzs
 have hparts:(parts.map fun (i,x)=>(i,a.eval x)).toList=((parts.toList.map fun p=>a.eval p.2).zipIdx 0).map fun x=>(x.2,x.1):=by
  rw[←Zkc parts.toList 0 c2 a.eval]
  simp
 have hfin:∀(cells:Array Value),cells.size=len * te.size→(∀(k:Nat),k<len * te.size→cells[k]?=(((parts.toList.map fun p=>a.eval p.2)[k / te.size]?).bind fun v=>v.cells[k % te.size]?))→
  (Instr.buildSlice t len (parts.map fun (i,x)=>(i,a.eval x))).run P w=.ok (.slice (some ⟨w.heap.size,0,none⟩) len len) (w.alloc (.cells cells e))→
  ∃(x:PV) (v:Value) (w':World) (F':Nat→Prop) (l:List Nat),(execOp a.eval o).run P w=.ok (.value v) w'∧kk x=some r∧Adds w F w' F'∧l.Nodup∧SR w' F' (.ck (.own true e te.size)) x v l∧(∀b∈l,w.heap.size≤b∧b<w'.heap.size∧¬F' b)∧(x≠.undef→Al (a.tmps.setIfInBounds d v) w' (.ck (.own true e te.size)) x v)∧(∀q,(Kd.ck (.own true e te.size)).bdep=some q→q≠d∧(kd κ q).isBox=true):=by
  intro cells hcs hcell hrun
  have hA:=(Adds.refl w h.fl).alloc (.cells cells e)
  have hl:(((parts.toList.map (·.2)).map (dv κ σ)).map DV.v).length=len:=by simpa using c1
  refine ⟨_,.slice (some ⟨w.heap.size,0,none⟩) len len,_,F,[w.heap.size],by simp[execOp,hop,hrun],hkk,hA,by simp,⟨_,rfl,.inr ⟨w.heap.size,len,cells,(0,0),by rw[hl],rfl,heap_alloc_new w _,fun _=>rfl,.inl (Nat.le_refl _),by rw[hl];exact Nat.le_refl _, ?_,hcs,fun i x hx=> ?_⟩⟩,fun b hb=> ?_,fun _=>trivial,fun q hq=>by simp[Kd.bdep] at hq⟩
  ·have:len≤len * te.size:=Nat.le_mul_of_pos_right _ (by omega)
   unfold maxLen;omega
  ·rw[List.getElem?_map,List.getElem?_map,List.getElem?_map] at hx
   cases hp:parts.toList[i]? with
   |none=>rw[hp] at hx;simp at hx
   | some p=>
    rw[hp] at hx
    simp at hx
    subst hx
    obtain ⟨h1,h2,h3⟩:=hel i p hp
    refine ⟨h2,h3,a.eval p.2,h1.keep (hA.stays h.fl),fun j c hc=> ?_⟩
    have hj:j<te.size:=by rw[←h2,(h1.cells h3).1];exact (Array.getElem?_eq_some_iff.1 hc).1
    have hi:i<len:=by rw[←c1];exact (List.getElem?_eq_some_iff.1 hp).1
    have:(i+1) * te.size≤len * te.size:=Nat.mul_le_mul_right _ hi
    rw[Nat.succ_mul] at this
    rw[hcell _ (by omega)]
    have e1:(i * te.size+j) / te.size=i:=by rw[Nat.mul_comm,Nat.mul_add_div (by omega),Nat.div_eq_of_lt hj,Nat.add_zero]
    have e2:(i * te.size+j) % te.size=j:=by rw[Nat.mul_comm,Nat.mul_add_mod,Nat.mod_eq_of_lt hj]
    rw[e1,e2,List.getElem?_map,hp]
    exact hc
  ·simp at hb;subst hb;exact ⟨Nat.le_refl _,by simp,fun hc=>by have:=h.fl _ hc;omega⟩
 by_cases hlen:len=0
 ·subst hlen
  have hp0:parts= #[]:=by
   have:parts.toList=[]:=List.eq_nil_of_length_eq_zero c1
   simpa using this
  refine hfin #[] (by simp) (fun k hk=>by simp at hk) ?_
  have h1:=he.run_sizeOf w
  have h2:Array.range 0= #[]:=by simp[Array.range]
  simp[Instr.buildSlice,underlying,hus,h1,hp0,Instr.fill,newRow,h2]
 ·have hpos:¬len * te.size=0:=Nat.mul_ne_zero hlen c4
  obtain ⟨cells,f1,f2,f3⟩:=Great.fill_dense (s:=te.size) (by omega) (parts.toList.map fun p=>a.eval p.2) 0 ((Array.range (len * te.size)).map (he.zv.cells[· % he.zv.cells.size]!)) hvs (by simp[c1])
  refine hfin cells (by rw[f2];simp) (fun k hk=> ?_) ?_
  ·rw[f3 k]
   rw[if_pos ⟨by omega,by rw[List.length_map,c1,Nat.zero_add];exact hk⟩,Nat.sub_zero]
  ·refine run_buildSlice w t e len _ cells he.row he.zv hus he.hrow he.hz (by rw[he.hsize];omega) (by rw[he.hsize];exact hpos) ?_
   rw[he.hsize,hparts]
   exact f1
theorem ZvF (h:St w0 F0 X0 κ σ a.tmps w F fp) {x:Operand} (hlx:Zcv κ σ x) {s:Nat} {ks:List CK} (hg:(sv κ x).grpAt=some (s,ks)):
 ∃(cs:Array Value) (xs:List PV) (fps:List (List Nat)),kd κ s=.grp true ks∧tv a.tmps s=.tuple cs∧a.eval x=.tuple cs∧vl σ s=.tup xs∧Zd7 (sv κ x) (dv κ σ x)=xs∧GrpR w F false ks xs cs.toList fps∧fps.flatten.Nodup∧(∀c∈fps.flatten,c∈fp s):=by
 unfold SV.grpAt at hg
 split at hg
 ·rename_i ks' hk
  obtain ⟨s',hs,e⟩:=Option.map_eq_some_iff.1 hg
  cases e
  obtain rfl:=Za3 hs
  have hk':kd κ s=.grp true ks:=hk
  obtain ⟨l,hn,hsub,hsr⟩:=h.sr s
  rw[hk'] at hsr
  obtain ⟨cs,xs,fps,e1,e2,e3,rfl⟩:=hsr
  simp only[if_true] at e1 e2
  refine ⟨cs,xs,fps,hk',e1,e1,e2, ?_,e3,hn,hsub⟩
  have:(dv κ σ (.tmp s)).v=.tup xs:=e2
  unfold Zd7;rw[hk];dsimp only;rw[this];rfl
 ·rename_i q hk
  split at hg
  case h_2=>cases hg
  rename_i ks' hpk
  cases hg
  have hk':kOp κ x=.ali (.slot s):=hk
  have hq:kd κ s=.grp true ks:=by simpa[sv,hk',Kd.dep,Place.of] using hpk
  obtain ⟨l,hn,hsub,hsr⟩:=h.sr s
  rw[hq] at hsr
  obtain ⟨cs,xs,fps,e1,e2,e3,rfl⟩:=hsr
  simp only[if_true] at e1 e2
  have hal:=h.al' x hlx
  rw[hk] at hal
  have e7:tv a.tmps s=a.eval x:=hal
  refine ⟨cs,xs,fps,hq,e1,by rw[←e7];exact e1,e2, ?_,e3,hn,hsub⟩
  have:(dv κ σ x).pv=.tup xs:=by simpa[dv,hk',Kd.dep,Place.of] using e2
  unfold Zd7;rw[hk];dsimp only;rw[this];rfl
 ·cases hg
theorem ZlO {ix:Nat} {x:Operand} {d:Nat} (hop:o.op=.extract x ix) (hd:o.dst=some d) (hE:ZbD d ix (sv κ x)=some E):Zat P o κ E:=by
 have hops:o.op.operands.toList=[x]:=by rw[hop];rfl
 have run:∀{ρ:Operand→Value} {w:World} {cs:Array Value} {v:Value},ρ x=.tuple cs→cs[ix]?=some v→(execOp ρ o).run P w=.ok (.value v) w:=by
  intro ρ w cs v h1 h2
  simp[execOp,hop,Instr.extract,h1,h2]
 unfold ZbD at hE
 split at hE
 case h_1=>cases hE
 rename_i s ks hg
 have key:∀(k:CK),ks[ix]?=some k→ckV k=true→∀(w0:World) (F0:Nat→Prop) (X0:List Nat) (σ:List PV) (a:Act) (w:World) (F:Nat→Prop) (fp:Nat→List Nat) (kk:PV→Option R) (r:R),St w0 F0 X0 κ σ a.tmps w F fp→Zcv κ σ x→
  (((Zd7 (sv κ x) (dv κ σ x))[ix]?).bind kk)=some r→∃z v,kk z=some r∧(execOp a.eval o).run P w=.ok (.value v) w∧CR w F k z v []:=by
  intro k hks hkv w0 F0 X0 σ a w F fp kk r h hlx hdy
  obtain ⟨z,hz,hkk⟩:=Option.bind_eq_some_iff.1 hdy
  obtain ⟨cs,xs,fps,e1,e2,e3,e4,e5,e6,e7,e8⟩:=ZvF h hlx hg
  rw[e5] at hz
  obtain ⟨k',c,f,g1,g2,g3,g4,g5⟩:=e6.at ix z hz
  rw[hks] at g1
  cases g1
  obtain rfl:=(Zf4 g4 hkv).2
  exact ⟨z,c,hkk,run e3 (by simpa using g2),g4⟩
 split at hE
 ·rename_i hks
  cases hE
  refine Z9 hd rfl rfl fun w0 F0 X0 σ a w F fp kk r h htt hlv hdy=> ?_
  obtain ⟨z,v,hkk,hrun,hcr⟩:=key _ hks rfl w0 F0 X0 σ a w F fp kk r h (Zg hlv (by rw[hops];exact .head _)) (by rw[hops] at hdy;exact hdy)
  exact ⟨z,v,w,F,[],hrun,hkk,Adds.refl w h.fl,List.nodup_nil,hcr,by simp,fun _=>trivial,fun q hq=>by simp[Zp,Kd.bdep] at hq⟩
 ·rename_i hks
  cases hE
  refine Z9 hd rfl rfl fun w0 F0 X0 σ a w F fp kk r h htt hlv hdy=> ?_
  obtain ⟨z,v,hkk,hrun,hcr⟩:=key _ hks rfl w0 F0 X0 σ a w F fp kk r h (Zg hlv (by rw[hops];exact .head _)) (by rw[hops] at hdy;exact hdy)
  exact ⟨z,v,w,F,[],hrun,hkk,Adds.refl w h.fl,List.nodup_nil,hcr,by simp,fun _=>trivial,fun q hq=>by simp[Zp,Kd.bdep] at hq⟩
 ·rename_i app e sz hks
  split at hE
  case isTrue=>cases hE
  rename_i hsm0
  have hsm:ix<tgB:=by omega
  cases hE
  refine Zdz hd rfl fun w0 F0 X0 κ1 σ a w F F1 fp fp1 kk r h h1 htt hgg hF hall hlv hdy=> ?_
  have hdy':(((Zd7 (sv κ x) (dv κ σ x))[ix]?).bind kk)=some r:=by rw[hops] at hdy;exact hdy
  obtain ⟨z,hz,hkk⟩:=Option.bind_eq_some_iff.1 hdy'
  obtain ⟨cs,xs,fps,e1,e2,e3,e4,e5,e6,e7,e8⟩:=ZvF h (Zg hlv (by rw[hops];exact .head _)) hg
  rw[e5] at hz
  obtain ⟨y',v0,l',lb',m1,m2,m3,m4,m5⟩:=hall _ (List.mem_singleton.2 rfl)
  simp only[Bool.false_eq_true,if_false] at m5
  rcases m1 with ⟨b',xs',t1,t2,t3,t4⟩|⟨tt,cs',xs',t1,t2,t3,t4,_⟩|⟨cs',xs',t1,t2,t3,t4,t5⟩
  ·simp only at t1;rw[e2] at t1;cases t1
  ·simp only at t1 t3
   rw[e2] at t1
   rw[e4] at t3
   cases tt<;>simp at t1 t3
   subst t1 t3
   rw[hz] at t4
   cases t4
   exact ⟨_,v0,w,F1,lb',run e3 t2,hkk,rfl,rfl,rfl,Nat.le_refl _,fun _ _ _=>rfl,fun _ h=>h,fun _ h=>.inl h,h1.fl,m4,⟨l',m2,m3⟩,fun b hb=>⟨.inr (m5 b hb),(h1.pr _ b (m5 b hb)).1,(h1.pr _ b (m5 b hb)).2.1⟩,fun _=>trivial,fun q hq=>by simp[Kd.bdep] at hq⟩
  ·omega
 ·cases hE
theorem ZrQ (h:St w0 F0 X0 κ σ a.tmps w F fp) {x:Operand} (hlx:Zcv κ σ x) {s:Nat} {sh:List (Option Nat)} {ks:List CK} (hg:(sv κ x).tgrAt=some (s,sh,ks)):
 ∃(cs:Array Value) (xs:List PV) (fps:List (List Nat)),kd κ s=.tgr sh ks∧tv a.tmps s=.tuple cs∧a.eval x=.tuple cs∧vl σ s=.tup xs∧Znd (sv κ x) (dv κ σ x)=xs∧Znn sh xs cs.toList∧GrpR w F true ks (Zdv xs) (ZdV cs.toList) fps∧fps.flatten.Nodup∧(∀c∈fps.flatten,c∈fp s):=by
 unfold SV.tgrAt at hg
 split at hg
 ·rename_i sh' ks' hk
  obtain ⟨s',hs,e⟩:=Option.map_eq_some_iff.1 hg
  cases e
  obtain rfl:=Za3 hs
  have hk':kd κ s=.tgr sh ks:=hk
  obtain ⟨l,hn,hsub,hsr⟩:=h.sr s
  rw[hk'] at hsr
  obtain ⟨cs,xs,fps,e1,e2,e3,e4,rfl⟩:=hsr
  refine ⟨cs,xs,fps,hk',e1,e1,e2, ?_,e3,e4,hn,hsub⟩
  have:(dv κ σ (.tmp s)).v=.tup xs:=e2
  unfold Znd;rw[hk];dsimp only;rw[this];rfl
 ·rename_i q hk
  split at hg
  case h_2=>cases hg
  rename_i sh' ks' hpk
  cases hg
  have hk':kOp κ x=.ali (.slot s):=hk
  have hq:kd κ s=.tgr sh ks:=by simpa[sv,hk',Kd.dep,Place.of] using hpk
  obtain ⟨l,hn,hsub,hsr⟩:=h.sr s
  rw[hq] at hsr
  obtain ⟨cs,xs,fps,e1,e2,e3,e4,rfl⟩:=hsr
  have hal:=h.al' x hlx
  rw[hk] at hal
  have e7:tv a.tmps s=a.eval x:=hal
  refine ⟨cs,xs,fps,hq,e1,by rw[←e7];exact e1,e2, ?_,e3,e4,hn,hsub⟩
  have:(dv κ σ x).pv=.tup xs:=by simpa[dv,hk',Kd.dep,Place.of] using e2
  unfold Znd;rw[hk];dsimp only;rw[this];rfl
 ·cases hg
theorem Zke {x:PV} (h:x.one=true):x.cells=[x]:=by cases x<;>first|rfl|(simp[PV.one] at h)
theorem Zlm :∀(sh:List (Option Nat)) (xs:List PV) (vs:List Value) (ix off:Nat) (c:Option Nat),Znn sh xs vs→ZnW sh ix=some (off,c)→
 ∃ x v,xs[ix]?=some x∧vs[ix]?=some v∧(match c with
  |none=>(Zdv xs)[off]?=some x∧(ZdV vs)[off]?=some v
  |some n=>∃l cs,x=.agg l∧v=.agg cs∧l.length=n∧cs.size=n∧((Zdv xs).drop off).take n=l∧((ZdV vs).drop off).take n=cs.toList)
 |[],xs,vs,ix,off,c,h,ho=>by simp[ZnW] at ho
 |c0::sh,[],vs,ix,off,c,h,ho=>by cases c0<;>cases vs<;>simp[Znn] at h
 |c0::sh,x::xs,[],ix,off,c,h,ho=>by cases c0<;>simp[Znn] at h
 | c0 ::sh,x::xs,v::vs,ix,off,c,h,ho=>by
  have hw:x.cells.length=c0.getD 1∧v.cells.toList.length=c0.getD 1∧Znn sh xs vs:=by
   cases c0 with
   |none=>obtain ⟨h1,h2,h3⟩:=h;exact ⟨by rw[Zke h1];rfl,by rw[h2];rfl,h3⟩
   |some n=>obtain ⟨⟨l,c,rfl,rfl,h1,h2⟩,h3⟩:=h;exact ⟨by simpa[PV.cells] using h1,by simpa[Value.cells] using h2,h3⟩
  cases ix with
  | zero=>
   simp only[ZnW,Option.some.injEq,Prod.mk.injEq] at ho
   obtain ⟨rfl,rfl⟩:=ho
   refine ⟨x,v,rfl,rfl, ?_⟩
   cases c0 with
   | none=>
    obtain ⟨h1,h2,h3⟩:=h
    exact ⟨by simp[Zdv,Zke h1],by simp[ZdV,h2]⟩
   | some n=>
    obtain ⟨⟨l,c,rfl,rfl,h1,h2⟩,h3⟩:=h
    refine ⟨l,c,rfl,rfl,h1,h2, ?_, ?_⟩
    ·simp only[Zdv,List.flatMap_cons,PV.cells,List.drop_zero]
     rw[List.take_append_of_le_length (by omega),List.take_of_length_le (by omega)]
    ·simp only[ZdV,List.flatMap_cons,Value.cells,List.drop_zero]
     rw[List.take_append_of_le_length (by simp;omega),List.take_of_length_le (by simp;omega)]
  | succ ix=>
   simp only[ZnW] at ho
   obtain ⟨p,hp,he⟩:=Option.map_eq_some_iff.1 ho
   obtain ⟨o1,c1⟩:=p
   simp only[Prod.mk.injEq] at he
   obtain ⟨rfl,rfl⟩:=he
   obtain ⟨y,u,g1,g2,g3⟩:=Zlm sh xs vs ix o1 c1 hw.2.2 hp
   refine ⟨y,u,by simpa using g1,by simpa using g2, ?_⟩
   have eP:∀j,(Zdv (x::xs))[c0.getD 1+j]?=(Zdv xs)[j]?:=fun j=>by
    simp only[Zdv,List.flatMap_cons]
    rw[List.getElem?_append_right (by omega)]
    congr 1
    omega
   have eV:∀j,(ZdV (v::vs))[c0.getD 1+j]?=(ZdV vs)[j]?:=fun j=>by
    simp only[ZdV,List.flatMap_cons]
    rw[List.getElem?_append_right (by omega)]
    congr 1
    omega
   cases c1 with
   |none=>exact ⟨by rw[eP];exact g3.1,by rw[eV];exact g3.2⟩
   | some n=>
    obtain ⟨l,cs,h1,h2,h3,h4,h5,h6⟩:=g3
    refine ⟨l,cs,h1,h2,h3,h4, ?_, ?_⟩
    ·rw[←h5]
     congr 1
     simp only[Zdv,List.flatMap_cons]
     rw[List.drop_append,List.drop_of_length_le (by omega),List.nil_append]
     congr 1
     omega
    ·rw[←h6]
     congr 1
     simp only[ZdV,List.flatMap_cons]
     rw[List.drop_append,List.drop_of_length_le (by omega),List.nil_append]
     congr 1
     omega
theorem ZnX {fps:List (List Nat)} (h:fps.flatten.Nodup) (off n:Nat):((fps.drop off).take n).flatten.Nodup:=by
 have e:fps=fps.take off++((fps.drop off).take n++(fps.drop off).drop n):=by rw[List.take_append_drop,List.take_append_drop]
 rw[e] at h
 simp only[List.flatten_append] at h
 exact (List.nodup_append.1 (List.nodup_append.1 h).2.1).1
theorem ZlP {ix:Nat} {x:Operand} {d:Nat} (hop:o.op=.extract x ix) (hd:o.dst=some d) (hE:Zhe d ix (sv κ x)=some E):Zat P o κ E:=by
 have hops:o.op.operands.toList=[x]:=by rw[hop];rfl
 have run:∀{ρ:Operand→Value} {w:World} {cs:Array Value} {v:Value},ρ x=.tuple cs→cs[ix]?=some v→(execOp ρ o).run P w=.ok (.value v) w:=by
  intro ρ w cs v h1 h2
  simp[execOp,hop,Instr.extract,h1,h2]
 unfold Zhe at hE
 split at hE
 case h_1=>cases hE
 rename_i s sh ks hg
 split at hE
 ·cases hE
 ·rename_i off hoff
  have key:∀(k:CK),ks[off]?=some k→ckV k=true→∀(w0:World) (F0:Nat→Prop) (X0:List Nat) (σ:List PV) (a:Act) (w:World) (F:Nat→Prop) (fp:Nat→List Nat) (kk:PV→Option R) (r:R),St w0 F0 X0 κ σ a.tmps w F fp→Zcv κ σ x→
   (((Znd (sv κ x) (dv κ σ x))[ix]?).bind kk)=some r→∃z v,kk z=some r∧(execOp a.eval o).run P w=.ok (.value v) w∧CR w F k z v []:=by
   intro k hks hkv w0 F0 X0 σ a w F fp kk r h hlx hdy
   obtain ⟨z,hz,hkk⟩:=Option.bind_eq_some_iff.1 hdy
   obtain ⟨cs,xs,fps,e1,e2,e3,e4,e5,e9,e6,e7,e8⟩:=ZrQ h hlx hg
   rw[e5] at hz
   obtain ⟨x1,v1,p1,p2,p3,p4⟩:=Zlm sh xs cs.toList ix off none e9 hoff
   rw[hz] at p1
   cases p1
   obtain ⟨k',c,f,g1,g2,g3,g4,g5⟩:=e6.at off z p3
   rw[hks] at g1
   cases g1
   rw[p4] at g2
   cases g2
   obtain rfl:=(Zf4 g4 hkv).2
   exact ⟨z,v1,hkk,run e3 (by simpa using p2),g4⟩
  split at hE
  ·rename_i hks
   cases hE
   refine Z9 hd rfl rfl fun w0 F0 X0 σ a w F fp kk r h htt hlv hdy=> ?_
   obtain ⟨z,v,hkk,hrun,hcr⟩:=key _ hks rfl w0 F0 X0 σ a w F fp kk r h (Zg hlv (by rw[hops];exact .head _)) (by rw[hops] at hdy;exact hdy)
   exact ⟨z,v,w,F,[],hrun,hkk,Adds.refl w h.fl,List.nodup_nil,hcr,by simp,fun _=>trivial,fun q hq=>by simp[Zp,Kd.bdep] at hq⟩
  ·rename_i hks
   cases hE
   refine Z9 hd rfl rfl fun w0 F0 X0 σ a w F fp kk r h htt hlv hdy=> ?_
   obtain ⟨z,v,hkk,hrun,hcr⟩:=key _ hks rfl w0 F0 X0 σ a w F fp kk r h (Zg hlv (by rw[hops];exact .head _)) (by rw[hops] at hdy;exact hdy)
   exact ⟨z,v,w,F,[],hrun,hkk,Adds.refl w h.fl,List.nodup_nil,hcr,by simp,fun _=>trivial,fun q hq=>by simp[Zp,Kd.bdep] at hq⟩
  ·rename_i app e sz hks
   split at hE
   case isTrue=>cases hE
   cases hE
   refine Zdz hd rfl fun w0 F0 X0 κ1 σ a w F F1 fp fp1 kk r h h1 htt hgg hF hall hlv hdy=> ?_
   have hdy':(((Znd (sv κ x) (dv κ σ x))[ix]?).bind kk)=some r:=by rw[hops] at hdy;exact hdy
   obtain ⟨z,hz,hkk⟩:=Option.bind_eq_some_iff.1 hdy'
   obtain ⟨cs,xs,fps,e1,e2,e3,e4,e5,e9,e6,e7,e8⟩:=ZrQ h (Zg hlv (by rw[hops];exact .head _)) hg
   rw[e5] at hz
   obtain ⟨x1,v1,p1,p2,p3,p4⟩:=Zlm sh xs cs.toList ix off none e9 hoff
   rw[hz] at p1
   cases p1
   obtain ⟨y',v0,l',lb',m1,m2,m3,m4,m5⟩:=hall _ (List.mem_singleton.2 rfl)
   simp only[Bool.false_eq_true,if_false] at m5
   rcases m1 with ⟨b',xs',t1,t2,t3,t4⟩|⟨tt,cs',xs',t1,t2,t3,t4,t5⟩|⟨cs',xs',t1,t2,t3,t4,t5⟩
   ·simp only at t1;rw[e2] at t1;cases t1
   ·omega
   ·simp only[Nat.add_sub_cancel] at t1 t2 t3 t4
    rw[e2] at t1
    rw[e4] at t3
    cases t1
    cases t3
    rw[p4] at t2
    cases t2
    rw[p3] at t4
    cases t4
    exact ⟨_,_,w,F1,lb',run e3 (by simpa using p2),hkk,rfl,rfl,rfl,Nat.le_refl _,fun _ _ _=>rfl,fun _ h=>h,fun _ h=>.inl h,h1.fl,m4,⟨l',m2,m3⟩,fun b hb=>⟨.inr (m5 b hb),(h1.pr _ b (m5 b hb)).1,(h1.pr _ b (m5 b hb)).2.1⟩,fun _=>trivial,fun q hq=>by simp[Kd.bdep] at hq⟩
  ·cases hE
 ·rename_i off n hoff
  split at hE
  case isFalse=>cases hE
  rename_i hc
  obtain ⟨hsd,hkl⟩:=hc
  cases hE
  refine Zdz hd rfl fun w0 F0 X0 κ1 σ a w F F1 fp fp1 kk r h h1 htt hgg hF hall hlv hdy=> ?_
  have hdy':(((Znd (sv κ x) (dv κ σ x))[ix]?).bind kk)=some r:=by rw[hops] at hdy;exact hdy
  obtain ⟨z,hz,hkk⟩:=Option.bind_eq_some_iff.1 hdy'
  obtain ⟨cs,xs,fps,e1,e2,e3,e4,e5,e9,e6,e7,e8⟩:=ZrQ h (Zg hlv (by rw[hops];exact .head _)) hg
  rw[e5] at hz
  obtain ⟨x1,v1,p1,p2,l,c,rfl,rfl,q1,q2,q3,q4⟩:=Zlm sh xs cs.toList ix off (some n) e9 hoff
  rw[hz] at p1
  cases p1
  have hgr:=(e6.drop off).take n
  rw[q3,q4] at hgr
  have hst:Stays w F w F1:=⟨hF,fun _ _=>rfl⟩
  have hown:∀b∈((fps.drop off).take n).flatten,b∈fp1 d:=by
   refine ZeW hgr (own:=fun b=>b∈fp1 d) fun i app e sz x' v' lb' k1 k2 k3 k4 b hbb=> ?_
   have hm:=ZfG (s:=s) _ (off+tgB) i k1
   obtain ⟨y',v'',l',lb'',m1,m2,m3,m4,m5⟩:=hall _ hm
   simp only[Bool.false_eq_true,if_false] at m5
   have hvv:v''=v':=by
    rcases m1 with ⟨b',xs',t1,t2,t3,t4⟩|⟨tt,cs',xs',t1,t2,t3,t4,t5⟩|⟨cs',xs',t1,t2,t3,t4,t5⟩
    ·simp only at t1;rw[e2] at t1;cases t1
    ·omega
    ·simp only at t1 t2
     rw[e2] at t1
     cases t1
     have hin:i<n:=by
      have:=(List.getElem?_eq_some_iff.1 k1).1
      omega
     have:(ZdV cs.toList)[off+i]?=some v':=by
      rw[←q4] at k3
      rw[List.getElem?_take_of_lt hin,List.getElem?_drop] at k3
      exact k3
     rw[show off+tgB+i - tgB=off+i from by omega,this] at t2
     exact (Option.some.inj t2).symm
   subst hvv
   obtain ⟨l0,rfl,hr0⟩:=k4
   have:=hr0.lb_eq m3
   subst this
   exact m5 b hbb
  exact ⟨_,_,w,F1,((fps.drop off).take n).flatten,run e3 (by simpa using p2),hkk,rfl,rfl,rfl,Nat.le_refl _,fun _ _ _=>rfl,fun _ h=>h,fun _ h=>.inl h,h1.fl,ZnX e7 off n,⟨c,l,_,rfl,rfl,hgr.keep hst fun _ _=>rfl,rfl⟩,fun b hb=>⟨.inr (hown b hb),(h1.pr _ b (hown b hb)).1,(h1.pr _ b (hown b hb)).2.1⟩,fun _=>trivial,fun q hq=>by simp[Kd.bdep] at hq⟩
theorem ZlQ {ix:Nat} {x:Operand} {d:Nat} (hop:o.op=.extract x ix) (hd:o.dst=some d) (hk:kOp κ x=.tip) (hE:Zhf d ix=some E):Zat P o κ E:=by
 have hops:o.op.operands.toList=[x]:=by rw[hop];rfl
 have run:∀{ρ:Operand→Value} {w:World} {cs:Array Value} {v:Value},ρ x=.tuple cs→cs[ix]?=some v→(execOp ρ o).run P w=.ok (.value v) w:=by
  intro ρ w cs v h1 h2
  simp[execOp,hop,Instr.extract,h1,h2]
 have hx:∃t,x=.tmp t:=by
  cases x<;>first|exact ⟨_,rfl⟩|cases hk
 obtain ⟨t,rfl⟩:=hx
 have hkt:kd κ t=.tip:=hk
 unfold Zhf at hE
 split at hE
 ·cases hE
  refine Z9 hd rfl rfl fun w0 F0 X0 σ a w F fp kk r h htt hlv hdy=> ?_
  rw[hops] at hdy
  obtain ⟨z,hz,hkk⟩:=Option.bind_eq_some_iff.1 hdy
  obtain ⟨l,hn,hsub,hsr⟩:=h.sr t
  rw[hkt] at hsr
  obtain ⟨⟨p,u,xs,y,e1,e2,e3,e4⟩,e5⟩:=hsr
  have e2':(dv κ σ (.tmp t)).v=.tup [.agg xs,y]:=e2
  replace hz:(dv κ σ (.tmp t)).v.parts[0]?=some z:=hz
  rw[e2'] at hz
  cases hz
  exact ⟨_,p,w,F,[],run (show a.eval (.tmp t)=_ from e1) rfl,hkk,Adds.refl w h.fl,List.nodup_nil,⟨fun _=>e3,rfl⟩,by simp,fun _=>trivial,fun q hq=>by simp[Zp,Kd.bdep] at hq⟩
 ·cases hE
  refine Z9 hd rfl rfl fun w0 F0 X0 σ a w F fp kk r h htt hlv hdy=> ?_
  rw[hops] at hdy
  obtain ⟨z,hz,hkk⟩:=Option.bind_eq_some_iff.1 hdy
  obtain ⟨l,hn,hsub,hsr⟩:=h.sr t
  rw[hkt] at hsr
  obtain ⟨⟨p,u,xs,y,e1,e2,e3,e4⟩,e5⟩:=hsr
  have e2':(dv κ σ (.tmp t)).v=.tup [.agg xs,y]:=e2
  replace hz:(dv κ σ (.tmp t)).v.parts[1]?=some z:=hz
  rw[e2'] at hz
  cases hz
  exact ⟨_,u,w,F,[],run (show a.eval (.tmp t)=_ from e1) rfl,hkk,Adds.refl w h.fl,List.nodup_nil,⟨e4,rfl⟩,by simp,fun _=>trivial,fun q hq=>by simp[Zp,Kd.bdep] at hq⟩
 ·cases hE
theorem Zne {ix:Nat} {x:Operand} {d:Nat} (hop:o.op=.extract x ix) (hd:o.dst=some d) (hE:Zbb d ix (sv κ x)=some E):Zat P o κ E:=by
 unfold Zbb at hE
 split at hE
 ·rename_i hk
  have hk':kOp κ x=.tip:=by
   have:ZkM (kOp κ x)=true:=hk
   unfold ZkM at this
   split at this
   ·assumption
   ·cases this
  exact ZlQ hop hd hk' hE
 split at hE
 ·exact ZlO hop hd hE
 ·exact ZlP hop hd hE
end
def capK (s:SV):Bool:=
 match s.boxAt with
 |some (_,ks,_)=>ks.all fun k=>k≠.none
 |none=>s.k=.ipt||(match s.k,s.pk with|.mbx _,.mp _ _=>true|_,_=>false)
def capV (s:SV) (d:DV):PV:=
 match s.boxAt with
 |some (_,_,off)=>.agg ((ZdX s d).drop off)
 |none=>match s.k with|.mbx _=>.agg [d.pv]|_=>d.v
def Zjr :List SV→List DV→List PV
 |s::ss,d::ds=>capV s d::Zjr ss ds
 |_,_=>[]
def Zhg {R:Type} (d:Nat) (fn:Fn) (first:List Operand) (svs:List SV):Option (Eff R):=
 match fn,first with
 |.func f,[]=>if d≠ZoQ∧svs.all capK=true then some (Zp d (.cln f) fun ds kk=>kk (.tup (Zjr svs ds))) else none
 |_,_=>none
def ZaN (ti:TI):PV:=if ti.agg then .agg (ti.zero.map ZC.pv) else (ti.zero.map ZC.pv).headD .undef
def ZnY (te:TI) (x:PV):Option PV:=
 match x with
 |.int _ n=>if 0≤n∧n≤4294967296 then some (.lst (List.replicate n.toNat (ZaN te))) else none
 |_=>none
def Zf0 {R:Type} (T:Tab) (d:Nat) (t:TypeId) (same:Bool) (x:SV):Option (Eff R):=
 match T.lookup t with
 |none=>none
 | some ti=>
  match ti.desc with
  | .slice e=>
   match T.lookup e with
   |none=>none
   |some te=>if same∧x.isV∧te.size≠0∧te.bytes≤32768∧(te.agg=true∨te.size=1)∧(te.zero.all fun z=>z≠.other)=true then some (Zp d (.ck (.own true e te.size)) (ZcD fun x _=>ZnY te x.v)) else none
  |_=>none
def Zkf (n:Nat):Option PV→Option Nat
 |none=>some n
 |some (.int _ i)=>if 0≤i∧i≤n then some i.toNat else none
 |_=>none
def ZoC (n:Nat):Option PV→Option Nat
 |none=>some 0
 |some (.int _ i)=>if 0≤i∧i≤n then some i.toNat else none
 |_=>none
def ZgZ (x:PV) (lo hi:Option PV):Option PV:=
 match x with
 |.str s=>(Zkf s.length hi).bind fun h=>(ZoC h lo).bind fun l=>some (.str ((s.take h).drop l))
 |_=>none
def Zk3 (n:Nat) (x:PV) (lo hi:Option PV):Option PV:=
 match x with
 |.lst s=>(Zkf s.length hi).bind fun h=>(ZoC h lo).bind fun l=>if s.all (ZaG n)=true then some (.lst ((s.take h).drop l)) else none
 |_=>none
def ZrR {R:Type} (f:PV→Option PV→Option PV→Option PV) (lo hi:Bool):List DV→(PV→Option R)→Option R:=fun ds kk=>
 match lo,hi,ds with
 |false,false,[x]=>(f x.v none none).bind kk
 |true,false,[x,l]=>(f x.v (some l.v) none).bind kk
 |false,true,[x,h]=>(f x.v none (some h.v)).bind kk
 |true,true,[x,l,h]=>(f x.v (some l.v) (some h.v)).bind kk
 |_,_,_=>none
def Zjs {R:Type} (T:Tab) (d:Nat) (t:TypeId) (x:SV) (lo hi:Option SV):Option (Eff R):=
 match T.lookup t with
 |none=>none
 | some ti=>
  if x.isV∧(lo.all SV.isV∧hi.all SV.isV) then
   match ti.desc with
   |.str=>some (Zp d (.ck .val) (ZrR ZgZ lo.isSome hi.isSome))
   | .slice e=>match T.lookup e with
    |some te=>some (Zp d (.ck .val) (ZrR (Zk3 te.size) lo.isSome hi.isSome))
    |none=>none
   |_=>none
  else none
def ZvG (k:IntKind):PV→Option PV
 |.int _ n=>some (.int k (k.wrap n))
 |_=>none
def ZnZ :PV→Option PV
 |.str s=>if s.length≤9223372036854775807 then some (.lst (s.map fun b=>.int .u8 b.toNat)) else none
 |_=>none
def Zkg :PV→Option UInt8
 |.int .u8 n=>if 0≤n∧n<256 then some (UInt8.ofNat n.toNat) else none
 |_=>none
def ZdL :List PV→Option (List UInt8)
 |[]=>some []
 |x::r=>(Zkg x).bind fun b=>(ZdL r).bind fun l=>some (b::l)
def ZiD {R:Type} (T:Tab) (d:Nat) (s t:TypeId) (x:SV):Option (Eff R):=
 match T.lookup s,T.lookup t with
 | some si,some ti=>
  match si.desc,ti.desc with
  |.int _,.int k=>if x.isV then some (Zp d (.ck .val) (Zb4 fun x=>ZvG k x.v)) else none
  | .str,.slice e=>
   match T.lookup e with
   |some te=>if te.desc=.int .u8∧te.size=1∧x.isV then some (Zp d (.ck (.own false e 1)) (Zb4 fun x=>ZnZ x.v)) else none
   |none=>none
  | .slice e,.str=>
   match T.lookup e with
   |some te=>if te.desc=.int .u8∧(ZbH x).isSome then some (Zp d (.ck .val) (Zb4 fun y=>(Zi x y).bind fun l=>(ZdL l).map .str)) else none
   |none=>none
  |_,_=>none
 |_,_=>none
section
variable {R :Type} {P:Program} {T:Tab} {o:Oper} {κ κ1:List Kd} {E:Eff R}
variable {w0 :World} {F0:Nat→Prop} {X0:List Nat} {σ:List PV} {a:Act} {w:World} {F F1:Nat→Prop} {fp fp1:Nat→List Nat}
theorem GrpR.all_vr {ks:List CK} {xs:List PV} {vs:List Value} {fps:List (List Nat)} (h:GrpR w F true ks xs vs fps) (hk:(ks.all fun k=>k≠.none)=true) (hF:∀b,F b→F1 b) (hb:∀b∈fps.flatten,F1 b):∀(i:Nat) (x:PV),xs[i]?=some x→x.one=true∧∃v,vs[i]?=some v∧VR w F1 x v:=fun i x hx=>by
 obtain ⟨k,v,fp,h1,h2,h3,h4,h5⟩:=h.at i x hx
 have hne:k≠.none:=by simpa using List.all_eq_true.1 hk k (List.mem_of_getElem? h1)
 refine ⟨h5 rfl,v,h2, ?_⟩
 have hst:Stays w F w F1:=⟨hF,fun _ _=>rfl⟩
 cases k with
 |none=>exact absurd rfl hne
 |val=>exact h4.1.keep hst
 |nil=>exact (CR.vr (k:=.nil) h4 (.inr rfl)).1.keep hst
 | own app e sz=>
  obtain ⟨l,rfl,hr⟩:=h4
  exact hr.vr (fun b hbb=>hb b (List.mem_flatten.2 ⟨fp,List.mem_of_getElem? h3,hbb⟩)) hF
theorem MapR.at {l:List (PV×PV)} {es:List MapEntry} (h:MapR w F l es):l.length=es.length∧∀(i:Nat) (p:PV×PV) (e:MapEntry),l[i]?=some p→es[i]?=some e→VR w F p.1 e.key∧VR w F p.2 e.val:=by
 induction h with
 |nil=>exact ⟨rfl,fun i p e hp=>by simp at hp⟩
 | cons hk hx ht ih=>
  refine ⟨by simp[ih.1],fun i p e hp he=> ?_⟩
  cases i with
  |zero=>simp at hp he;subst hp he;exact ⟨hk,hx⟩
  |succ i=>exact ih.2 i p e (by simpa using hp) (by simpa using he)
theorem ZwO {l:List (PV×PV)} {es:Array MapEntry} {m clock:Nat} (h:MapR w F l es.toList) (hm:w.heap[m]?=some (.map es clock)):VR w (fun b=>F b∨b<w.heap.size) (.map l) (.map (some m)):=by
 obtain ⟨h1,h2⟩:=h.at
 have hm':m<w.heap.size:=(Array.getElem?_eq_some_iff.1 hm).1
 have hst:Stays w F w (fun b=>F b∨b<w.heap.size):=⟨fun _ h=>.inl h,fun _ _=>rfl⟩
 exact .map l m clock es (.inr hm') hm (by simpa using h1) (fun i p e hp he=>(h2 i p e hp (by simpa using he)).1.keep hst) (fun i p e hp he=>(h2 i p e hp (by simpa using he)).2.keep hst)
theorem Ztv (h:St w0 F0 X0 κ σ a.tmps w F fp) {x:Operand} (hl:Zcv κ σ x) (hk:capK (sv κ x)=true):Znm w (fun b=>b<w.heap.size) (capV (sv κ x) (dv κ σ x)) (a.eval x):=by
 unfold capK at hk
 unfold capV
 cases hb:(sv κ x).boxAt with
 | some p=>
  obtain ⟨q,ks,off⟩:=p
  rw[hb] at hk
  obtain ⟨b,cs,TT,xs,fps,_,e1,e2,e3,e4,e5,e6,e7,e8,e9⟩:=ZeA h hl hb
  refine ⟨b,off,xs.drop off,e5, ?_,(Array.getElem?_eq_some_iff.1 e6).1,fun j y hy=> ?_⟩
  ·dsimp only;rw[e3]
  ·rw[List.getElem?_drop] at hy
   have hb':∀c∈fps.flatten,c<w.heap.size:=fun c hc=>(h.pr q c (e9 c (List.mem_cons_of_mem _ hc))).1
   obtain ⟨h1,v,h2,h3⟩:=e7.all_vr (F1:=fun b=>b<w.heap.size) hk h.fl hb' _ y hy
   exact ⟨h1,v,by rw[cell_of_row w b _ cs TT (0,0) e6];simpa using h2,h3⟩
 | none=>
  rw[hb] at hk
  simp only[Bool.or_eq_true,decide_eq_true_eq] at hk
  rcases hk with hk'|hk
  ·obtain ⟨l,_,hsr⟩:=h.at' x (by rw[hk'];simp)
   rw[hk'] at hsr
   dsimp only
   rw[hk']
   exact (hsr.1 (hl (by show (kOp κ x).hangs=true;rw[show kOp κ x=.ipt from hk'];rfl))).keep ⟨fun b hb=>h.fl b hb,fun _ _=>rfl⟩
  ·split at hk
   case h_2=>cases hk
   rename_i s kt et hk' hpk
   have hk2:kOp κ x=.mbx s:=hk'
   obtain ⟨l,_,hsr⟩:=h.at' x (by rw[hk'];simp)
   rw[hk'] at hsr
   obtain ⟨⟨b,e1,e2⟩,_⟩:=hsr
   have hal:=h.al' x hl
   rw[hk'] at hal
   obtain ⟨b',e3,e4⟩:=hal
   rw[e1] at e3
   simp at e3
   subst e3
   have hps:kd κ s=.mp kt et:=by simpa[sv,hk2,Kd.dep] using hpk
   obtain ⟨lm,_,hlm,hsm⟩:=h.sr s
   rw[hps] at hsm
   obtain ⟨m,clock,es,lp,m1,m2,m3,m4,m5⟩:=hsm
   have hpv:(dv κ σ x).pv=.map lp:=by simpa[dv,hk2,Kd.dep] using m2
   dsimp only
   rw[hk']
   refine ⟨b,0,[.map lp],e1,by dsimp only;rw[hpv],h.fl b e2,fun j y hy=> ?_⟩
   match j with
   | 0=>
    simp at hy
    subst hy
    exact ⟨rfl,_,by rw[e4,m1],(ZwO m4 m3).keep ⟨fun c hc=>hc.elim (h.fl c) id,fun _ _=>rfl⟩⟩
   |j+1=>simp at hy
theorem ZlR {fn:Fn} {first captured:Array Operand} {d:Nat} (hop:o.op=.makeFunc fn first captured) (hd:o.dst=some d) (hE:Zhg d fn first.toList (captured.toList.map (sv κ))=some E):Zat P o κ E:=by
 unfold Zhg at hE
 split at hE
 case h_2=>cases hE
 rename_i f hfirst
 split at hE
 case isFalse=>cases hE
 rename_i hc
 cases hE
 have hf0:first= #[]:=by simpa using hfirst
 subst hf0
 have hops:o.op.operands.toList=captured.toList:=by rw[hop];simp[Op.operands]
 refine Z9 hd rfl rfl fun w0 F0 X0 σ a w F fp kk r h ht hlv hdy=> ?_
 rw[hops] at hdy hlv
 have hrun:(execOp a.eval o).run P w=.ok (.value (.func (.func f) #[] (captured.map a.eval))) w:=by simp[execOp,hop,Instr.makeFunc]
 have hlen:∀(l:List Operand),(Zjr (l.map (sv κ)) (l.map (dv κ σ))).length=l.length:=by
  intro l;induction l with
  |nil=>rfl
  |cons x r ih=>simp[Zjr,ih]
 have hat:∀(l:List Operand),(∀x∈l,Zcv κ σ x)→(∀x∈l,capK (sv κ x)=true)→∀(i:Nat) (y:PV),(Zjr (l.map (sv κ)) (l.map (dv κ σ)))[i]?=some y→∃x,l[i]?=some x∧Znm w (fun b=>b<w.heap.size) y (a.eval x):=by
  intro l
  induction l with
  |nil=>intro _ _ i y hy;simp[Zjr] at hy
  | cons x r ih=>
   intro h1 h2 i y hy
   cases i with
   |zero=>simp[Zjr] at hy;subst hy;exact ⟨x,rfl,Ztv h (h1 x List.mem_cons_self) (h2 x List.mem_cons_self)⟩
   |succ i=>simpa using ih (fun z hz=>h1 z (List.mem_cons_of_mem _ hz)) (fun z hz=>h2 z (List.mem_cons_of_mem _ hz)) i y (by simpa[Zjr] using hy)
 have hsz:(Zjr (captured.toList.map (sv κ)) (captured.toList.map (dv κ σ))).length=(captured.map a.eval).size:=by rw[hlen];simp
 refine ⟨_,_,w,F,[],hrun,hdy,Adds.refl w h.fl,List.nodup_nil,⟨⟨_,_,.inl ⟨rfl,rfl,hsz⟩⟩,rfl⟩,by simp,fun _=>⟨_,_,rfl,rfl,hsz,fun i y hy=> ?_⟩,fun q hq=>by simp[Zp,Kd.bdep] at hq⟩
 obtain ⟨x,hx,hi⟩:=hat captured.toList (fun x hx=>Zg hlv hx) (fun x hx=>List.all_eq_true.1 hc.2 _ (List.mem_map.2 ⟨x,hx,rfl⟩)) i y hy
 have hx':captured[i]?=some x:=by simpa using hx
 have:(captured.map a.eval).getD i Go.undef=a.eval x:=by simp[Array.getD_eq_getD_getElem?,hx']
 rw[this]
 exact hi
theorem zc_vr {w:World} {F:Nat→Prop} (v:Value) (h:Zf2 v≠.other):VR w F (Zf2 v).pv v:=by
 have:=ZvX (w:=w) (F:=F) v
 cases hz:Zf2 v with
 |int k=>rw[hz] at this;exact this.1
 |bool=>rw[hz] at this;exact this.1
 |str=>rw[hz] at this;exact this.1
 |nil=>rw[hz] at this;exact (CR.vr (k:=.nil) this (.inr rfl)).1
 |other=>exact absurd hz h
theorem ZoD {t:TypeId} {ti:TI} (ht:TyOk P t ti) (hz:(ti.zero.all fun z=>z≠.other)=true) (hs:ti.agg=true∨ti.size=1) {w:World} {F:Nat→Prop}:∃u:Value,VR w F (ZaN ti) u∧u.cells=ht.zv.cells∧(ZaN ti).width=ti.size∧ZaN ti≠.undef:=by
 have h1:=ht.hzero
 have h2:=ht.hzs
 have cell:∀(i:Nat) (v:Value),ht.zv.cells[i]?=some v→(ti.zero.map ZC.pv)[i]?=some (Zf2 v).pv∧VR w F (Zf2 v).pv v:=fun i v hv=>by
  have hv':ht.zv.cells.toList[i]?=some v:=by simpa using hv
  have hm:ti.zero[i]?=some (Zf2 v):=by rw[h1,List.getElem?_map,hv'];rfl
  exact ⟨by rw[List.getElem?_map,hm];rfl,zc_vr v (by simpa using List.all_eq_true.1 hz _ (List.mem_of_getElem? hm))⟩
 have hlen:(ti.zero.map ZC.pv).length=ti.size:=by rw[h1];simp[h2]
 cases ha:ti.agg
 ·have hs1:ti.size=1:=by rcases hs with hs|hs;rw[ha] at hs;cases hs;exact hs
  unfold ZaN
  rw[ha]
  simp only[Bool.false_eq_true,if_false]
  have hc0:ht.zv.cells[0]?=some (ht.zv.cells[0]'(by omega)):=Array.getElem?_eq_getElem (by omega)
  obtain ⟨g1,g2⟩:=cell 0 _ hc0
  have hhd:(ti.zero.map ZC.pv).headD .undef=(Zf2 (ht.zv.cells[0]'(by omega))).pv:=by
   cases hl:ti.zero.map ZC.pv with
   |nil=>rw[hl] at g1;cases g1
   |cons x r=>rw[hl] at g1;simpa using g1
  rw[hhd]
  have hone:=Zl8 (Zf2 (ht.zv.cells[0]'(by omega)))
  refine ⟨_,g2, ?_, ?_,fun e=>by rw[e] at hone;cases hone⟩
  ·rw[g2.oneCell hone]
   apply Array.ext'
   apply List.ext_getElem?
   intro j
   cases j with
   |zero=>simp
   |succ j=>rw[List.getElem?_eq_none (by simp),List.getElem?_eq_none (by simp;omega)]
  ·generalize (Zf2 (ht.zv.cells[0]'(by omega))).pv=y at hone
   cases y<;>simp[PV.one] at hone<;>simp[PV.width,hs1]
 ·unfold ZaN
  rw[ha]
  simp only[if_true]
  obtain ⟨cs,hcs⟩:=ht.hagg ha
  rw[hcs] at cell h2
  rw[hcs]
  refine ⟨.agg cs, ?_,rfl,hlen,by simp⟩
  refine .agg _ cs (by rw[hlen];simpa[Value.cells] using h2.symm) (fun i x hx=> ?_) (fun i x hx=> ?_)
  ·rw[List.getElem?_map] at hx
   cases hzz:ti.zero[i]? with
   |none=>rw[hzz] at hx;cases hx
   |some z=>rw[hzz] at hx;cases hx;exact Zl8 z
  ·have hi:i<cs.size:=by
    have:=(List.getElem?_eq_some_iff.1 hx).1
    rw[hlen,←h2] at this
    exact this
   have hv:cs[i]?=some cs[i]:=Array.getElem?_eq_getElem hi
   obtain ⟨g1,g2⟩:=cell i cs[i] hv
   rw[g1] at hx
   cases hx
   simpa[Array.getD_eq_getD_getElem?,hv] using g2
theorem Zk4 (hT:TabOk P T) {t:TypeId} {x y:Operand} {same:Bool} {d:Nat} (hop:o.op=.makeSlice t x y) (hsame:same=true→x=y) (hd:o.dst=some d) (hE:Zf0 T d t same (sv κ x)=some E):Zat P o κ E:=by
 unfold Zf0 at hE
 split at hE
 case h_1=>cases hE
 rename_i ti hi
 obtain ⟨ht⟩:=hT.ty hi
 split at hE
 case h_2=>cases hE
 rename_i e hds
 have hus:=ZaM ht hds
 split at hE
 case h_1=>cases hE
 rename_i te hte
 obtain ⟨he⟩:=hT.ty hte
 split at hE
 case isFalse=>cases hE
 rename_i hc
 obtain ⟨c1,c2,c3,c4,c5,c6⟩:=hc
 obtain rfl:=hsame c1
 cases hE
 refine Z9 hd rfl rfl fun w0 F0 X0 σ a w F fp kk r h htt hlv hdy=> ?_
 have hdy':((ZnY te (dv κ σ x).v).bind kk)=some r:=by rw[hop] at hdy;exact hdy
 obtain ⟨z,hz,hkk⟩:=Option.bind_eq_some_iff.1 hdy'
 have hx:=rdS h c2
 unfold ZnY at hz
 split at hz
 case h_2=>cases hz
 rename_i k n hv
 rw[hv] at hx
 have hx:=hx.int_eq
 split at hz
 case isFalse=>cases hz
 rename_i hn
 cases hz
 obtain ⟨m,rfl⟩:∃m:Nat,n=m:=⟨n.toNat,by omega⟩
 have hby:(he.row.bytes:Int) * (m:Int)≤281474976710656:=by
  rw[he.hbytes]
  have:te.bytes * m≤32768 * 4294967296:=Nat.mul_le_mul c4 (by omega)
  have h2:((te.bytes * m:Nat):Int)≤281474976710656:=by omega
  rwa[Int.natCast_mul] at h2
 have hr:=run_make (P:=P) w t e he.row he.zv hus he.hrow he.hz k k m m (by omega) (Int.le_refl _) hby (by omega)
 simp only[Int.toNat_natCast] at hr
 obtain ⟨u,z1,z2,z3,z4⟩:=ZoD he c6 c5 (w:=w.alloc (.cells (madeCells he.zv.cells (m * he.row.size)) e)) (F:=F)
 have hus':u.cells.size=te.size:=by rw[z2];exact he.hzs
 refine ⟨_,.slice (some ⟨w.heap.size,0,none⟩) m m,_,F,[w.heap.size],by simp[execOp,hop,hx,hr],hkk,(Adds.refl w h.fl).alloc _,by simp,⟨_,rfl,.inr ⟨w.heap.size,m,madeCells he.zv.cells (m * he.row.size),(0,0), ?_,rfl,heap_alloc_new w _,fun _=>rfl,.inl (Nat.le_refl _), ?_, ?_, ?_,fun i y hy=> ?_⟩⟩,fun b hb=> ?_,fun _=>trivial,fun q hq=>by simp[Zp,Kd.bdep] at hq⟩
 ·simp
 ·simp
 ·unfold maxLen;omega
 ·rw[size_madeCells,he.hsize]
 ·have hi:i<m:=by have:=(List.getElem?_eq_some_iff.1 hy).1;simpa using this
  have hy':y=ZaN te:=by
   rw[List.getElem?_replicate] at hy
   simp only[Int.toNat_natCast,hi,if_true,Option.some.injEq] at hy
   exact hy.symm
  subst hy'
  refine ⟨z3,z4,u,z1,fun j c hcc=> ?_⟩
  have hj:j<te.size:=by rw[←hus'];exact (Array.getElem?_eq_some_iff.1 hcc).1
  have hlt:i * te.size+j<m * te.size:=by
   have:(i+1) * te.size≤m * te.size:=Nat.mul_le_mul_right _ hi
   rw[Nat.succ_mul] at this
   omega
  rw[he.hsize]
  unfold madeCells
  rw[Array.getElem?_map,Array.getElem?_range,if_pos hlt]
  simp only[Option.map_some,Option.some.injEq]
  have e1:(i * te.size+j) % he.zv.cells.size=j:=by rw[he.hzs,Nat.mul_comm,Nat.mul_add_mod,Nat.mod_eq_of_lt hj]
  rw[e1]
  rw[z2] at hcc
  obtain ⟨hlt2,rfl⟩:=Array.getElem?_eq_some_iff.1 hcc
  exact getElem!_pos he.zv.cells j hlt2
 ·simp at hb;subst hb;exact ⟨Nat.le_refl _,by simp,fun hc=>by have:=h.fl _ hc;omega⟩
theorem VR.part {w:World} {F:Nat→Prop} {l:List PV} {A:Option Addr} {c:Nat} (h:VR w F (.lst l) (.slice A l.length c)) (lo hi sz:Nat) (h1:lo≤hi) (h2:hi≤l.length) (hsz:∀(i:Nat) (x:PV),l[i]?=some x→x.width=sz):VR w F (.lst ((l.take hi).drop lo)) (sliced A lo hi c sz):=by
 cases h with
 | lst _ _ _ sz' vs g1 g2 g3 g4 g5=>
  have hl:((l.take hi).drop lo).length=hi - lo:=by simp;omega
  have hget:∀i,i<hi - lo→((l.take hi).drop lo)[i]?=l[lo+i]?:=fun i hi'=>by
   rw[List.getElem?_drop,List.getElem?_take,if_pos (by omega)]
  unfold sliced
  rw[←hl]
  refine .lst _ _ _ sz (fun i=>vs (lo+i)) (by rw[hl];omega) (by omega) (fun hne=> ?_) (fun i x hx=> ?_) (fun i x hx=> ?_)
  ·have hlt:lo<hi:=by
    rcases Nat.lt_or_ge lo hi with hh|hh
    ·exact hh
    ·exfalso;apply hne;apply List.eq_nil_of_length_eq_zero;omega
   have hln:l≠[]:=by rintro rfl;simp at h2;omega
   obtain ⟨b,off,rfl,hF,hc⟩:=g3 hln
   refine ⟨b,off+lo * sz, ?_,hF,fun i hi' j u hj=> ?_⟩
   ·rw[if_neg (by omega)];simp[Addr.add_lit]
   ·rw[hl] at hi'
    have hx:l[lo+i]?=some l[lo+i]:=List.getElem?_eq_getElem (by omega)
    have hs:sz'=sz:=by rw[←(g4 _ _ hx).1];exact hsz _ _ hx
    subst hs
    have:=hc (lo+i) (by omega) j u hj
    rw[Nat.add_mul] at this
    rw[show off+lo * sz'+i * sz'+j=off+(lo * sz'+i * sz')+j from by omega]
    exact this
  ·have hi':i<hi - lo:=by rw[←hl];exact (List.getElem?_eq_some_iff.1 hx).1
   rw[hget i hi'] at hx
   have hs:sz'=sz:=by rw[←(g4 _ _ hx).1];exact hsz _ _ hx
   subst hs
   exact g4 _ _ hx
  ·have hi':i<hi - lo:=by rw[←hl];exact (List.getElem?_eq_some_iff.1 hx).1
   rw[hget i hi'] at hx
   exact g5 _ _ hx
theorem ZlS {n c:Nat} (hnc:n≤c) {isS:Bool} {lo hi:Option PV} {h l:Nat} {vl vh:Option Value} (hh:Zkf n hi=some h) (hl:ZoC h lo=some l) (e1:∀z,lo=some z→∃v,vl=some v∧∀k i,z=.int k i→v=.int k i) (e1':lo=none→vl=none) (e2:∀z,hi=some z→∃v,vh=some v∧∀k i,z=.int k i→v=.int k i) (e2':hi=none→vh=none) (w:World):
 (Instr.sliceBounds isS n c vl vh none).run P w=.ok (l,h,c) w∧l≤h∧h≤n:=by
 have hb:h≤n∧((vh=none∧h=n)∨∃k i,vh=some (.int k i)∧0≤i∧i≤(n:Int)∧h=i.toNat):=by
  cases hi with
  |none=>have:=e2' rfl;simp[Zkf] at hh;subst this;simp[hh]
  | some z=>
   obtain ⟨v,rfl,hv⟩:=e2 z rfl
   cases z<;>simp[Zkf] at hh
   obtain ⟨⟨h1,h2⟩,rfl⟩:=hh
   exact ⟨by omega,.inr ⟨_,_,by rw[hv _ _ rfl],h1,h2,rfl⟩⟩
 have lb:l≤h∧((vl=none∧l=0)∨∃k i,vl=some (.int k i)∧0≤i∧i≤(h:Int)∧l=i.toNat):=by
  cases lo with
  |none=>have:=e1' rfl;simp[ZoC] at hl;subst this;simp[←hl]
  | some z=>
   obtain ⟨v,rfl,hv⟩:=e1 z rfl
   cases z<;>simp[ZoC] at hl
   obtain ⟨⟨h1,h2⟩,rfl⟩:=hl
   exact ⟨by omega,.inr ⟨_,_,by rw[hv _ _ rfl],h1,h2,rfl⟩⟩
 refine ⟨?_,lb.1,hb.1⟩
 obtain ⟨hb1,hb2⟩:=hb
 obtain ⟨lb1,lb2⟩:=lb
 rcases hb2 with ⟨rfl,rfl⟩|⟨k,i,rfl,h1,h2,rfl⟩
 ·rcases lb2 with ⟨rfl,rfl⟩|⟨k',i',rfl,h3,h4,rfl⟩
  ·simp[Instr.sliceBounds]
  ·simp[Instr.sliceBounds,run_sliceBound w k' i' _ _ h3 h4]
 ·have h2':i≤(c:Int):=by omega
  rcases lb2 with ⟨rfl,rfl⟩|⟨k',i',rfl,h3,h4,rfl⟩
  ·cases isS<;>simp[Instr.sliceBounds,run_sliceBound w k i _ _ h1 h2']
  ·cases isS<;>simp[Instr.sliceBounds,run_sliceBound w k i _ _ h1 h2',run_sliceBound w k' i' _ _ h3 h4]
theorem Zhh (hT:TabOk P T) {t:TypeId} {x:Operand} {lo hi:Option Operand} {d:Nat} (hop:o.op=.slice t x lo hi none) (hd:o.dst=some d) (hE:Zjs T d t (sv κ x) (lo.map (sv κ)) (hi.map (sv κ))=some E):Zat P o κ E:=by
 have hops:o.op.operands.toList=x::(lo.toList++hi.toList):=by rw[hop];cases lo<;>cases hi<;>rfl
 unfold Zjs at hE
 split at hE
 case h_1=>cases hE
 rename_i ti hti
 obtain ⟨ht⟩:=hT.ty hti
 split at hE
 case isFalse=>cases hE
 rename_i hc
 obtain ⟨c1,c2,c3⟩:=hc
 have hvl:∀(w0:World) (F0:Nat→Prop) (X0:List Nat) (σ:List PV) (a:Act) (w:World) (F:Nat→Prop) (fp:Nat→List Nat),St w0 F0 X0 κ σ a.tmps w F fp→∀(y:Option Operand),(y.map (sv κ)).all SV.isV=true→(∀z,y.map (fun u=>(dv κ σ u).v)=some z→∃v,y.map a.eval=some v∧∀k i,z=.int k i→v=.int k i)∧(y.map (fun u=>(dv κ σ u).v)=none→y.map a.eval=none):=by
  intro w0 F0 X0 σ a w F fp h y hy
  cases y with
  |none=>simp
  | some u=>
   simp only[Option.map_some,Option.all_some] at hy
   have hu:=rdS h hy
   refine ⟨fun z hz=>⟨_,rfl,fun k i e=> ?_⟩,by simp⟩
   simp only[Option.map_some,Option.some.injEq] at hz
   rw[←hz] at e
   rw[e] at hu
   exact hu.int_eq
 have hcut:∀(f:PV→Option PV→Option PV→Option PV) (σ:List PV) (kk:PV→Option R) (r:R),ZrR f (lo.map (sv κ)).isSome (hi.map (sv κ)).isSome (o.op.operands.toList.map (dv κ σ)) kk=some r→
  ∃z,f (dv κ σ x).v (lo.map fun u=>(dv κ σ u).v) (hi.map fun u=>(dv κ σ u).v)=some z∧kk z=some r:=by
  intro f σ kk r hdy
  rw[hops] at hdy
  cases lo<;>cases hi<;>exact Option.bind_eq_some_iff.1 hdy
 split at hE
 ·rename_i hds
  cases hE
  refine Za2 hd rfl rfl rfl fun w0 F0 X0 σ a w F fp kk r h htt hlv hdy=> ?_
  obtain ⟨z,hz,hkk⟩:=hcut _ σ kk r hdy
  have hx:=rdS h c1
  unfold ZgZ at hz
  split at hz
  case h_2=>cases hz
  rename_i s hv
  rw[hv] at hx
  have hx:=hx.str_eq
  obtain ⟨hh,hh1,hz⟩:=Option.bind_eq_some_iff.1 hz
  obtain ⟨ll,hl1,hz⟩:=Option.bind_eq_some_iff.1 hz
  cases hz
  obtain ⟨a1,a2⟩:=hvl w0 F0 X0 σ a w F fp h lo c2
  obtain ⟨b1,b2⟩:=hvl w0 F0 X0 σ a w F fp h hi c3
  obtain ⟨r1,r2,r3⟩:=ZlS (P:=P) (c:=s.length) (Nat.le_refl _) (isS:=false) hh1 hl1 a1 a2 b1 b2 w
  have hus:P.underlying t=some .string:=by
   have hdd:=ht.hd
   have hu:=ht.hdesc
   rw[hds] at hdd
   cases hd2:ht.desc<;>rw[hd2] at hdd<;>simp[Zf3] at hdd
   rw[←hd2];exact hu
  have hsz:(⟨s.toArray⟩:ByteArray).size=s.length:=by simp[ByteArray.size]
  refine ⟨.str ((s.take hh).drop ll),.string ⟨((s.take hh).drop ll).toArray⟩, ?_,hkk,.str _⟩
  have hext:(⟨s.toArray⟩:ByteArray).extract ll hh=⟨((s.take hh).drop ll).toArray⟩:=by
   have:((⟨s.toArray⟩:ByteArray).extract ll hh).data=((s.take hh).drop ll).toArray:=by
    rw[ByteArray.data_extract]
    simp[List.extract,List.drop_take]
   cases h':(⟨s.toArray⟩:ByteArray).extract ll hh
   rw[h'] at this
   simp at this
   rw[this]
  rw[←hsz] at r1
  simp only[execOp,hop,Option.map_none,Sem.run_bind,run_sliceAt_string w t _ _ _ _ hus]
  rw[hx]
  rw[hsz] at r1
  simp[Instr.slice,run_underlying hus,hsz,r1,hext]
 ·rename_i e hds
  have hus:=ZaM ht hds
  split at hE
  case h_2=>cases hE
  rename_i te hte
  obtain ⟨he⟩:=hT.ty hte
  cases hE
  refine Za2 hd rfl rfl rfl fun w0 F0 X0 σ a w F fp kk r h htt hlv hdy=> ?_
  obtain ⟨z,hz,hkk⟩:=hcut _ σ kk r hdy
  have hx:=rdS h c1
  unfold Zk3 at hz
  split at hz
  case h_2=>cases hz
  rename_i s hv
  rw[hv] at hx
  obtain ⟨A,c,hsl⟩:=hx.lst_eq
  rw[hsl] at hx
  obtain ⟨hh,hh1,hz⟩:=Option.bind_eq_some_iff.1 hz
  obtain ⟨ll,hl1,hz⟩:=Option.bind_eq_some_iff.1 hz
  split at hz
  case isFalse=>cases hz
  rename_i hok
  cases hz
  obtain ⟨a1,a2⟩:=hvl w0 F0 X0 σ a w F fp h lo c2
  obtain ⟨b1,b2⟩:=hvl w0 F0 X0 σ a w F fp h hi c3
  have hlc:s.length≤c:=by cases hx;assumption
  obtain ⟨r1,r2,r3⟩:=ZlS (P:=P) (c:=c) hlc (isS:=true) hh1 hl1 a1 a2 b1 b2 w
  have hel:P.elem t=e:=by simp[Program.elem,hus]
  have hus':P.underlying t=some (.slice (P.elem t)):=by rw[hel];exact hus
  have h4:=he.run_sizeOf w
  refine ⟨_,sliced A ll hh c te.size, ?_,hkk,hx.part ll hh te.size r2 r3 fun i y hy=> ?_⟩
  ·simp only[execOp,hop,Option.map_none,Sem.run_bind,run_sliceAt_slice w t _ _ _ _ hus']
   rw[hsl,run_slice_any w t A s.length c hus',r1]
   simp[hel,h4]
  ·have:=List.all_eq_true.1 hok y (List.mem_of_getElem? hy)
   obtain ⟨cl,hcl⟩:=Option.isSome_iff_exists.1 this
   exact (Zcw hcl).2.2.1
 ·cases hE
theorem Zeu {t:TypeId} {ti:TI} (ht:TyOk P t ti) {k:IntKind} (h:ti.desc=.int k):P.underlying t=some (.int k):=by
 have hdd:=ht.hd
 have hu:=ht.hdesc
 rw[h] at hdd
 cases hd2:ht.desc<;>rw[hd2] at hdd<;>simp[Zf3] at hdd
 rw[hdd,←hd2];exact hu
theorem Zjt {t:TypeId} {ti:TI} (ht:TyOk P t ti) (h:ti.desc=.str):P.underlying t=some .string:=by
 have hdd:=ht.hd
 have hu:=ht.hdesc
 rw[h] at hdd
 cases hd2:ht.desc<;>rw[hd2] at hdd<;>simp[Zf3] at hdd
 rw[←hd2];exact hu
theorem Zui {x:PV} {b:UInt8} (h:Zkg x=some b):x=.int .u8 b.toNat:=by
 unfold Zkg at h
 split at h
 ·rename_i n
  split at h
  ·rename_i hn
   cases h
   congr 1
   simp
   omega
  ·cases h
 ·cases h
theorem ZlT :∀{l:List PV} {bs:List UInt8},ZdL l=some bs→l=bs.map fun b=>.int .u8 b.toNat
 |[],bs,h=>by simp[ZdL] at h;subst h;rfl
 | x::r,bs,h=>by
  unfold ZdL at h
  obtain ⟨b,hb,h⟩:=Option.bind_eq_some_iff.1 h
  obtain ⟨l,hl,h⟩:=Option.bind_eq_some_iff.1 h
  cases h
  rw[Zui hb,ZlT hl]
  rfl
theorem Znf (hT:TabOk P T) {s t:TypeId} {x:Operand} {d:Nat} (hop:o.op=.convert s t x) (hd:o.dst=some d) (hE:ZiD T d s t (sv κ x)=some E):Zat P o κ E:=by
 have hops:o.op.operands.toList=[x]:=by rw[hop];rfl
 unfold ZiD at hE
 split at hE
 case h_2=>cases hE
 rename_i si ti hsi hti
 obtain ⟨hs⟩:=hT.ty hsi
 obtain ⟨ht⟩:=hT.ty hti
 split at hE
 ·rename_i k0 k h1 h2
  split at hE
  case isFalse=>cases hE
  rename_i hv
  cases hE
  refine Za2 hd rfl rfl rfl fun w0 F0 X0 σ a w F fp kk r h htt hlv hdy=> ?_
  rw[hops] at hdy
  obtain ⟨z,hz,hkk⟩:=Option.bind_eq_some_iff.1 hdy
  have hx:=rdS h hv
  replace hz:ZvG k (dv κ σ x).v=some z:=hz
  unfold ZvG at hz
  split at hz
  case h_2=>cases hz
  rename_i k1 n hv1
  cases hz
  rw[hv1] at hx
  have hx:=hx.int_eq
  refine ⟨_,.int k (k.wrap n), ?_,hkk,.int _ _⟩
  have u1:=Zeu hs h1
  have u2:=Zeu ht h2
  simp[execOp,hop,hx,convert,run_underlying u1,run_underlying u2,Conv.intToInt]
 ·rename_i e h1 h2
  split at hE
  case h_2=>cases hE
  rename_i te hte
  obtain ⟨he⟩:=hT.ty hte
  split at hE
  case isFalse=>cases hE
  rename_i hc
  obtain ⟨c1,c2,c3⟩:=hc
  cases hE
  have u1:=Zjt hs h1
  have u2:=ZaM ht h2
  have u3:=Zeu he c1
  refine Z9 hd rfl rfl fun w0 F0 X0 σ a w F fp kk r h htt hlv hdy=> ?_
  rw[hops] at hdy
  obtain ⟨z,hz,hkk⟩:=Option.bind_eq_some_iff.1 hdy
  have hx:=rdS h c3
  replace hz:ZnZ (dv κ σ x).v=some z:=hz
  unfold ZnZ at hz
  split at hz
  case h_2=>cases hz
  rename_i b hv1
  split at hz
  case isFalse=>cases hz
  rename_i hbig0
  have hbig:b.length≤maxLen:=hbig0
  cases hz
  rw[hv1] at hx
  have hx:=hx.str_eq
  have hr:=run_bytes_of_string (P:=P) w s t e ⟨b.toArray⟩ u1 u2 u3
  have hbs:(⟨b.toArray⟩:ByteArray).size=b.length:=by simp[ByteArray.size]
  rw[hbs] at hr
  have hge:=grownCap_ge w b.length 0 e
  have hcsz:(bytesRow ⟨b.toArray⟩ (grownCap w b.length 0 e)).size=grownCap w b.length 0 e:=by
   unfold bytesRow
   simp[hbs]
   omega
  have hrun:(execOp a.eval o).run P w=.ok (.value (.slice (some ⟨w.heap.size,0,none⟩) b.length (grownCap w b.length 0 e))) (w.drew.alloc (.cells (bytesRow ⟨b.toArray⟩ (grownCap w b.length 0 e)) e ((bytesRow ⟨b.toArray⟩ (grownCap w b.length 0 e)).size,(bytesRow ⟨b.toArray⟩ (grownCap w b.length 0 e)).size+1))):=by
   simp[execOp,hop,hx,hr]
  refine ⟨_,_,_,F,[w.heap.size],hrun,hkk,((Adds.refl w h.fl).drew).alloc _,by simp,⟨_,rfl,.inr ⟨w.heap.size,grownCap w b.length 0 e,bytesRow ⟨b.toArray⟩ (grownCap w b.length 0 e),((bytesRow ⟨b.toArray⟩ (grownCap w b.length 0 e)).size,(bytesRow ⟨b.toArray⟩ (grownCap w b.length 0 e)).size+1),by simp,rfl,heap_alloc_new w.drew _,(fun hc=>by cases hc),.inr (Nat.le_refl _),by simpa using hge,grownCap_le_maxLen w b.length 0 e hbig,by rw[hcsz,Nat.mul_one],fun i y hy=> ?_⟩⟩,fun c hc=> ?_,fun _=>trivial,fun q hq=>by simp[Zp,Kd.bdep] at hq⟩
  ·rw[List.getElem?_map] at hy
   obtain ⟨bb,hbb,rfl⟩:=Option.map_eq_some_iff.1 hy
   refine ⟨rfl,by simp,_,.int _ _,fun j c hc=> ?_⟩
   obtain ⟨hlt,rfl⟩:=List.getElem?_eq_some_iff.1 hbb
   cases j with
   | zero=>
    simp[Value.cells] at hc
    subst hc
    have:=bytesRow_at ⟨b.toArray⟩ (grownCap w b.length 0 e) i (by simpa using hlt)
    simpa using this
   |succ j=>simp[Value.cells] at hc
  ·simp at hc;subst hc;exact ⟨Nat.le_refl _,by simp,fun hc=>by have:=h.fl _ hc;omega⟩
 ·rename_i e h1 h2
  split at hE
  case h_2=>cases hE
  rename_i te hte
  obtain ⟨he⟩:=hT.ty hte
  split at hE
  case isFalse=>cases hE
  rename_i hc
  obtain ⟨c1,c2⟩:=hc
  cases hE
  have u1:=ZaM hs h1
  have u2:=Zjt ht h2
  have u3:=Zeu he c1
  refine Za2 hd rfl rfl rfl fun w0 F0 X0 σ a w F fp kk r h htt hlv hdy=> ?_
  have hlx:=Zg hlv (by rw[hops];exact .head _)
  rw[hops] at hdy
  obtain ⟨z,hz,hkk⟩:=Option.bind_eq_some_iff.1 hdy
  obtain ⟨l,hl,hz⟩:=Option.bind_eq_some_iff.1 hz
  obtain ⟨bs,hbs,rfl⟩:=Option.map_eq_some_iff.1 hz
  have hlb:=ZlT hbs
  have hok:l.all (ZaG 1)=true:=by rw[hlb];simp[ZaG,Zc]
  obtain ⟨A,c,hev,hsrc⟩:=Zkb h hlx hl hok (by omega) c2
  have hln:l.length=bs.length:=by rw[hlb];simp
  refine ⟨.str bs,.string ⟨bs.toArray⟩, ?_,hkk,.str _⟩
  by_cases hne:l=[]
  ·have:bs=[]:=List.eq_nil_of_length_eq_zero (by rw[←hln,hne];rfl)
   subst this
   rw[hln] at hev
   cases A with
   | none=>
    have h0:(Conv.bytesToString (.slice none 0 c)).run P w=.ok (.string .empty) w:=by simp[Conv.bytesToString]
    simp[execOp,hop,hev,run_convert_bytes_string w s t e none 0 c u1 u3 u2,h0]
    rfl
   | some ad=>
    have:=run_convert_bytes_back (P:=P) w s t e ad c [] u1 u3 u2 (fun j hj=>by simp at hj)
    simp at this
    simp[execOp,hop,hev,this]
  ·obtain ⟨ad,news,rfl,n1,n2,n3,n4⟩:=hsrc hne
   have hbk:=run_convert_bytes_back (P:=P) w s t e ad c bs u1 u3 u2 (fun j hj=>by
    have hx:l[j]?=some (.int .u8 (bs[j].toNat:Int)):=by rw[hlb,List.getElem?_map,List.getElem?_eq_getElem hj];rfl
    obtain ⟨_,_,u,hu,hc⟩:=n4 j _ hx
    have hu:=hu.int_eq
    subst hu
    have:=hc 0 (.int .u8 (bs[j].toNat:Int)) rfl
    rw[Nat.mul_one,Nat.add_zero] at this
    exact n2 j _ (by simpa using this))
   rw[hln] at hev
   simp[execOp,hop,hev,hbk]
 ·cases hE
end
def SV.grpS (s:SV):Option (Nat×List CK):=
 match s.k,s.slot with
 |.grp false ks,some sl=>some (sl,ks)
 |_,_=>none
def Zng (T:Tab) (flds:List (Nat×TypeId)):List Nat→List SV→List CK→Option (List CK)
 |[],[],ks=>some ks
 | i :: is,s::ss,ks=>
  match flds[i]? with
  |none=>none
  | some (off,ft)=>
   match T.lookup ft with
   |none=>none
   | some fi=>
    if off+fi.size≤ks.length then
     if s.isV then Zng T flds is ss (splice ks off (if s.k=.ck .nil∧fi.size=1 then [.nil] else List.replicate fi.size .val))
     else match s.grpS with
      |some (_,ks')=>if ks'.length=fi.size∧(ks'.all fun k=>k≠.none)=true then Zng T flds is ss (splice ks off ks') else none
      | none=>match ZbH s,Zcm s with
       |some (some (app,e,sz)),some _=>if fi.size=1 then Zng T flds is ss (splice ks off [.own app e sz]) else none
       |_,_=>none
    else none
 |_,_,_=>none
def Znh (T:Tab) (flds:List (Nat×TypeId)):List Nat→List SV→List DV→List PV→Option (List PV)
 |[],[],[],xs=>some xs
 | i ::is,s::ss,d::ds,xs=>
  match flds[i]? with
  |none=>none
  | some (off,ft)=>
   match T.lookup ft with
   |none=>none
   | some fi=>if s.isV then (Zc fi.size d.v).bind fun cl=>Znh T flds is ss ds (splice xs off cl)
    else match s.grpS with
     |some _=>Znh T flds is ss ds (splice xs off d.v.cells)
     |none=>(Zi s d).bind fun l=>Znh T flds is ss ds (splice xs off [.lst l])
 |_,_,_,_=>none
def ZfA :List SV→List Gh
 |[]=>[]
 | s::ss=>
  if s.isV then ZfA ss else
  match s.grpS with
  |some (sl,ks)=>Zd6 sl 0 ks++ZfA ss
  | none=>match ZbH s,Zcm s with
   |some (some (app,e,sz)),some (q,i)=>⟨q,i,false,app,e,sz⟩::ZfA ss
   |_,_=>ZfA ss
def Zh8 :List SV→List Nat
 |[]=>[]
 | s::ss=>
  if s.isV then Zh8 ss else
  match s.grpS with
  |some (sl,ks)=>sl::Zh8 ss
  | none=>match ZbH s,Zcm s with
   |some (some _),some (q,i)=>q::Zh8 ss
   |_,_=>Zh8 ss
def ZoE :List Nat→Bool
 |[]=>true
 |a::r=> !r.contains a&&ZoE r
theorem Zn0 :∀{l:List Nat},ZoE l=true→l.Nodup
 |[],_=>List.nodup_nil
 | a::r,h=>by
  simp only[ZoE,Bool.and_eq_true,Bool.not_eq_true',List.contains_eq_mem,decide_eq_false_iff_not] at h
  exact List.nodup_cons.2 ⟨h.1,Zn0 h.2⟩
def ZlU {R:Type} (T:Tab) (d:Nat) (t:TypeId) (is:List Nat) (svs:List SV):Option (Eff R):=
 match T.lookup t with
 |none=>none
 | some ti=>
  if ti.desc=.struct∧(ti.flds.all fun p=>(T.lookup p.2).isSome)=true∧ZoE (Zh8 svs)=true then
   match Zng T ti.flds is svs (ti.zero.map ZC.ck) with
   |none=>none
   | some ks=>if (ks.all fun k=>k=.val)=true∧(ZfA svs).map (·.s)=[] then some (Zp d (.ck .val) fun ds kk=>((Znh T ti.flds is svs ds (ti.zero.map ZC.pv)).map .agg).bind kk)
    else some {gh:=ZfA svs,tgt:=d,put:=true,k:=.grp false ks,cut:=.no,dyn:=fun ds kk=>((Znh T ti.flds is svs ds (ti.zero.map ZC.pv)).map .agg).bind kk}
  else none
section
variable {R :Type} {P:Program} {T:Tab} {o:Oper} {κ κ1:List Kd} {E:Eff R}
variable {w0 :World} {F0:Nat→Prop} {X0:List Nat} {σ:List PV} {a:Act} {w:World} {F F1:Nat→Prop} {fp fp1:Nat→List Nat}
theorem ZkN :∀(vs:List Value) (cs:Array Value) (k j:Nat),k+j+vs.length≤cs.size→((vs.zipIdx j).foldl (fun cs (x:Value×Nat)=>cs.setIfInBounds (k+x.2) x.1) cs)=(splice cs.toList (k+j) vs).toArray
 |[],cs,k,j,h=>by simp[splice]
 | v::r,cs,k,j,h=>by
  simp only[List.zipIdx_cons,List.foldl_cons]
  rw[ZkN r _ k (j+1) (by simp at h⊢;omega)]
  have e:=list_seg_step cs.toList (k+j) v r (by simp at h⊢;omega)
  congr 1
  simpa[splice,Array.toList_setIfInBounds,Nat.add_assoc] using e
theorem Zuj {place:Nat→Option (Nat×Nat)} {cells:Array Value} {i off size:Nat} {v:Value} {rest:List (Nat×Value)} (hp:place i=some (off,size)) (h1:v.cells.size=size) (h2:off+size≤cells.size):
 Instr.fill place cells ((i,v)::rest)=Instr.fill place (splice cells.toList off v.cells.toList).toArray rest:=by
 subst h1
 have hf:(v.cells.zipIdx.foldl (fun cs (x:Value×Nat)=>cs.setIfInBounds (off+x.2) x.1) cells)=(splice cells.toList off v.cells.toList).toArray:=by
  have:=ZkN v.cells.toList cells off 0 (by simpa using h2)
  rw[←Array.foldl_toList,Array.toList_zipIdx]
  simpa using this
 have n1:¬(v.cells.size≠v.cells.size∨off+v.cells.size>cells.size):=by omega
 simp only[Instr.fill,hp]
 rw[if_neg (by simpa using n1)]
 congr 1
def Zln (gh:List Gh) (σ:List PV) (τ:Array Value) (w:World) (own:Nat→Prop):Prop:=
 ∀g∈gh,∃(x:PV) (v:Value) (l:List PV) (lb:List Nat) (F1:Nat→Prop),GhV g σ τ w x v∧ZbV w F1 g.app g.e g.sz l v lb∧∀b∈lb,own b
theorem GrpS.own (h:St w0 F0 X0 κ σ a.tmps w F fp) {x:Operand} {s:Nat} {ks:List CK} (hg:(sv κ x).grpS=some (s,ks)):
 ∃ (cs:Array Value) (xs:List PV) (fps:List (List Nat)),x=.tmp s∧kd κ s=.grp false ks∧a.eval x=.agg cs∧(dv κ σ x).v=.agg xs∧GrpR w F true ks xs cs.toList fps∧fps.flatten.Nodup∧(∀b∈fps.flatten,b∈fp s)∧
  ∀own:Nat→Prop,Zln (Zd6 s 0 ks) σ a.tmps w own→∀b∈fps.flatten,own b:=by
 unfold SV.grpS at hg
 split at hg
 case h_2=>cases hg
 rename_i ks' sl hk hs
 cases hg
 obtain rfl:=Za3 hs
 have hks:kd κ s=.grp false ks:=hk
 obtain ⟨lb,hn,hsub,hsr⟩:=h.sr s
 rw[hks] at hsr
 obtain ⟨cs,xs,fps,ev,ex,hgrp,rfl⟩:=hsr
 simp only[Bool.false_eq_true,if_false] at ev ex
 refine ⟨cs,xs,fps,rfl,hks,ev,ex,hgrp,hn,hsub,fun own ho=> ?_⟩
 refine ZeW hgrp (own:=own) fun i app e sz x' v' lb' k1 k2 k3 k4 b hbb=> ?_
 have hm:=ZfG (s:=s) ks 0 i k1
 rw[Nat.zero_add] at hm
 obtain ⟨y',v'',l',lb'',F1,m1,m3,m5⟩:=ho _ hm
 have hvv:v''=v':=by
  rcases m1 with ⟨b',xs',t1,t2,t3,t4⟩|⟨tt,cs',xs',t1,t2,t3,t4,_⟩|⟨cs',xs',t1,_⟩
  ·simp only at t1;rw[ev] at t1;cases t1
  ·simp only at t1
   rw[ev] at t1
   cases tt<;>simp at t1
   subst t1
   have:cs[i]?=some v':=by simpa using k3
   rw[this] at t2
   exact (Option.some.inj t2).symm
  ·simp only at t1;rw[ev] at t1;cases t1
 subst hvv
 obtain ⟨l0,rfl,hr0⟩:=k4
 have:=hr0.lb_eq m3
 subst this
 exact m5 b hbb
theorem bld_ok (hT:TabOk P T) (h:St w0 F0 X0 κ σ a.tmps w F fp) {flds:List (Nat×TypeId)} {place:Nat→Option (Nat×Nat)} (hpl:∀i off ft fi,flds[i]?=some (off,ft)→T.lookup ft=some fi→place i=some (off,fi.size)) {own:Nat→Prop}:
 ∀ (is:List Nat) (args:List Operand) (ks ks':List CK) (xs xs':List PV) (cs:Array Value) (fps:List (List Nat)) (Q:List Nat),(∀x∈args,Zcv κ σ x)→Zln (ZfA (args.map (sv κ))) σ a.tmps w own→Zng T flds is (args.map (sv κ)) ks=some ks'→Znh T flds is (args.map (sv κ)) (args.map (dv κ σ)) xs=some xs'→
  GrpR w F true ks xs cs.toList fps→fps.flatten.Nodup→(∀b∈fps.flatten,∃q∈Q,b∈fp q)→(Q++Zh8 (args.map (sv κ))).Nodup→
  ∃(cs':Array Value) (fps':List (List Nat)),Instr.fill place cs (is.zip (args.map a.eval))=some cs'∧GrpR w F true ks' xs' cs'.toList fps'∧fps'.flatten.Nodup∧cs'.size=cs.size∧∀b∈fps'.flatten,b∈fps.flatten∨own b:=by
 intro is
 induction is with
 | nil=>
  intro args ks ks' xs xs' cs fps Q _ _ hk hv hg hn hq _
  cases args with
  |nil=>simp[Zng] at hk;simp[Znh] at hv;subst hk hv;exact ⟨cs,fps,rfl,hg,hn,rfl,fun b hb=>.inl hb⟩
  |cons x r=>simp[Zng] at hk
 | cons i is ih=>
  intro args ks ks' xs xs' cs fps Q hl hgv hk hv hg hn hq hnd
  cases args with
  |nil=>simp[Zng] at hk
  | cons x args=>
   simp only[List.map_cons,Zng] at hk
   simp only[List.map_cons,Znh] at hv
   have hlx:=hl x List.mem_cons_self
   have hl':∀z∈args,Zcv κ σ z:=fun z hz=>hl z (List.mem_cons_of_mem _ hz)
   split at hk
   ·cases hk
   rename_i off ft hfl
   rw[hfl] at hv
   dsimp only at hv
   split at hk
   ·cases hk
   rename_i fi hfi
   rw[hfi] at hv
   dsimp only at hv
   split at hk
   case isFalse=>cases hk
   rename_i hle
   have hlens:=hg.lens
   have hcsz:cs.size=ks.length:=by have:=hlens.2.1;simp at this;omega
   have step:∀(kk:List CK) (cl:List PV) (fk:List (List Nat)) (Q':List Nat),GrpR w F true kk cl (a.eval x).cells.toList fk→(a.eval x).cells.size=fi.size→fk.flatten.Nodup→(∀b∈fk.flatten,b∉fps.flatten)→(∀b∈fk.flatten,own b∧∃q∈Q',b∈fp q)→(∀q∈Q,q∈Q')→(Q'++Zh8 (args.map (sv κ))).Nodup→Zln (ZfA (args.map (sv κ))) σ a.tmps w own→
    Zng T flds is (args.map (sv κ)) (splice ks off kk)=some ks'→Znh T flds is (args.map (sv κ)) (args.map (dv κ σ)) (splice xs off cl)=some xs'→
    ∃(cs':Array Value) (fps':List (List Nat)),Instr.fill place cs ((i::is).zip ((x::args).map a.eval))=some cs'∧GrpR w F true ks' xs' cs'.toList fps'∧fps'.flatten.Nodup∧cs'.size=cs.size∧∀b∈fps'.flatten,b∈fps.flatten∨own b:=by
    intro kk cl fk Q' hgk hsz hnk hdk hok hQ hnd' hgv' hk' hv'
    have hsp:=hg.splice off hgk
    obtain ⟨cs',fps',g1,g2,g3,g4,g5⟩:=ih args _ ks' _ xs' (splice cs.toList off (a.eval x).cells.toList).toArray _ Q' hl' hgv' hk' hv' (by simpa using hsp) (ZjG hn hnk hdk) (fun b hb=>by
     rcases Zf5 hb with hb|hb
     ·obtain ⟨q,hq1,hq2⟩:=hq b hb;exact ⟨q,hQ q hq1,hq2⟩
     ·exact (hok b hb).2) hnd'
    refine ⟨cs',fps', ?_,g2,g3, ?_,fun b hb=> ?_⟩
    ·simp only[List.map_cons,List.zip_cons_cons]
     rw[Zuj (hpl i off ft fi hfl hfi) hsz (by rw[hcsz];exact hle)]
     exact g1
    ·rw[g4]
     simp only[List.size_toArray]
     rw[ZcN (by simp;omega)]
     simp
    ·rcases g5 b hb with hb|hb
     ·rcases Zf5 hb with hb|hb
      ·exact .inl hb
      ·exact .inr (hok b hb).1
     ·exact .inr hb
   by_cases hxv:(sv κ x).isV=true
   ·rw [if_pos hxv] at hk hv
    obtain ⟨cl,hcl,hv⟩:=Option.bind_eq_some_iff.1 hv
    obtain ⟨rfl,c1,c2,c3⟩:=Zcw hcl
    have hvr:=rdS h hxv
    obtain ⟨v1,v2⟩:=hvr.cells c3
    have hsz:(a.eval x).cells.size=fi.size:=by rw[←v1];exact c2
    have hkk:∃kk:List CK,(if (sv κ x).k=.ck .nil∧fi.size=1 then [CK.nil] else List.replicate fi.size .val)=kk∧GrpR w F true kk (dv κ σ x).v.cells (a.eval x).cells.toList (List.replicate fi.size []):=by
     refine ⟨_,rfl, ?_⟩
     split
     ·rename_i hnl
      obtain ⟨l,_,hsr⟩:=h.at' x (by rw[hnl.1];simp)
      rw[hnl.1] at hsr
      obtain ⟨s1,s2,s3⟩:=hsr
      rw[hnl.2,s1,s2]
      exact .cons ⟨rfl,rfl,rfl⟩ (fun _=>rfl) .nil
     ·have hgrp:=ZjD (w:=w) (F:=F) (one:=true) (dv κ σ x).v.cells (a.eval x).cells.toList (by rw[PV.length_cells];simpa using v1) (fun i z hz=>by
       obtain ⟨e1,e2⟩:=v2 i z hz
       refine ⟨e1, ?_⟩
       have:(a.eval x).cells.toList.getD i Go.undef=(a.eval x).cells.getD i Go.undef:=by simp[List.getD,Array.getD_eq_getD_getElem?]
       rw[this];exact e2)
      rw[c1] at hgrp
      exact hgrp
    obtain ⟨kk,hkk,hgk⟩:=hkk
    rw[hkk] at hk
    have hfl0:(List.replicate fi.size ([]:List Nat)).flatten=[]:=ZbI _
    have hG:ZfA ((x::args).map (sv κ))=ZfA (args.map (sv κ)):=by simp[ZfA,hxv]
    have hS:Zh8 ((x::args).map (sv κ))=Zh8 (args.map (sv κ)):=by simp[Zh8,hxv]
    rw[hG] at hgv
    rw[hS] at hnd
    exact step kk _ _ Q hgk hsz (by rw[hfl0];exact List.nodup_nil) (by rw[hfl0];simp) (by rw[hfl0];simp) (fun _ h=>h) hnd hgv hk hv
   ·rw [if_neg hxv] at hk hv
    have hxv':(sv κ x).isV=false:=by simpa using hxv
    cases hgs:(sv κ x).grpS with
    | some p=>
     obtain ⟨s,kk⟩:=p
     rw[hgs] at hk hv
     dsimp only at hk hv
     split at hk
     case isFalse=>cases hk
     rename_i hkl
     have hG:ZfA ((x::args).map (sv κ))=Zd6 s 0 kk++ZfA (args.map (sv κ)):=by simp[ZfA,hxv',hgs]
     have hS:Zh8 ((x::args).map (sv κ))=s::Zh8 (args.map (sv κ)):=by simp[Zh8,hxv',hgs]
     rw[hG] at hgv
     rw[hS] at hnd
     obtain ⟨cs1,xs1,fps1,e1,e2,e3,e4,e5,e6,e7,e8⟩:=GrpS.own h hgs
     have hsQ:s∉Q:=fun hc=>(List.nodup_append.1 hnd).2.2 s hc s List.mem_cons_self rfl
     have hl5:=e5.lens
     have hc1:(a.eval x).cells=cs1:=by rw[e3];rfl
     refine step kk _ fps1 (Q++[s]) (by rw[hc1,e4];exact e5) (by rw[hc1];have:=hl5.2.1;simp at this;omega) e6 (fun b hb hc=> ?_) (fun b hb=>⟨e8 own (fun g hg=>hgv g (List.mem_append_left _ hg)) b hb,s,by simp,e7 b hb⟩) (fun q hq=>by simp[hq]) (by simpa using hnd) (fun g hg=>hgv g (List.mem_append_right _ hg)) hk hv
     obtain ⟨q2,hq2,hb2⟩:=hq b hc
     exact h.dj s q2 b (fun e=>hsQ (e▸hq2)) (e7 b hb) hb2
    | none=>
     rw[hgs] at hk hv
     dsimp only at hk hv
     split at hk
     case h_2=>cases hk
     rename_i app e sz p hK hA
     obtain ⟨q,ii⟩:=p
     split at hk
     case isFalse=>cases hk
     rename_i hs1
     obtain ⟨l,hl0,hv⟩:=Option.bind_eq_some_iff.1 hv
     obtain ⟨q',i',lb,r1,r2,r3,r4⟩:=Zd8 h hlx (l:=l) hl0 hK
     rw[hA] at r1
     cases r1
     have hG:ZfA ((x::args).map (sv κ))=⟨q,ii,false,app,e,sz⟩::ZfA (args.map (sv κ)):=by simp[ZfA,hxv',hgs,hK,hA]
     have hS:Zh8 ((x::args).map (sv κ))=q::Zh8 (args.map (sv κ)):=by simp[Zh8,hxv',hgs,hK,hA]
     rw[hG] at hgv
     rw[hS] at hnd
     have hqQ:q∉Q:=fun hc=>(List.nodup_append.1 hnd).2.2 q hc q List.mem_cons_self rfl
     obtain ⟨A,c,hsl⟩:=r2.slice_eq
     have hcells:(a.eval x).cells= #[a.eval x]:=by rw[hsl];rfl
     obtain ⟨y',v0,l',lb',F1,n1,n3,n5⟩:=hgv _ List.mem_cons_self
     have hv0:=ZhU h hlx hA n1
     subst hv0
     have hlb:=r2.lb_eq n3
     subst hlb
     have hlbn:([lb]:List (List Nat)).flatten=lb:=by simp
     refine step [.own app e sz] [.lst l] [lb] (Q++[q]) (by rw[hcells];exact .cons ⟨l,rfl,r2⟩ (fun _=>rfl) .nil) (by rw[hcells,hs1];rfl) (by rw[hlbn];exact r3) (by
      rw[hlbn]
      intro b hb hc
      obtain ⟨q2,hq2,hb2⟩:=hq b hc
      exact h.dj q q2 b (fun e=>hqQ (e▸hq2)) (r4 b hb) hb2) (by rw[hlbn];exact fun b hb=>⟨n5 b hb,q,by simp,r4 b hb⟩) (fun q hq=>by simp[hq]) (by simpa using hnd) (fun g hg=>hgv g (List.mem_cons_of_mem _ hg)) hk hv
theorem ZlV (hT:TabOk P T) (w:World):∀(l:List Field),(∀f∈l,(T.lookup f.type).isSome=true)→∃ps:List (Nat×Nat),(l.mapM fun (f:Field)=>(do pure (f.offset,←sizeOf f.type):Sem (Nat×Nat))).run P w=.ok ps w∧∀(i off:Nat) (ft:TypeId) (fi:TI),(l.map fun (f:Field)=>(f.offset,f.type))[i]?=some (off,ft)→T.lookup ft=some fi→ps[i]?=some (off,fi.size)
 |[],_=>⟨[],rfl,fun i off ft fi h=>by simp at h⟩
 | f::r,h=>by
  obtain ⟨ps,h1,h2⟩:=ZlV hT w r fun g hg=>h g (List.mem_cons_of_mem _ hg)
  obtain ⟨ti,hti⟩:=Option.isSome_iff_exists.1 (h f List.mem_cons_self)
  obtain ⟨ht⟩:=hT.ty hti
  have h3:=ht.run_sizeOf w
  refine ⟨(f.offset,ti.size)::ps,by rw[List.mapM_cons];simp only[Sem.run_bind,Sem.run_pure,h3,Result.andThen_ok,h1],fun i off ft fi hi hfi=> ?_⟩
  cases i with
  | zero=>
   simp at hi
   obtain ⟨rfl,rfl⟩:=hi
   rw[hti] at hfi
   cases hfi
   rfl
  |succ i=>simpa using h2 i off ft fi (by simpa using hi) hfi
theorem Zn1 {w:World} {F:Nat→Prop}:∀(vs:List Value),GrpR w F true (vs.map fun v=>(Zf2 v).ck) (vs.map fun v=>(Zf2 v).pv) vs (List.replicate vs.length [])
 |[]=>.nil
 |v::r=>.cons (ZvX v) (fun _=>Zl8 _) (Zn1 r)
theorem Zqa (hT:TabOk P T) {t:TypeId} {parts:Array (Nat×Operand)} {d:Nat} (hop:o.op=.build t parts) (hd:o.dst=some d) (hE:ZlU T d t (parts.toList.map (·.1)) (o.op.operands.toList.map (sv κ))=some E):Zat P o κ E:=by
 have hops:o.op.operands.toList=parts.toList.map (·.2):=by rw[hop];simp[Op.operands]
 unfold ZlU at hE
 split at hE
 case h_1=>cases hE
 rename_i ti hti
 obtain ⟨ht⟩:=hT.ty hti
 split at hE
 case isFalse=>cases hE
 rename_i hc
 obtain ⟨c1,c2,c3⟩:=hc
 split at hE
 case h_1=>cases hE
 rename_i ks hks
 have hstruct:∃fs,P.underlying t=some (.struct fs)∧ti.flds=fs.toList.map (fun f=>(f.offset,f.type)):=by
  have hdd:=ht.hd
  have hu:=ht.hdesc
  have hf:=ht.hflds
  rw[c1] at hdd
  cases hd2:ht.desc<;>rw[hd2] at hdd hf<;>simp[Zf3] at hdd
  rename_i fs
  exact ⟨fs,by rw[←hd2];exact hu,hf⟩
 obtain ⟨fs,hus,hflds⟩:=hstruct
 have main:∀(w0:World) (F0:Nat→Prop) (X0:List Nat) (σ:List PV) (a:Act) (w:World) (F:Nat→Prop) (fp:Nat→List Nat) (z:PV) (own:Nat→Prop),St w0 F0 X0 κ σ a.tmps w F fp→Zaz κ σ o.op.operands.toList=true→Zln (ZfA (o.op.operands.toList.map (sv κ))) σ a.tmps w own→((Znh T ti.flds (parts.toList.map (·.1)) (o.op.operands.toList.map (sv κ)) (o.op.operands.toList.map (dv κ σ)) (ti.zero.map ZC.pv)).map PV.agg)=some z→
  ∃(cs:Array Value) (xs:List PV) (fps:List (List Nat)),z=.agg xs∧(execOp a.eval o).run P w=.ok (.value (.agg cs)) w∧GrpR w F true ks xs cs.toList fps∧fps.flatten.Nodup∧∀b∈fps.flatten,own b:=by
  intro w0 F0 X0 σ a w F fp zz own h hlv hgv hzz
  obtain ⟨z,hz,rfl⟩:=Option.map_eq_some_iff.1 hzz
  obtain ⟨ps,hp1,hp2⟩:=ZlV hT w fs.toList (fun f hf=>by
   have:=List.all_eq_true.1 c2 (f.offset,f.type) (by rw[hflds];exact List.mem_map.2 ⟨f,hf,rfl⟩)
   exact this)
  have h0:ti.zero.map ZC.ck=ht.zv.cells.toList.map (fun v=>(Zf2 v).ck)∧ti.zero.map ZC.pv=ht.zv.cells.toList.map (fun v=>(Zf2 v).pv):=by rw[ht.hzero];simp
  rw[h0.1] at hks
  rw[h0.2] at hz
  rw[hops] at hks hz hlv hgv
  have hfl0:(List.replicate ht.zv.cells.toList.length ([]:List Nat)).flatten=[]:=ZbI _
  obtain ⟨cs',fps',g1,g2,g3,g4,g5⟩:=bld_ok hT h (flds:=ti.flds) (place:=fun i=>ps.toArray[i]?) (fun i off ft fi h1 h2=>by rw[hflds] at h1;simpa using hp2 i off ft fi h1 h2) (parts.toList.map (·.1)) (parts.toList.map (·.2)) _ ks _ z ht.zv.cells _ [] (fun x hx=>Zg hlv hx) hgv hks hz (Zn1 _) (by rw[hfl0];exact List.nodup_nil) (by rw[hfl0];simp) (by rw[hops] at c3;simpa using Zn0 c3)
  refine ⟨cs',z,fps',rfl, ?_,g2,g3,fun b hb=> ?_⟩
  ·have hz1:=ht.run_zero w
   have hm:(fs.mapM fun (f:Field)=>(do pure (f.offset,←sizeOf f.type):Sem (Nat×Nat))).run P w=.ok ps.toArray w:=by
    have e:fs=fs.toList.toArray:=by simp
    rw[e,List.mapM_toArray]
    simp only[Sem.run_map,hp1]
    rfl
   have hparts:(parts.map fun (i,x)=>(i,a.eval x)).toList=(parts.toList.map (·.1)).zip ((parts.toList.map (·.2)).map a.eval):=by
    rw[Array.toList_map,List.map_map]
    generalize parts.toList=l
    induction l with
    |nil=>rfl
    |cons p r ih=>simp[ih]
   have hfill:Instr.fill (ps.toArray[·]?) ht.zv.cells (parts.map fun (i,x)=>(i,a.eval x)).toList=some cs':=by rw[hparts];exact g1
   have:(Instr.build t (parts.map fun (i,x)=>(i,a.eval x))).run P w=.ok (.agg cs') w:=by
    unfold Instr.build
    simp only[Sem.run_bind,hz1,Result.andThen,run_underlying hus]
    rw[hm]
    simp only
    rw[hfill]
    rfl
   simp[execOp,hop,this]
  ·rcases g5 b hb with hb|hb
   ·rw[hfl0] at hb;simp at hb
   ·exact hb
 split at hE
 ·rename_i hall
  obtain ⟨hall,hgn⟩:=hall
  cases hE
  refine Za2 hd rfl rfl rfl fun w0 F0 X0 σ a w F fp kk r h htt hlv hdy=> ?_
  obtain ⟨z,hz,hkk⟩:=Option.bind_eq_some_iff.1 hdy
  obtain ⟨cs,xs,fps,rfl,r1,r2,r3,r4⟩:=main w0 F0 X0 σ a w F fp z (fun _=>True) h hlv (by rw[List.map_eq_nil_iff.1 hgn];intro g hg;cases hg) hz
  refine ⟨_,_,r1,hkk,VR.of_cells (by have:=r2.lens.2.1;simp at this;omega) fun i y hy=> ?_⟩
  obtain ⟨k,v,f,m1,m2,m3,m4,m5⟩:=r2.at i y hy
  have hkv:k=.val:=by simpa using List.all_eq_true.1 hall k (List.mem_of_getElem? m1)
  subst hkv
  have:cs.getD i Go.undef=v:=by
   have:cs[i]?=some v:=by simpa using m2
   simp[Array.getD_eq_getD_getElem?,this]
  rw[this]
  exact ⟨m5 rfl,m4.1⟩
 ·cases hE
  refine Zdz hd rfl fun w0 F0 X0 κ1 σ a w F F1 fp fp1 kk r h h1 htt hg hF hallg hlv hdy=> ?_
  obtain ⟨z,hz,hkk⟩:=Option.bind_eq_some_iff.1 hdy
  obtain ⟨cs,xs,fps,rfl,r1,r2,r3,r4⟩:=main w0 F0 X0 σ a w F fp z (fun b=>b∈fp1 d) h hlv (fun g hg=>by
   obtain ⟨x,v,l,lb,m1,m2,m3,m4,m5⟩:=hallg g hg
   have hfz:g.fz=false:=by
    have : ∀(l:List SV),∀g∈ZfA l,g.fz=false:=by
     intro l
     induction l with
     |nil=>intro g hg;cases hg
     | cons s ss ih=>
      intro g hg
      unfold ZfA at hg
      split at hg
      ·exact ih g hg
      ·split at hg
       ·rcases List.mem_append.1 hg with hg|hg
        ·have key:∀(ks:List CK) (s i:Nat),∀g∈Zd6 s i ks,g.fz=false:=by
          intro ks
          induction ks with
          |nil=>intro s i g hg;cases hg
          |cons k r ih=>intro s i g hg;cases k<;>simp only[Zd6] at hg<;>first|exact ih s (i+1) g hg|(rcases List.mem_cons.1 hg with rfl|hg;rfl;exact ih s (i+1) g hg)
         exact key _ _ _ g hg
        ·exact ih g hg
       ·split at hg
        ·rcases List.mem_cons.1 hg with rfl|hg
         ·rfl
         ·exact ih g hg
        ·exact ih g hg
    exact this _ g hg
   rw[hfz] at m5
   exact ⟨x,v,l,lb,F1,m1,m3,by simpa using m5⟩) hz
  have hst:Stays w F w F1:=⟨hF,fun _ _=>rfl⟩
  exact ⟨_,_,w,F1,fps.flatten,r1,hkk,rfl,rfl,rfl,Nat.le_refl _,fun _ _ _=>rfl,fun _ h=>h,fun _ h=>.inl h,h1.fl,r3,⟨cs,xs,fps,rfl,rfl,r2.keep hst fun _ _=>rfl,rfl⟩,fun b hb=>⟨.inr (r4 b hb),(h1.pr _ b (r4 b hb)).1,(h1.pr _ b (r4 b hb)).2.1⟩,fun _=>trivial,fun q hq=>by simp[Kd.bdep] at hq⟩
def ZoF {R:Type} (T:Tab) (d:Nat) (t:TypeId) (x:SV):Option (Eff R):=
 match x.grpS,T.lookup t with
 |some (s,ks),some ti=>if s≠d∧ks.length=ti.size then some {gh:=Zd6 s 0 ks,tgt:=d,put:=true,k:=.box t ks,cut:=.no,dyn:=Zb4 fun x=>some (.agg x.v.cells)} else none
 |_,_=>Zsb T d t x
theorem ZrS (hT:TabOk P T) {t:TypeId} {x:Operand} {d:Nat} (hop:o.op=.box t x) (hd:o.dst=some d) (hE:ZoF T d t (sv κ x)=some E):Zat P o κ E:=by
 have hops:o.op.operands.toList=[x]:=by rw[hop];rfl
 unfold ZoF at hE
 split at hE
 case h_2=>exact Zuv hT hop hd hE
 rename_i s ks ti hgs hti
 obtain ⟨ht⟩:=hT.ty hti
 split at hE
 case isFalse=>cases hE
 rename_i hc
 cases hE
 refine Zdz hd rfl fun w0 F0 X0 κ1 σ a w F F1 fp fp1 kk r h h1 htt hg hF hallg hlv hdy=> ?_
 rw[hops] at hdy
 have hkk:kk (.agg (dv κ σ x).v.cells)=some r:=hdy
 obtain ⟨cs,xs,fps,e1,e2,e3,e4,e5,e6,e7,e8⟩:=GrpS.own h hgs
 have hown:=e8 (fun b=>b∈fp1 d) (fun g hg=>by
  obtain ⟨y,v,l,lb,m1,m2,m3,m4,m5⟩:=hallg g hg
  have hfz:g.fz=false:=by
   have key:∀(ks:List CK) (s i:Nat),∀g∈Zd6 s i ks,g.fz=false:=by
    intro ks
    induction ks with
    |nil=>intro s i g hg;cases hg
    |cons k r ih=>intro s i g hg;cases k<;>simp only[Zd6] at hg<;>first|exact ih s (i+1) g hg|(rcases List.mem_cons.1 hg with rfl|hg;rfl;exact ih s (i+1) g hg)
   exact key _ _ _ g hg
  rw[hfz] at m5
  exact ⟨y,v,l,lb,F1,m1,m3,by simpa using m5⟩)
 have hl5:=e5.lens
 have hcs:cs.size=ti.size:=by have:=hl5.2.1;simp at this;omega
 have hsz:=ht.run_sizeOf w
 have hrun:(execOp a.eval o).run P w=.ok (.value (.pointer (some ⟨w.heap.size,0,none⟩))) (w.alloc (.cells cs t (0,0))):=by
  simp[execOp,hop,Instr.box,newVar,newRow,e3,Value.cells]
 have hst:Stays w F (w.alloc (.cells cs t (0,0))) F1:=⟨hF,fun b hb=>Below.heap_alloc w _ b (h.fl b hb)⟩
 have hfresh:w.heap.size∉fps.flatten:=fun hc=>by have:=(h.pr s _ (e7 _ hc)).1;omega
 refine ⟨_,_,_,F1,w.heap.size::fps.flatten,hrun,hkk,rfl,rfl,rfl,by simp,fun b hb _=>Below.heap_alloc w _ b hb,fun _ h=>h,fun _ h=>.inl h,fun b hb=>by have:=h1.fl b hb;simp;omega,List.nodup_cons.2 ⟨hfresh,e6⟩,⟨w.heap.size,cs,xs,fps,rfl,by rw[e4];rfl,heap_alloc_new w _,e5.keep hst (fun b hb=>Below.heap_alloc w _ b (h.pr s b (e7 b hb)).1),rfl⟩,fun b hb=> ?_,fun _=>trivial,fun q hq=>by simp[Kd.bdep] at hq⟩
 rcases List.mem_cons.1 hb with rfl|hb
 ·exact ⟨.inl (Nat.le_refl _),by simp,fun hc=>by have:=h1.fl _ hc;omega⟩
 ·exact ⟨.inr (hown b hb),by have:=(h1.pr _ b (hown b hb)).1;simp;omega,(h1.pr _ b (hown b hb)).2.1⟩
end
def ZrT :Operand→Operand→Bool
 |.tmp a,.tmp b=>a=b
 |.const (.int k a),.const (.int k' b)=>k=k'&&a=b
 |_,_=>false
theorem Zuk {x y:Operand} (h:ZrT x y=true):x=y:=by
 unfold ZrT at h
 split at h
 ·simpa using h
 ·simp only[Bool.and_eq_true,decide_eq_true_eq] at h;rw[h.1,h.2]
 ·cases h
def scEq :TD→PV→PV→Option Bool
 |.bool,.bool a,.bool b=>some (a==b)
 |.int _,.int k a,.int k' b=>if k=k' then some (a==b) else none
 |.str,.str a,.str b=>some (a==b)
 |_,_,_=>none
def ZlW :List (Nat×TD)→List PV→List PV→Option Bool
 |[],_,_=>some true
 |(o,td)::r,xs,ys=>(xs[o]?).bind fun x=>(ys[o]?).bind fun y=>(scEq td x y).bind fun b=>(ZlW r xs ys).map fun c=>b&&c
def Zqb (T:Tab) (ti:TI):Option (List (Nat×TD)):=
 match ti.desc with
 |.struct=>if ti.eqf=true∧ti.flds.map (·.1)=List.range ti.flds.length then ti.flds.mapM fun p=>(T.lookup p.2).map fun i=>(p.1,i.desc) else none
 |_=>none
def eqV (how:Option (List (Nat×TD))) (td:TD) (x y:PV):Option Bool:=
 match how with
 | some l=>match x,y with
  |.agg xs,.agg ys=>if xs.length=l.length∧ys.length=l.length then ZlW l xs ys else none
  |_,_=>none
 |none=>scEq td x y
def nilV (x:PV) (b:Bool):Option PV:=match x with|.lst (_::_)=>some (.bool b)|_=>none
def ZrU {R:Type} (T:Tab) (d:Nat) (op:BinOp) (t:TypeId) (x y:SV):Option (Eff R):=
 match T.lookup t with
 | some i=>match i.desc with
  | .struct=>
   match Zqb T i with
   |none=>none
   | some l=>if x.isV&&y.isV then match op with
    |.eql=>some (Zp d (.ck .val) (ZcD fun x y=>(eqV (some l) .struct x.v y.v).map .bool))
    |.neq=>some (Zp d (.ck .val) (ZcD fun x y=>(eqV (some l) .struct x.v y.v).map fun b=>.bool (!b)))
    |_=>none
   else none
  | .slice _=>if x.isV=true∧y.k=.ck .nil then match op with
   |.eql=>some (Zp d (.ck .val) (ZcD fun x _=>nilV x.v false))
   |.neq=>some (Zp d (.ck .val) (ZcD fun x _=>nilV x.v true))
   |_=>none
   else none
  |_=>Zr9 T d op t x y
 |none=>none
section
variable {R :Type} {P:Program} {T:Tab} {o:Oper} {κ κ1:List Kd} {E:Eff R}
variable {w0 :World} {F0:Nat→Prop} {X0:List Nat} {σ:List PV} {a:Act} {w:World} {F F1:Nat→Prop} {fp fp1:Nat→List Nat}
theorem Zn2 {t:TypeId} {ti:TI} (ht:TyOk P t ti) (h:ti.desc=.bool):P.underlying t=some .bool:=by
 have hdd:=ht.hd
 have hu:=ht.hdesc
 rw[h] at hdd
 cases hd2:ht.desc<;>rw[hd2] at hdd<;>simp[Zf3] at hdd
 rw[←hd2];exact hu
theorem ZfB {t:TypeId} {ti:TI} (ht:TyOk P t ti) {x y:PV} {b:Bool} {u v:Value} (h:scEq ti.desc x y=some b) (hx:VR w F x u) (hy:VR w F y v):(b=true↔u=v)∧(∀cs,u≠.agg cs)∧(∀cs,v≠.agg cs)∧(∀(d:Nat) (w':World),(Op.equalIn (d+1) t u v).run P w'=.ok b w')∧(∀n,Instr.sameBits n u u=true)∧ti.desc≠.struct∧∃d,P.underlying t=some d∧Instr.sameNow d u v=some b:=by
 unfold scEq at h
 split at h
 ·rename_i hd
  obtain rfl:=hx.bool_eq
  obtain rfl:=hy.bool_eq
  cases h
  have hu:=Zn2 ht hd
  exact ⟨by simp,by simp,by simp,fun d w'=>run_equalIn_bool' w' d t _ _ hu,fun n=>by simp[Instr.sameBits],by rw[hd];simp,_,hu,by simp[Instr.sameNow]⟩
 ·rename_i kt k a' k' b' hd
  obtain rfl:=hx.int_eq
  obtain rfl:=hy.int_eq
  have hu:=Zeu ht hd
  split at h
  ·rename_i hk
   subst hk
   cases h
   exact ⟨by simp,by simp,by simp,fun d w'=>run_equalIn_int w' d t _ _ _ _ hu,fun n=>by simp[Instr.sameBits],by rw[hd];simp,_,hu,by simp[Instr.sameNow]⟩
  ·cases h
 ·rename_i s s' hd
  obtain rfl:=hx.str_eq
  obtain rfl:=hy.str_eq
  cases h
  have hu:=Zjt ht hd
  have hb0:∀p q:List UInt8,((⟨p.toArray⟩:ByteArray)==⟨q.toArray⟩)=(p==q):=fun p q=>by
   show (p.toArray==q.toArray)=(p==q)
   simp
  have hbe:=hb0 s s'
  refine ⟨by simp,by simp,by simp,fun d w'=> ?_,fun n=>by simp[Instr.sameBits,hb0],by rw[hd];simp,_,hu,by simp[Instr.sameNow,hbe]⟩
  simp[Op.equalIn,run_underlying hu,hbe]
 ·cases h
theorem Zkh {t:TypeId} {ti:TI} (ht:TyOk P t ti) (hs:ti.desc≠.struct) {cs:Array Value} {off:Nat} {v:Value} (h:cs[off]?=some v) (w:World):(part t cs off).run P w=.ok v w:=by
 have h1:=ht.run_isAgg w
 have h2:ti.agg=false:=by unfold TI.agg;simpa using hs
 rw[h2] at h1
 simp[part,h1,h]
theorem ZlX (hT:TabOk P T) {us vs:Array Value} {xs ys:List PV} (hx:VR w F (.agg xs) (.agg us)) (hy:VR w F (.agg ys) (.agg vs)) (d:Nat) (w':World):∀(fs:List Field) (l:List (Nat×TD)) (b:Bool),((fs.map fun f=>(f.offset,f.type)).mapM fun p=>(T.lookup p.2).map fun i=>(p.1,i.desc))=some l→(∀f∈fs,f.name≠ "_")→ZlW l xs ys=some b→
 (Op.eqFields (d+1) us vs fs).run P w'=.ok b w'∧(b=true→∀f∈fs,us[f.offset]?=vs[f.offset]?)
 | [],l,b,hl,_,hb=>by
  simp at hl;subst hl
  simp[ZlW] at hb;subst hb
  exact ⟨by simp[Op.eqFields],by simp⟩
 | f ::r,l,b,hl,hn,hb=>by
  simp only[List.map_cons,List.mapM_cons,bind,Option.bind_eq_some_iff,pure,Option.some.injEq] at hl
  obtain ⟨p,hp,l',hl',rfl⟩:=hl
  obtain ⟨ti,hti,rfl⟩:=Option.map_eq_some_iff.1 hp
  obtain ⟨ht⟩:=hT.ty hti
  unfold ZlW at hb
  obtain ⟨x,hx1,hb⟩:=Option.bind_eq_some_iff.1 hb
  obtain ⟨y,hy1,hb⟩:=Option.bind_eq_some_iff.1 hb
  obtain ⟨b1,hb1,hb⟩:=Option.bind_eq_some_iff.1 hb
  obtain ⟨b2,hb2,rfl⟩:=Option.map_eq_some_iff.1 hb
  have gx:∃u,us[f.offset]?=some u∧VR w F x u:=by
   cases hx with
   | agg _ _ h1 h2 h3=>
    have hlt:f.offset<us.size:=by rw[←h1];exact (List.getElem?_eq_some_iff.1 hx1).1
    have:=h3 _ _ hx1
    refine ⟨us[f.offset],Array.getElem?_eq_getElem hlt, ?_⟩
    simpa[Array.getD,hlt] using this
  have gy:∃u,vs[f.offset]?=some u∧VR w F y u:=by
   cases hy with
   | agg _ _ h1 h2 h3=>
    have hlt:f.offset<vs.size:=by rw[←h1];exact (List.getElem?_eq_some_iff.1 hy1).1
    have:=h3 _ _ hy1
    refine ⟨vs[f.offset],Array.getElem?_eq_getElem hlt, ?_⟩
    simpa[Array.getD,hlt] using this
  obtain ⟨u,hu,hxu⟩:=gx
  obtain ⟨v,hv,hyv⟩:=gy
  obtain ⟨e1,e2,e3,e4,_,e5,_⟩:=ZfB ht hb1 hxu hyv
  obtain ⟨i1,i2⟩:=ZlX hT hx hy d w' r l' b2 hl' (fun g hg=>hn g (List.mem_cons_of_mem _ hg)) hb2
  have hn1:=hn f List.mem_cons_self
  refine ⟨?_,fun hbt g hg=> ?_⟩
  ·simp only[Op.eqFields,hn1,ne_eq,not_false_eq_true,if_true,Sem.run_bind,Zkh ht e5 hu,Zkh ht e5 hv,Result.andThen_ok,e4]
   cases b1
   ·simp
   ·simpa using i1
  ·simp only[Bool.and_eq_true] at hbt
   rcases List.mem_cons.1 hg with rfl|hg
   ·rw[hu,hv,e1.1 hbt.1]
   ·exact i2 hbt.2 g hg
theorem ZlY {t:TypeId} {ti:TI} (ht:TyOk P t ti) (hs:ti.desc=.struct) (hq:ti.eqf=true):∃fs:Array Field,P.underlying t=some (.struct fs)∧P.fieldsOf t=fs∧ti.flds=fs.toList.map (fun f=>(f.offset,f.type))∧(∀f∈fs.toList,f.name≠ "_")∧P.stoodInHeld t=false∧P.eqGuardType P.depth t=false:=by
 have hdd:=ht.hd
 have hu:=ht.hdesc
 have hf:=ht.hflds
 have he:=ht.heqf
 rw[hs] at hdd
 rw[hq] at he
 cases hd2:ht.desc<;>rw[hd2] at hdd hf he<;>simp[Zf3] at hdd
 rename_i fs
 rw[hd2] at hu
 simp only[Zr7] at he
 have he:=he.symm
 simp only[Bool.and_eq_true,Bool.not_eq_true',List.all_eq_true,bne_iff_ne,ne_eq] at he
 exact ⟨fs,hu,by simp[Program.fieldsOf,hu],hf,fun f hf=>(he.1.1 f hf).1.1,he.1.2,he.2⟩
theorem Zju (hT:TabOk P T) {t:TypeId} {ti:TI} (ht:TyOk P t ti) {l:List (Nat×TD)} (hh:Zqb T ti=some l) {x y:PV} {b:Bool} {u v:Value} (h:eqV (some l) .struct x y=some b) (hx:VR w F x u) (hy:VR w F y v) (d:Nat) (w':World):
 (Op.equalIn (d+2) t u v).run P w'=.ok b w'∧∃us vs,u=.agg us∧v=.agg vs∧P.eqGuardType P.depth t=false:=by
 unfold Zqb at hh
 split at hh
 case h_2=>cases hh
 rename_i hs
 split at hh
 case isFalse=>cases hh
 rename_i hq
 obtain ⟨hq,_⟩:=hq
 obtain ⟨fs,g1,g2,g3,g4,g5,g6⟩:=ZlY ht hs hq
 simp only[eqV] at h
 split at h
 case h_2=>cases h
 rename_i xs ys
 split at h
 case isFalse=>cases h
 obtain ⟨us,rfl⟩:∃us,u=.agg us:=by cases hx;exact ⟨_,rfl⟩
 obtain ⟨vs,rfl⟩:∃vs,v=.agg vs:=by cases hy;exact ⟨_,rfl⟩
 refine ⟨?_,us,vs,rfl,rfl,g6⟩
 rw[show d+2=(d+1)+1 from rfl,run_equalIn_struct w' (d+1) t us vs (by rw[g2];exact g1) g5,g2]
 rw[g3] at hh
 exact (ZlX hT hx hy d w' fs.toList l b hh g4 h).1
theorem Zqc {t e:TypeId} (d:Nat) (A:Addr) (n c:Nat) (w:World) (h:P.underlying t=some (.slice e)):(Op.equalIn (d+1) t (.slice (some A) n c) (.slice none 0 0)).run P w=.ok false w:=by
 simp[Op.equalIn,underlying,h]
theorem Zn3 {t e:TypeId} (A:Addr) (n c:Nat) (w:World) (h:P.underlying t=some (.slice e)):(Op.equal t (.slice (some A) n c) (.slice none 0 0)).run P w=.ok false w:=Zqc 9999 A n c w h
theorem Ztw {t e:TypeId} (A:Addr) (n c:Nat) (w:World) (h:P.underlying t=some (.slice e)):(binOp .eql t (.slice (some A) n c) (.slice none 0 0)).run P w=.ok (.bool false) w:=by
 show (do pure (Value.bool (←Op.equal t (.slice (some A) n c) (.slice none 0 0))):Sem Value).run P w=_
 simp only[Sem.run_bind,Zn3 A n c w h,Result.andThen_ok,Sem.run_pure]
theorem Ztx {t e:TypeId} (A:Addr) (n c:Nat) (w:World) (h:P.underlying t=some (.slice e)):(binOp .neq t (.slice (some A) n c) (.slice none 0 0)).run P w=.ok (.bool true) w:=by
 show (do pure (Value.bool (!(←Op.equal t (.slice (some A) n c) (.slice none 0 0)))):Sem Value).run P w=_
 simp only[Sem.run_bind,Zn3 A n c w h,Result.andThen_ok,Sem.run_pure,Bool.not_false]
theorem Zum (hT:TabOk P T) {op:BinOp} {t ty:TypeId} {x y:Operand} {d:Nat} (hop:o.op=.binOp op t x y ty) (hd:o.dst=some d) (hE:ZrU T d op t (sv κ x) (sv κ y)=some E):Zat P o κ E:=by
 have hops:o.op.operands.toList=[x,y]:=by rw[hop];rfl
 unfold ZrU at hE
 split at hE
 case h_2=>cases hE
 rename_i ti hti
 obtain ⟨ht⟩:=hT.ty hti
 split at hE
 case h_3=>exact Zut hT hop hd hE
 case h_2=>
  rename_i e hs
  split at hE
  case isFalse=>cases hE
  rename_i hv
  have hu:P.underlying t=some (.slice e):=ZaM ht hs
  have key:∀{σ:List PV} {a:Act} {w:World} {F:Nat→Prop} {fp:Nat→List Nat} {w0:World} {F0:Nat→Prop} {X0:List Nat} {b:Bool} {z:PV},St w0 F0 X0 κ σ a.tmps w F fp→nilV (dv κ σ x).v b=some z→z=.bool b∧∃A n c,a.eval x=.slice (some A) n c∧a.eval y=.slice none 0 0:=by
   intro σ a w F fp w0 F0 X0 b z h hz
   unfold nilV at hz
   split at hz
   case h_2=>cases hz
   rename_i y0 l hx
   cases hz
   have h1:=rdS h hv.1
   rw[hx] at h1
   obtain ⟨lb,_,hsr⟩:=h.at' y (by rw[hv.2];simp)
   rw[hv.2] at hsr
   refine ⟨rfl, ?_⟩
   generalize a.eval x=u at h1
   cases h1 with
   | lst _ A c sz vs g1 g2 g3 g4 g5=>
    obtain ⟨b,off,rfl,_⟩:=g3 (by simp)
    exact ⟨_,_,_,rfl,hsr.2.1⟩
  split at hE
  ·cases hE
   refine Za2 hd rfl rfl rfl fun w0 F0 X0 σ a w F fp kk r h htt hlv hdy=> ?_
   rw[hops] at hdy
   obtain ⟨z,hz,hkk⟩:=Option.bind_eq_some_iff.1 hdy
   obtain ⟨rfl,A,n,c,e1,e2⟩:=key h hz
   refine ⟨_,.bool false, ?_,hkk,.bool _⟩
   have hg:=Zew (P:=P) .eql t x y (.slice (some A) n c) (.slice none 0 0) w ⟨fun cs hc=>(by cases hc),fun hc=>(by cases hc)⟩
   simp[execOp,hop,e1,e2,hg,Ztw A n c w hu,Ztx A n c w hu]
  ·cases hE
   refine Za2 hd rfl rfl rfl fun w0 F0 X0 σ a w F fp kk r h htt hlv hdy=> ?_
   rw[hops] at hdy
   obtain ⟨z,hz,hkk⟩:=Option.bind_eq_some_iff.1 hdy
   obtain ⟨rfl,A,n,c,e1,e2⟩:=key h hz
   refine ⟨_,.bool true, ?_,hkk,.bool _⟩
   have hg:=Zew (P:=P) .neq t x y (.slice (some A) n c) (.slice none 0 0) w ⟨fun cs hc=>(by cases hc),fun hc=>(by cases hc)⟩
   simp[execOp,hop,e1,e2,hg,Ztw A n c w hu,Ztx A n c w hu]
  ·cases hE
 rename_i hs
 split at hE
 ·cases hE
 rename_i l hl
 split at hE
 case isFalse=>cases hE
 rename_i hv
 simp only[Bool.and_eq_true] at hv
 split at hE
 ·cases hE
  refine Za2 hd rfl rfl rfl fun w0 F0 X0 σ a w F fp kk r h htt hlv hdy=> ?_
  rw[hops] at hdy
  obtain ⟨z,hz,hkk⟩:=Option.bind_eq_some_iff.1 hdy
  obtain ⟨b,hb,rfl⟩:=Option.map_eq_some_iff.1 hz
  obtain ⟨h1,us,vs,h2,h3,h4⟩:=Zju hT ht hl hb (rdS h hv.1) (rdS h hv.2) 9998 w
  refine ⟨_,.bool b, ?_,hkk,.bool b⟩
  rw[h2,h3] at h1
  have hg:=run_eqGuard_agg (P:=P) w .eql t x y us vs h4
  simp[execOp,hop,h2,h3,hg,run_eql_struct,h1]
 ·cases hE
  refine Za2 hd rfl rfl rfl fun w0 F0 X0 σ a w F fp kk r h htt hlv hdy=> ?_
  rw[hops] at hdy
  obtain ⟨z,hz,hkk⟩:=Option.bind_eq_some_iff.1 hdy
  obtain ⟨b,hb,rfl⟩:=Option.map_eq_some_iff.1 hz
  obtain ⟨h1,us,vs,h2,h3,h4⟩:=Zju hT ht hl hb (rdS h hv.1) (rdS h hv.2) 9998 w
  refine ⟨_,.bool (!b), ?_,hkk,.bool _⟩
  rw[h2,h3] at h1
  have hg:=run_eqGuard_agg (P:=P) w .neq t x y us vs h4
  simp[execOp,hop,h2,h3,hg,run_neq_struct,h1]
 ·cases hE
def Zd5 (how:Option (List (Nat×TD))) (td:TD):List (PV×PV)→PV→Nat→Option (Option (Nat×PV))
 |[],_,_=>some none
 |(k',x)::r,k,i=>(eqV how td k k').bind fun b=>if b then some (some (i,x)) else Zd5 how td r k (i+1)
def Zqd (how:Option (List (Nat×TD))) (td:TD) (k:PV):Bool:=(eqV how td k k).isSome
def Zqe :PV→Option (List (PV×PV))
 |.map l=>some l
 |_=>none
def ZkO (how:Option (List (Nat×TD))) (td:TD) (z m k:PV):Option (PV×Bool):=
 (Zqe m).bind fun l=>if Zqd how td k then (Zd5 how td l k 0).map fun r=>match r with|some (_,x)=>(x,true)|none=>(z,false) else none
def putV (how:Option (List (Nat×TD))) (td:TD) (m k x:PV):Option PV:=
 (Zqe m).bind fun l=>if Zqd how td k then (Zd5 how td l k 0).map fun r=>match r with|some (i,_)=>.map (l.set i (k,x))|none=>.map (l++[(k,x)]) else none
def SV.mapAt (s:SV):Option (Nat×TypeId×TypeId):=
 match s.k with
 |.mp kt et=>s.slot.map fun q=>(q,kt,et)
 |.ali (.slot q)=>match s.pk with|.mp kt et=>some (q,kt,et)|_=>none
 |_=>none
def ZrV (s:SV) (d:DV):PV:=match s.k with|.mp _ _=>d.v|_=>d.pv
def Zki (T:Tab) (ki:TI):Option (Option (List (Nat×TD))):=
 match ki.desc with
 |.bool|.int _|.str=>some none
 |.struct=>(Zqb T ki).map some
 |_=>none
def ZiE {R:Type} (T:Tab) (d:Nat) (t:TypeId) (r:Option Operand):Option (Eff R):=
 match T.lookup t,r with
 | some ti,none=>match ti.desc with
  |.map kt et=>some (Zp d (.mp kt et) fun _ kk=>kk (.map []))
  |_=>none
 |_,_=>none
def Zkj {R:Type} (T:Tab) (d:Nat) (t:TypeId) (ok:Bool) (m k:SV):Option (Eff R):=
 match T.lookup t,m.mapAt with
 | some ti,some (q,kt,et)=>
  match ti.desc,T.lookup kt,T.lookup et with
  | .map kt' et',some ki,some ei=>
   if kt'=kt∧et'=et∧k.isV=true∧(ei.agg=true∨ei.size=1)∧(ei.zero.all fun z=>z≠.other)=true then
    match Zki T ki,ok with
    |some how,true=>some (Zp d (.grp true [.val,.val]) (ZcD fun x y=>(ZkO how ki.desc (ZaN ei) (ZrV m x) y.v).map fun p=>.tup [p.1,.bool p.2]))
    |some how,false=>some (Zp d (.ck .val) (ZcD fun x y=>(ZkO how ki.desc (ZaN ei) (ZrV m x) y.v).map (·.1)))
    |none,_=>none
   else none
  |_,_,_=>none
 |_,_=>none
def ZhV {R:Type} (T:Tab) (t:TypeId) (m k x:SV):Option (Eff R):=
 match T.lookup t,m.mapAt with
 | some ti,some (q,kt,et)=>
  match ti.desc,T.lookup kt with
  | .map kt' et',some ki=>
   if kt'=kt∧et'=et∧k.isV=true∧x.isV=true then
    match Zki T ki with
    |some how=>some {gh:=[],tgt:=q,put:=false,k:=.mp kt et,cut:=.no,dyn:=dyn3 fun a b c=>putV how ki.desc (ZrV m a) b.v c.v}
    |none=>none
   else none
  |_,_=>none
 |_,_=>none
structure EqOk (P:Program) (kt:TypeId) (how:Option (List (Nat×TD))) (td:TD):Prop where
 eq:∀{w:World} {F:Nat→Prop} {x y:PV} {b:Bool} {u v:Value},eqV how td x y=some b→VR w F x u→VR w F y v→(b=true↔u=v)∧(∀w',(Op.equal kt u v).run P w'=.ok b w')∧(∀n,0<n→Instr.sameBits n u u=true)∧(how=none→∃d,P.underlying kt=some d∧Instr.sameNow d u v=some b)∧(how≠none→∀d,Instr.sameNow d u v=none)
 check:∀{w:World} {F:Nat→Prop} {x:PV} {u:Value},Zqd how td x=true→VR w F x u→∀(e:Bool) (w':World),(Instr.checkKey e 10000 kt u).run P w'=.ok () w'
 und:∃d,P.underlying kt=some d
theorem Zkk (hT:TabOk P T) {us vs:Array Value} {xs ys:List PV} (hx:VR w F (.agg xs) (.agg us)) (hy:VR w F (.agg ys) (.agg vs)):∀(fs:List Field) (l:List (Nat×TD)) (b:Bool),((fs.map fun f=>(f.offset,f.type)).mapM fun p=>(T.lookup p.2).map fun i=>(p.1,i.desc))=some l→ZlW l xs ys=some b→
 ∀f∈fs,∃(ti:TI) (x y:PV) (u v:Value) (b:Bool),T.lookup f.type=some ti∧us[f.offset]?=some u∧vs[f.offset]?=some v∧xs[f.offset]?=some x∧ys[f.offset]?=some y∧VR w F x u∧VR w F y v∧scEq ti.desc x y=some b
 |[],l,b,hl,hb,f,hf=>by simp at hf
 | g ::r,l,b,hl,hb,f,hf=>by
  simp only[List.map_cons,List.mapM_cons,bind,Option.bind_eq_some_iff,pure,Option.some.injEq] at hl
  obtain ⟨p,hp,l',hl',rfl⟩:=hl
  obtain ⟨ti,hti,rfl⟩:=Option.map_eq_some_iff.1 hp
  unfold ZlW at hb
  obtain ⟨x,hx1,hb⟩:=Option.bind_eq_some_iff.1 hb
  obtain ⟨y,hy1,hb⟩:=Option.bind_eq_some_iff.1 hb
  obtain ⟨b1,hb1,hb⟩:=Option.bind_eq_some_iff.1 hb
  obtain ⟨b2,hb2,rfl⟩:=Option.map_eq_some_iff.1 hb
  rcases List.mem_cons.1 hf with rfl|hf
  ·have gx:∃u,us[f.offset]?=some u∧VR w F x u:=by
    cases hx with
    | agg _ _ h1 h2 h3=>
     have hlt:f.offset<us.size:=by rw[←h1];exact (List.getElem?_eq_some_iff.1 hx1).1
     have:=h3 _ _ hx1
     exact ⟨us[f.offset],Array.getElem?_eq_getElem hlt,by simpa[Array.getD,hlt] using this⟩
   have gy:∃u,vs[f.offset]?=some u∧VR w F y u:=by
    cases hy with
    | agg _ _ h1 h2 h3=>
     have hlt:f.offset<vs.size:=by rw[←h1];exact (List.getElem?_eq_some_iff.1 hy1).1
     have:=h3 _ _ hy1
     exact ⟨vs[f.offset],Array.getElem?_eq_getElem hlt,by simpa[Array.getD,hlt] using this⟩
   obtain ⟨u,hu,hxu⟩:=gx
   obtain ⟨v,hv,hyv⟩:=gy
   exact ⟨ti,x,y,u,v,b1,hti,hu,hv,hx1,hy1,hxu,hyv,hb1⟩
  ·exact Zkk hT hx hy r l' b2 hl' hb2 f hf
theorem Zqf {α β:Type} {f:α→Option β}:∀{l:List α} {r:List β},l.mapM f=some r→r.length=l.length
 |[],r,h=>by simp at h;subst h;rfl
 | a::l,r,h=>by
  simp only[List.mapM_cons,bind,Option.bind_eq_some_iff,pure,Option.some.injEq] at h
  obtain ⟨b,_,r',h',rfl⟩:=h
  simp[Zqf h']
theorem ZoG {n:Nat} (us:Array Value) (h:∀u∈us.toList,Instr.sameBits n u u=true):Instr.sameBits (n+1) (.agg us) (.agg us)=true:=by
 have:∀l:List Value,(∀u∈l,Instr.sameBits n u u=true)→((l.zip l).all fun (x,y)=>Instr.sameBits n x y)=true:=by
  intro l hl
  induction l with
  |nil=>rfl
  | cons a r ih=>
   simp only[List.zip_cons_cons,List.all_cons,Bool.and_eq_true]
   exact ⟨hl a List.mem_cons_self,ih fun u hu=>hl u (List.mem_cons_of_mem _ hu)⟩
 simp only[Instr.sameBits,beq_self_eq_true,Bool.true_and]
 exact this _ h
theorem Zty (hT:TabOk P T) {kt:TypeId} {ki:TI} (hk:T.lookup kt=some ki) {how:Option (List (Nat×TD))} (hh:Zki T ki=some how):EqOk P kt how ki.desc:=by
 obtain ⟨ht⟩:=hT.ty hk
 unfold Zki at hh
 have scalar:how=none→(ki.desc=.bool∨(∃q,ki.desc=.int q)∨ki.desc=.str)→EqOk P kt how ki.desc:=by
  rintro rfl hd
  have hund:∃d,P.underlying kt=some d∧(d=.bool∨(∃q,d=.int q)∨d=.string):=by
   rcases hd with hd|⟨q,hd⟩|hd
   ·exact ⟨_,Zn2 ht hd,.inl rfl⟩
   ·exact ⟨_,Zeu ht hd,.inr (.inl ⟨q,rfl⟩)⟩
   ·exact ⟨_,Zjt ht hd,.inr (.inr rfl)⟩
  refine ⟨fun {w F x y b u v} h hx hy=> ?_,fun {w F x u} h hx e w'=> ?_,⟨_,hund.choose_spec.1⟩⟩
  ·obtain ⟨e1,e2,e3,e4,e5,e6,e7⟩:=ZfB ht h hx hy
   exact ⟨e1,fun w'=>e4 9999 w',fun n _=>e5 n,fun _=>e7,fun hn=>absurd rfl hn⟩
  ·obtain ⟨d,hd1,hd2⟩:=hund
   unfold Zqd at h
   obtain ⟨b,hb⟩:=Option.isSome_iff_exists.1 h
   obtain ⟨e1,e2,e3,e4,e5,e6,e7⟩:=ZfB ht hb hx hx
   unfold Instr.checkKey
   simp only[Sem.run_bind,run_underlying hd1,Result.andThen_ok]
   rcases hd2 with rfl|⟨q,rfl⟩|rfl<;>rfl
 split at hh
 ·cases hh;rename_i hd;exact scalar rfl (.inl hd)
 ·cases hh;rename_i q hd;exact scalar rfl (.inr (.inl ⟨q,hd⟩))
 ·cases hh;rename_i hd;exact scalar rfl (.inr (.inr hd))
 ·rename_i hs
  obtain ⟨l,hl,rfl⟩:=Option.map_eq_some_iff.1 hh
  have hl0:=hl
  unfold Zqb at hl0
  rw[hs] at hl0
  dsimp only at hl0
  split at hl0
  case isFalse=>cases hl0
  rename_i hq
  obtain ⟨hq,hrange⟩:=hq
  obtain ⟨fs,g1,g2,g3,g4,g5,g6⟩:=ZlY ht hs hq
  rw[g3] at hl0 hrange
  have hll:l.length=fs.toList.length:=by rw[Zqf hl0];simp
  have hoff:∀i,i<fs.toList.length→∃f∈fs.toList,f.offset=i:=fun i hi=>by
   refine ⟨fs.toList[i],List.getElem_mem hi, ?_⟩
   have h1:((fs.toList.map fun f=>(f.offset,f.type)).map (·.1))[i]?=some i:=by
    rw[hrange,List.getElem?_range (by simpa using hi)]
   rw[List.map_map,List.getElem?_map,List.getElem?_eq_getElem hi] at h1
   simpa using h1
  refine ⟨fun {w F x y b u v} h hx hy=> ?_,fun {w F x u} h hx e w'=> ?_,⟨_,g1⟩⟩
  ·have h0:=h
   rw[hs] at h0
   obtain ⟨_,us,vs,rfl,rfl,_⟩:=Zju hT ht hl h0 hx hy 0 w
   simp only[eqV] at h
   split at h
   case h_2=>cases h
   rename_i xs ys
   split at h
   case isFalse=>cases h
   rename_i hlen
   have hus:us.size=fs.toList.length:=by cases hx;omega
   have hvs:vs.size=fs.toList.length:=by cases hy;omega
   have hfull:=Zkk hT hx hy fs.toList l b hl0 h
   refine ⟨⟨fun hb=> ?_,fun he=> ?_⟩,fun w'=> ?_,fun n hn=> ?_,fun hc=>(by cases hc),fun _ d=>by cases d<;>rfl⟩
   ·have:=(ZlX hT hx hy 0 w fs.toList l b hl0 g4 h).2 hb
    congr 1
    apply Array.ext'
    apply List.ext_getElem?
    intro i
    by_cases hi:i<fs.toList.length
    ·obtain ⟨f,hf,rfl⟩:=hoff i hi
     simpa using this f hf
    ·rw[List.getElem?_eq_none (by simp;omega),List.getElem?_eq_none (by simp;omega)]
   ·have he:us=vs:=by simpa using he
    have hall:∀(fs':List Field) (l':List (Nat×TD)) (b':Bool),(∀f∈fs',f∈fs.toList)→((fs'.map fun f=>(f.offset,f.type)).mapM fun p=>(T.lookup p.2).map fun i=>(p.1,i.desc))=some l'→ZlW l' xs ys=some b'→b'=true:=by
     intro fs'
     induction fs' with
     |nil=>intro l' b' _ h1 h2;simp at h1;subst h1;simp[ZlW] at h2;rw[←h2]
     | cons f r ih=>
      intro l' b' hsub h1 h2
      simp only[List.map_cons,List.mapM_cons,bind,Option.bind_eq_some_iff,pure,Option.some.injEq] at h1
      obtain ⟨p,hp,l'',hl'',rfl⟩:=h1
      obtain ⟨ti,hti,rfl⟩:=Option.map_eq_some_iff.1 hp
      unfold ZlW at h2
      obtain ⟨x1,hx1,h2⟩:=Option.bind_eq_some_iff.1 h2
      obtain ⟨y1,hy1,h2⟩:=Option.bind_eq_some_iff.1 h2
      obtain ⟨b1,hb1,h2⟩:=Option.bind_eq_some_iff.1 h2
      obtain ⟨b2,hb2,rfl⟩:=Option.map_eq_some_iff.1 h2
      obtain ⟨ti',x',y',u',v',b'',q1,q2,q3,q4,q5,q6,q7,q8⟩:=hfull f (hsub f List.mem_cons_self)
      rw[hti] at q1;cases q1
      rw[hx1] at q4;cases q4
      rw[hy1] at q5;cases q5
      rw[hb1] at q8;cases q8
      obtain ⟨hti'⟩:=hT.ty hti
      have hv:u'=v':=by rw[he] at q2;rw[q2] at q3;exact Option.some.inj q3
      have hb1t:=(ZfB hti' hb1 q6 q7).1.2 hv
      have:=ih l'' b2 (fun g hg=>hsub g (List.mem_cons_of_mem _ hg)) hl'' hb2
      rw[hb1t,this];rfl
    exact hall fs.toList l b (fun _ h=>h) hl0 h
   ·have h2:=Zju hT ht hl h0 hx hy 9998 w'
    exact h2.1
   ·obtain ⟨m,rfl⟩:∃m,n=m+1:=⟨n - 1,by omega⟩
    refine ZoG us fun u hu=> ?_
    obtain ⟨i,hi⟩:=List.mem_iff_getElem?.1 hu
    have hlt:i<fs.toList.length:=by have:=(List.getElem?_eq_some_iff.1 hi).1;simp at this;omega
    obtain ⟨f,hf,rfl⟩:=hoff i hlt
    obtain ⟨ti',x',y',u',v',b'',q1,q2,q3,q4,q5,q6,q7,q8⟩:=hfull f hf
    obtain ⟨hti'⟩:=hT.ty q1
    have:u'=u:=by
     have h3:us[f.offset]?=some u:=by simpa using hi
     rw[q2] at h3;exact Option.some.inj h3
    subst this
    exact (ZfB hti' q8 q6 q7).2.2.2.2.1 m
  ·unfold Zqd at h
   obtain ⟨b,hb⟩:=Option.isSome_iff_exists.1 h
   have h0:=hb
   rw[hs] at h0
   obtain ⟨_,us,_,rfl,_,_⟩:=Zju hT ht hl h0 hx hx 0 w
   simp only[eqV] at hb
   split at hb
   case h_2=>cases hb
   rename_i xs ys e1 e2
   split at hb
   case isFalse=>cases hb
   have hfull:=Zkk hT hx hx fs.toList l b hl0 hb
   have key:∀(l:List Field) (w':World),(∀f∈l,f∈fs.toList)→(forIn l PUnit.unit fun f _=>(do if f.name≠ "_" then do Instr.checkKey e 9999 f.type (←part f.type us f.offset);pure (ForInStep.yield PUnit.unit) else pure (ForInStep.yield PUnit.unit):Sem (ForInStep PUnit))).run P w'=.ok PUnit.unit w':=by
    intro l
    induction l with
    |nil=>intro w' _;simp
    | cons f r ih=>
     intro w' hsub
     obtain ⟨ti',x',y',u',v',b'',q1,q2,q3,q4,q5,q6,q7,q8⟩:=hfull f (hsub f List.mem_cons_self)
     obtain ⟨hti'⟩:=hT.ty q1
     obtain ⟨_,_,_,_,_,r6,d,r7,r8⟩:=ZfB hti' q8 q6 q7
     have hc:(Instr.checkKey e 9999 f.type u').run P w'=.ok () w':=by
      unfold Instr.checkKey
      simp only[Sem.run_bind,run_underlying r7,Result.andThen_ok]
      cases d<;>simp[Instr.sameNow] at r8<;>rfl
     have hn:=g4 f (hsub f List.mem_cons_self)
     simp only[List.forIn_cons,Sem.run_bind]
     rw[if_pos hn]
     simp only[Sem.run_bind,Zkh hti' r6 q2,Result.andThen_ok,hc,Sem.run_pure]
     exact ih w' fun g hg=>hsub g (List.mem_cons_of_mem _ hg)
   have:=key fs.toList w' (fun _ h=>h)
   unfold Instr.checkKey
   simp only[Sem.run_bind,run_underlying g1,Result.andThen_ok]
   rw[←Array.forIn_toList,this]
   rfl
 ·cases hh
inductive Fnd (w:World) (F:Nat→Prop) (ku:Value) (es:List MapEntry) (i:Nat):Option (Nat×PV)→Option (Nat×Value)→Prop
 |no:Fnd w F ku es i none none
 |yes {j:Nat} {x:PV} {e:MapEntry} (hj:i≤j) (he:es[j - i]?=some e) (hk:e.key=ku) (hx:VR w F x e.val):Fnd w F ku es i (some (j,x)) (some (j,e.val))
theorem Fnd.step {w:World} {F:Nat→Prop} {ku:Value} {e:MapEntry} {es:List MapEntry} {i:Nat} {r:Option (Nat×PV)} {v:Option (Nat×Value)} (h:Fnd w F ku es (i+1) r v):Fnd w F ku (e::es) i r v:=by
 cases h with
 |no=>exact .no
 | yes hj he hk hx=>
  rename_i j x e'
  refine .yes (by omega) ?_ hk hx
  rw[show j - i=(j - (i+1))+1 from by omega]
  simpa using he
theorem Zqg {kt:TypeId} {td:TD} (he:EqOk P kt none td) {k:PV} {ku:Value} (hk:VR w F k ku) {d:TypeDesc} (hd:P.underlying kt=some d):∀(l:List (PV×PV)) (es:List MapEntry) (i:Nat) (res:Option (Nat×PV)),MapR w F l es→Zd5 none td l k i=some res→∃r,Instr.findNow d ku es i=some r∧Fnd w F ku es i res r
 |[],es,i,res,hm,h=>by cases hm;simp[Zd5] at h;subst h;exact ⟨none,rfl,.no⟩
 | (k',x)::l,es,i,res,hm,h=>by
  cases hm with
  | cons hk' hx ht=>
   rename_i e es
   unfold Zd5 at h
   obtain ⟨b,hb,h⟩:=Option.bind_eq_some_iff.1 h
   obtain ⟨e1,e2,e3,e4,_⟩:=he.eq hb hk hk'
   obtain ⟨d',hd',hs⟩:=e4 rfl
   rw[hd] at hd';cases hd'
   cases b
   ·simp only[Bool.false_eq_true,if_false] at h
    obtain ⟨r,h1,h2⟩:=Zqg he hk hd l es (i+1) res ht h
    exact ⟨r,by simp[Instr.findNow,hs,h1],h2.step⟩
   ·simp only[if_true] at h
    cases h
    exact ⟨_,by simp[Instr.findNow,hs],.yes (Nat.le_refl _) (by simp) (e1.1 rfl).symm hx⟩
theorem Zqh {kt:TypeId} {td:TD} {how:Option (List (Nat×TD))} (he:EqOk P kt how td) {k:PV} {ku:Value} (hk:VR w F k ku) (w':World):∀(l:List (PV×PV)) (es:List MapEntry) (i:Nat) (res:Option (Nat×PV)),MapR w F l es→Zd5 how td l k i=some res→∃r,(Instr.findAsking kt ku es i).run P w'=.ok r w'∧Fnd w F ku es i res r
 |[],es,i,res,hm,h=>by cases hm;simp[Zd5] at h;subst h;exact ⟨none,rfl,.no⟩
 | (k',x)::l,es,i,res,hm,h=>by
  cases hm with
  | cons hk' hx ht=>
   rename_i e es
   unfold Zd5 at h
   obtain ⟨b,hb,h⟩:=Option.bind_eq_some_iff.1 h
   obtain ⟨e1,e2,e3,e4,_⟩:=he.eq hb hk hk'
   cases b
   ·simp only[Bool.false_eq_true,if_false] at h
    obtain ⟨r,h1,h2⟩:=Zqh he hk w' l es (i+1) res ht h
    exact ⟨r,by simp[Instr.findAsking,e2,h1],h2.step⟩
   ·simp only[if_true] at h
    cases h
    exact ⟨_,by simp[Instr.findAsking,e2],.yes (Nat.le_refl _) (by simp) (e1.1 rfl).symm hx⟩
theorem Zqi {kt:TypeId} {td:TD} {how:Option (List (Nat×TD))} (he:EqOk P kt how td) {k:PV} {ku:Value} (hk:VR w F k ku) (w':World) {l:List (PV×PV)} {es:List MapEntry} {res:Option (Nat×PV)} (hm:MapR w F l es) (h:Zd5 how td l k 0=some res):∃r,(Instr.findKey kt ku es).run P w'=.ok r w'∧Fnd w F ku es 0 res r:=by
 obtain ⟨d,hd⟩:=he.und
 unfold Instr.findKey
 simp only[Sem.run_bind,run_underlying hd,Result.andThen_ok]
 cases how with
 | none=>
  obtain ⟨r,h1,h2⟩:=Zqg he hk hd l es 0 res hm h
  exact ⟨r,by rw[h1];rfl,h2⟩
 | some ll=>
  cases hm with
  |nil=>simp[Zd5] at h;subst h;exact ⟨none,rfl,.no⟩
  | cons hk' hx ht=>
   obtain ⟨r,h1,h2⟩:=Zqh he hk w' _ _ 0 res (.cons hk' hx ht) h
   unfold Zd5 at h
   obtain ⟨b,hb,h⟩:=Option.bind_eq_some_iff.1 h
   have hn:=(he.eq hb hk hk').2.2.2.2 (by simp) d
   exact ⟨r,by simp[Instr.findNow,hn,h1],h2⟩
theorem ZrW (h:St w0 F0 X0 κ σ a.tmps w F fp) {x:Operand} (hlx:Zcv κ σ x) {q:Nat} {kt et:TypeId} (hm:(sv κ x).mapAt=some (q,kt,et)):∃(b clock:Nat) (es:Array MapEntry) (l:List (PV×PV)),kd κ q=.mp kt et∧tv a.tmps q=.map (some b)∧a.eval x=.map (some b)∧ZrV (sv κ x) (dv κ σ x)=.map l∧w.heap[b]?=some (.map es clock)∧MapR w F l es.toList∧b∈fp q:=by
 unfold SV.mapAt at hm
 split at hm
 ·rename_i kt' et' hk
  obtain ⟨s,hs,e⟩:=Option.map_eq_some_iff.1 hm
  cases e
  obtain rfl:=Za3 hs
  have hk':kd κ q=.mp kt et:=hk
  obtain ⟨lb,hn,hsub,hsr⟩:=h.sr q
  rw[hk'] at hsr
  obtain ⟨b,clock,es,l,h1,h2,h3,h4,rfl⟩:=hsr
  refine ⟨b,clock,es,l,hk',h1,h1, ?_,h3,h4,hsub b (by simp)⟩
  unfold ZrV;rw[hk];exact h2
 ·rename_i q' hk
  split at hm
  case h_2=>cases hm
  rename_i kt' et' hpk
  cases hm
  have hk':kOp κ x=.ali (.slot q):=hk
  have hq:kd κ q=.mp kt et:=by simpa[sv,hk',Kd.dep,Place.of] using hpk
  obtain ⟨lb,hn,hsub,hsr⟩:=h.sr q
  rw[hq] at hsr
  obtain ⟨b,clock,es,l,h1,h2,h3,h4,rfl⟩:=hsr
  have hal:=h.al' x hlx
  rw[hk] at hal
  have e3:tv a.tmps q=a.eval x:=hal
  refine ⟨b,clock,es,l,hq,h1,by rw[←e3];exact h1, ?_,h3,h4,hsub b (by simp)⟩
  unfold ZrV;rw[hk]
  simpa[dv,hk',Kd.dep,Place.of] using h2
 ·cases hm
theorem Zjv {t:TypeId} {ti:TI} (ht:TyOk P t ti) {k e:TypeId} (h:ti.desc=.map k e):P.underlying t=some (.map k e):=by
 have hdd:=ht.hd
 have hu:=ht.hdesc
 rw[h] at hdd
 cases hd2:ht.desc<;>rw[hd2] at hdd<;>simp[Zf3] at hdd
 rw[hdd.1,hdd.2,←hd2];exact hu
theorem Zni (hT:TabOk P T) {t:TypeId} {r:Option Operand} {d:Nat} (hop:o.op=.makeMap t r) (hd:o.dst=some d) (hE:ZiE T d t r=some E):Zat P o κ E:=by
 unfold ZiE at hE
 split at hE
 case h_2=>cases hE
 rename_i ti hti
 split at hE
 case h_2=>cases hE
 rename_i kt et hds
 cases hE
 refine Z9 hd rfl rfl fun w0 F0 X0 σ a w F fp kk r h htt hlv hdy=> ?_
 refine ⟨_,.map (some w.heap.size),w.alloc (.map #[] 0),F,[w.heap.size],by simp[execOp,hop,Instr.makeMap],hdy,(Adds.refl w h.fl).alloc _,by simp,⟨w.heap.size,0, #[],[],rfl,rfl,heap_alloc_new w _,.nil,rfl⟩,fun b hb=> ?_,fun _=>trivial,fun q hq=>by simp[Zp,Kd.bdep] at hq⟩
 simp at hb;subst hb;exact ⟨Nat.le_refl _,by simp,fun hc=>by have:=h.fl _ hc;omega⟩
theorem Zf1 (hT:TabOk P T) {t kt et:TypeId} {ti ki ei:TI} (ht:TyOk P t ti) (hds:ti.desc=.map kt et) (hk:T.lookup kt=some ki) (he:TyOk P et ei) (hz:(ei.zero.all fun z=>z≠.other)=true) (hs:ei.agg=true∨ei.size=1) {how:Option (List (Nat×TD))} (hh:Zki T ki=some how) {l:List (PV×PV)} {es:Array MapEntry} {b clock:Nat} (hb:w.heap[b]?=some (.map es clock)) (hm:MapR w F l es.toList) {k:PV} {ku:Value} (hku:VR w F k ku) {p:PV×Bool} (hl:ZkO how ki.desc (ZaN ei) (.map l) k=some p) (ok:Bool):
 ∃u,(Instr.lookup t (.map (some b)) ku ok).run P w=.ok (if ok then .tuple #[u,.bool p.2] else u) w∧VR w F p.1 u:=by
 have heq:=Zty hT hk hh
 unfold ZkO at hl
 simp only[Zqe,Option.bind_some] at hl
 split at hl
 case isFalse=>cases hl
 rename_i hko
 obtain ⟨res,hres,rfl⟩:=Option.map_eq_some_iff.1 hl
 obtain ⟨r,h1,h2⟩:=Zqi heq hku w hm hres
 have hc:=heq.check hko hku es.isEmpty w
 have hget:(getObj b).run P w=.ok (.map es clock) w:=by simp[getObj,Sem.run,hb]
 have hz0:=he.run_zero w
 have hzv:VR w F (ZaN ei) he.zv:=by
  obtain ⟨u,z1,z2,z3,z4⟩:=ZoD he hz hs (w:=w) (F:=F)
  have:u=he.zv:=by
   cases ha:ei.agg
   ·have hna:=he.hnagg ha
    have hone:(ZaN ei).one=true:=by
     unfold ZaN;rw[ha]
     simp only[Bool.false_eq_true,if_false]
     have hs1:ei.size=1:=by rcases hs with hs|hs;rw[ha] at hs;cases hs;exact hs
     have hl1:ei.zero.length=1:=by rw[he.hzero];have:=he.hzs;simp;omega
     match hz:ei.zero,hl1 with
     |[z],_=>simpa using Zl8 z
    have h3:=z1.oneCell hone
    have h4:he.zv.cells= #[he.zv]:=by
     cases hv:he.zv<;>first|rfl|exact absurd hv (hna _)
    rw[h3,h4] at z2
    simpa using z2
   ·obtain ⟨cs,hcs⟩:=he.hagg ha
    have hag:∃us,u=.agg us:=by
     unfold ZaN at z1;rw[ha] at z1
     simp only[if_true] at z1
     cases z1;exact ⟨_,rfl⟩
    obtain ⟨us,rfl⟩:=hag
    rw[hcs] at z2⊢
    simp only[Value.cells] at z2
    rw[z2]
  rw[←this];exact z1
 cases h2 with
 | no=>
  refine ⟨he.zv, ?_,hzv⟩
  unfold Instr.lookup
  simp only[Sem.run_bind,run_underlying (Zjv ht hds),Result.andThen_ok,hget,hc,Sem.run_pure,h1,hz0]
 | yes hj hee hkk hx=>
  refine ⟨_, ?_,hx⟩
  unfold Instr.lookup
  simp only[Sem.run_bind,run_underlying (Zjv ht hds),Result.andThen_ok,hget,hc,Sem.run_pure,h1]
theorem ZoH (hT:TabOk P T) {t:TypeId} {m k:Operand} {ok:Bool} {d:Nat} (hop:o.op=.lookup t m k ok) (hd:o.dst=some d) (hE:Zkj T d t ok (sv κ m) (sv κ k)=some E):Zat P o κ E:=by
 have hops:o.op.operands.toList=[m,k]:=by rw[hop];rfl
 unfold Zkj at hE
 split at hE
 case h_2=>cases hE
 rename_i ti q kt et hti hmat
 obtain ⟨ht⟩:=hT.ty hti
 split at hE
 case h_2=>cases hE
 rename_i kt' et' ki ei hds hki hei
 obtain ⟨he⟩:=hT.ty hei
 split at hE
 case isFalse=>cases hE
 rename_i hc
 obtain ⟨rfl,rfl,hkv,hs,hz⟩:=hc
 split at hE
 ·rename_i how hh
  cases hE
  refine Z9 hd rfl rfl fun w0 F0 X0 σ a w F fp kk r h htt hlv hdy=> ?_
  have hlm:=Zg hlv (x:=m) (by rw[hops];exact .head _)
  rw[hops] at hdy
  obtain ⟨z,hz',hkk⟩:=Option.bind_eq_some_iff.1 hdy
  obtain ⟨p,hp,rfl⟩:=Option.map_eq_some_iff.1 hz'
  obtain ⟨b,clock,es,l,e1,e2,e3,e4,e5,e6,e7⟩:=ZrW h hlm hmat
  rw[e4] at hp
  obtain ⟨u,r1,r2⟩:=Zf1 hT ht hds hki he hz hs hh e5 e6 (rdS h hkv) hp true
  refine ⟨_,.tuple #[u,.bool p.2],w,F,[],by simp[execOp,hop,e3,r1],hkk,Adds.refl w h.fl,List.nodup_nil,⟨#[u,.bool p.2],[p.1,.bool p.2],[[],[]],rfl,rfl,.cons ⟨r2,rfl⟩ (fun hc=>by cases hc) (.cons ⟨.bool _,rfl⟩ (fun hc=>by cases hc) .nil),rfl⟩,by simp,fun _=>trivial,fun q hq=>by simp[Zp,Kd.bdep] at hq⟩
 ·rename_i how hh
  cases hE
  refine Za2 hd rfl rfl rfl fun w0 F0 X0 σ a w F fp kk r h htt hlv hdy=> ?_
  have hlm:=Zg hlv (x:=m) (by rw[hops];exact .head _)
  rw[hops] at hdy
  obtain ⟨z,hz',hkk⟩:=Option.bind_eq_some_iff.1 hdy
  obtain ⟨p,hp,rfl⟩:=Option.map_eq_some_iff.1 hz'
  obtain ⟨b,clock,es,l,e1,e2,e3,e4,e5,e6,e7⟩:=ZrW h hlm hmat
  rw[e4] at hp
  obtain ⟨u,r1,r2⟩:=Zf1 hT ht hds hki he hz hs hh e5 e6 (rdS h hkv) hp false
  exact ⟨_,u,by simp[execOp,hop,e3,r1],hkk,r2⟩
 ·cases hE
theorem MapR.append {l l':List (PV×PV)} {es es':List MapEntry} (h:MapR w F l es) (h':MapR w F l' es'):MapR w F (l++l') (es++es'):=by
 induction h with
 |nil=>exact h'
 |cons hk hx ht ih=>exact .cons hk hx ih
theorem MapR.setAt {l:List (PV×PV)} {es:List MapEntry} (h:MapR w F l es) (i:Nat) {k x:PV} {e:MapEntry} (hk:VR w F k e.key) (hx:VR w F x e.val):MapR w F (l.set i (k,x)) (es.set i e):=by
 induction h generalizing i with
 |nil=>exact .nil
 | cons hk' hx' ht ih=>
  cases i with
  |zero=>exact .cons hk hx ht
  |succ i=>exact .cons hk' hx' (ih i)
def wOb (w:World) (b:Nat) (o:Obj):World:={w with heap:=w.heap.setIfInBounds b o}
theorem Zjw (hT:TabOk P T) {t:TypeId} {m k x:Operand} (hop:o.op=.mapUpdate t m k x∨o.op=.insert t m k x) (hd:o.dst=none) (hE:ZhV T t (sv κ m) (sv κ k) (sv κ x)=some E):Zat P o κ E:=by
 have hops:o.op.operands.toList=[m,k,x]:=by rcases hop with hop|hop<;>rw[hop]<;>rfl
 have hex:∀(ρ:Operand→Value),execOp ρ o=(do Instr.mapUpdate t (ρ m) (ρ k) (ρ x);pure .skip):=fun ρ=>by rcases hop with hop|hop<;>simp[execOp,hop]
 unfold ZhV at hE
 split at hE
 case h_2=>cases hE
 rename_i ti q kt et hti hmat
 obtain ⟨ht⟩:=hT.ty hti
 split at hE
 case h_2=>cases hE
 rename_i kt' et' ki hds hki
 split at hE
 case isFalse=>cases hE
 rename_i hc
 obtain ⟨rfl,rfl,hkv,hxv⟩:=hc
 split at hE
 case h_2=>cases hE
 rename_i how hh
 cases hE
 have heq:=Zty hT hki hh
 refine Zko hd rfl fun w0 F0 X0 κ1 σ a w F F1 fp fp1 kk r h h1 htt hg hF hfp hall hlv hdy=> ?_
 cases hg
 have hlm:=Zg hlv (x:=m) (by rw[hops];exact .head _)
 rw[hops] at hdy
 obtain ⟨z,hz',hkk⟩:=Option.bind_eq_some_iff.1 hdy
 obtain ⟨b,clock,es,l,e1,e2,e3,e4,e5,e6,e7⟩:=ZrW h1 hlm hmat
 replace hz':putV how ki.desc (ZrV (sv κ m) (dv κ σ m)) (dv κ σ k).v (dv κ σ x).v=some z:=hz'
 rw[e4] at hz'
 unfold putV at hz'
 simp only[Zqe,Option.bind_some] at hz'
 split at hz'
 case isFalse=>cases hz'
 rename_i hko
 obtain ⟨res,hres,rfl⟩:=Option.map_eq_some_iff.1 hz'
 have hku:=rdS h1 hkv
 have hxu:=rdS h1 hxv
 obtain ⟨rr,f1,f2⟩:=Zqi heq hku w e6 hres
 have hchk:=heq.check hko hku false w
 have hget:(getObj b).run P w=.ok (.map es clock) w:=by simp[getObj,Sem.run,e5]
 have hset:∀o',(setObj b o').run P w=.ok () (wOb w b o'):=fun o'=>by simp[setObj,Sem.run,e5,wOb]
 have fin:∀(es':Array MapEntry) (clock':Nat) (l':List (PV×PV)),(Instr.mapUpdate t (a.eval m) (a.eval k) (a.eval x)).run P w=.ok () (wOb w b (.map es' clock'))→MapR w F1 l' es'.toList→kk (.map l')=some r→
  ∃(x':PV) (w':World) (ll:List Nat),(execOp a.eval o).run P w=.ok .skip w'∧kk x'=some r∧w'.os=w.os∧w'.tape=w.tape∧w'.output=w.output∧w'.heap.size=w.heap.size∧(∀c,c<w.heap.size→c∉fp1 q→w'.heap[c]?=w.heap[c]?)∧ll.Nodup∧SR w' F1 (.mp kt' et') x' (tv a.tmps q) ll∧(∀c∈ll,c∈fp1 q)∧(Kd.mp kt' et').dep=none∧((kd κ q).isBox=true→(Kd.mp kt' et').isBox=true∧∀k y u,k.bdep=some q→Cut.fn q .no k=false→Al a.tmps w k y u→Al a.tmps (wOb w b (.map es' clock')) k y u):=by
  intro es' clock' l' hrun hm' hk'
  have hblt:b<w.heap.size:=(Array.getElem?_eq_some_iff.1 e5).1
  have hother:∀c,c≠b→(wOb w b (.map es' clock')).heap[c]?=w.heap[c]?:=fun c hc=>by
   simp[wOb,Array.getElem?_setIfInBounds_ne (Ne.symm hc)]
  have hself:(wOb w b (.map es' clock')).heap[b]?=some (.map es' clock'):=by
   simp[wOb,hblt]
  have hst:Stays w F1 (wOb w b (.map es' clock')) F1:=⟨fun _ h=>h,fun c hc=>hother c fun e=>(h1.pr _ b e7).2.1 (e▸hc)⟩
  refine ⟨.map l',wOb w b (.map es' clock'),[b],by rw[hex];simp[hrun],hk',rfl,rfl,rfl,by simp[wOb],fun c _ hc=>hother c fun e=>hc (e▸e7),by simp,⟨b,clock',es',l',e2,rfl,hself,hm'.keep hst,rfl⟩,by simpa using e7,rfl,fun hb=>by rw[e1] at hb;cases hb⟩
 have cut0:∀(w':World) (c:(kd κ q).isBox=true),False:=fun _ c=>by rw[e1] at c;cases c
 cases f2 with
 | no=>
  have hrun:(Instr.mapUpdate t (a.eval m) (a.eval k) (a.eval x)).run P w=.ok () (wOb w b (.map (es.push {key:=a.eval k,val:=a.eval x,born:=clock}) (clock+1))):=by
   unfold Instr.mapUpdate
   simp only[Sem.run_bind,run_underlying (Zjv ht hds),Result.andThen_ok,e3,hget,hchk,f1,hset]
  obtain ⟨x',w',ll,q1,q2,q3,q4,q5,q6,q7,q8,q9,q10,q11,q12⟩:=fin _ _ (l++[((dv κ σ k).v,(dv κ σ x).v)]) hrun (by rw[Array.toList_push];exact e6.append (.cons hku hxu .nil)) hkk
  exact ⟨x',w',ll,q1,q2,q3,q4,q5,q6,q7,q8,q9,q10,q11,fun hb=>(cut0 w' hb).elim⟩
 | yes hj hee hkk' hx=>
  rename_i j x0 e0
  rw[Nat.sub_zero] at hee
  have hee':es[j]?=some e0:=by simpa using hee
  have hold:((es[j]?).map (·.key)).getD (a.eval k)=a.eval k:=by rw[hee'];simp[hkk']
  have hsame:Instr.sameBits 10000 (a.eval k) (a.eval k)=true:=by
   obtain ⟨bb,hbb⟩:=Option.isSome_iff_exists.1 hko
   exact (heq.eq hbb hku hku).2.2.1 10000 (by omega)
  have hstay:(Instr.keyThatStays (a.eval k) (a.eval k)).run P w=.ok (a.eval k) w:=by simp[Instr.keyThatStays,hsame]
  have hrun:(Instr.mapUpdate t (a.eval m) (a.eval k) (a.eval x)).run P w=.ok () (wOb w b (.map (es.modify j fun e=>{e with key:=a.eval k,val:=a.eval x}) clock)):=by
   unfold Instr.mapUpdate
   simp only[Sem.run_bind,run_underlying (Zjv ht hds),Result.andThen_ok,e3,hget,hchk,f1,hset]
   simp only[hold,hstay,Result.andThen_ok,hset]
  have hmod:(es.modify j fun e=>{e with key:=a.eval k,val:=a.eval x}).toList=es.toList.set j {e0 with key:=a.eval k,val:=a.eval x}:=by
   apply List.ext_getElem?
   intro i
   rw[List.getElem?_set]
   by_cases hij:j=i
   ·subst hij
    have hlt:j<es.size:=(Array.getElem?_eq_some_iff.1 hee').1
    have:es[j]=e0:=by have:=Array.getElem?_eq_some_iff.1 hee';exact this.2
    simp[hlt,Array.getElem_modify,this]
   ·simp[hij,Array.getElem?_modify]
  obtain ⟨x',w',ll,q1,q2,q3,q4,q5,q6,q7,q8,q9,q10,q11,q12⟩:=fin _ _ (l.set j ((dv κ σ k).v,(dv κ σ x).v)) hrun (by rw[hmod];exact e6.setAt j (e:={e0 with key:=a.eval k,val:=a.eval x}) hku hxu) hkk
  exact ⟨x',w',ll,q1,q2,q3,q4,q5,q6,q7,q8,q9,q10,q11,fun hb=>(cut0 w' hb).elim⟩
def Zlo {R:Type} (d:Nat):Eff R:={gh:=[],tgt:=d,put:=true,k:=.ck .none,cut:=.no,dyn:=fun _ _=>none}
theorem ZiF {d:Nat}:Zat P o κ (Zlo (R:=R) d):=by
 intro w0 F0 X0 κ' σ a w F fp kk r K Q h hκ hlv hdy hK
 cases hdy
def ZoI (q:Nat):Nat→List CK→List Gh
 |_,[]=>[]
 |i,.own app e sz::r=>⟨q,some i,true,app,e,sz⟩::ZoI q (i+1) r
 |i,_::r=>ZoI q (i+1) r
def isMv (T:Tab) (t:TypeId):Bool:=decide (2≤(T.filter fun p=>p.1==t).length)
def ZlZ {R:Type} (T:Tab) (d:Nat) (t:TypeId) (a:SV):Option (Eff R):=
 match T.lookup t,a.boxAt with
 | some ti,some (q,ks,off)=>
  if ti.agg=true∧(((ks.drop off).take ti.size).all ckV)=false then
   if isMv T t=true then
    if q≠d∧((ks.drop off).take ti.size).length=ti.size then some {gh:=Zd6 q off ((ks.drop off).take ti.size),tgt:=d,put:=true,k:=.grp false ((ks.drop off).take ti.size),cut:=.no,dyn:=Zb4 fun x=>Zb true off ti.size (ZdX a x)} else none
   else
   if q≠d∧(((ks.drop off).take ti.size).all fun k=>k≠.none)=true then some {gh:=ZoI q off ((ks.drop off).take ti.size),tgt:=d,put:=true,k:=.ck .val,cut:=.no,dyn:=Zb4 fun x=>Zb true off ti.size (ZdX a x)} else none
  else Zlr T d t a
 |_,_=>Zlr T d t a
theorem Zqj {q:Nat}:∀(ks:List CK) (i:Nat) (g:Gh),g∈ZoI q i ks→g.s=q∧g.fz=true∧∃j,g.i=some (i+j)
 |[],i,g,h=>by cases h
 | k::r,i,g,h=>by
  have rec':g∈ZoI q (i+1) r→g.s=q∧g.fz=true∧∃j,g.i=some (i+j):=fun h'=>by
   obtain ⟨h1,h2,j,h3⟩:=Zqj r (i+1) g h'
   exact ⟨h1,h2,j+1,by rw[h3];congr 1;omega⟩
  cases k with
  | own app e sz=>
   simp only[ZoI] at h
   rcases List.mem_cons.1 h with rfl|h
   ·exact ⟨rfl,rfl,0,rfl⟩
   ·exact rec' h
  |none=>exact rec' h
  |val=>exact rec' h
  |nil=>exact rec' h
theorem Ztz {q:Nat} {app:Bool} {e:TypeId} {sz:Nat}:∀(ks:List CK) (i j:Nat),ks[j]?=some (.own app e sz)→∃g∈ZoI q i ks,g.i=some (i+j)
 |[],i,j,h=>by simp at h
 |k::r,i,0,h=>by simp at h;subst h;exact ⟨_,List.mem_cons_self,rfl⟩
 | k::r,i,j+1,h=>by
  obtain ⟨g,hg,hi⟩:=Ztz r (i+1) j (by simpa using h)
  refine ⟨g, ?_,by rw[hi];congr 1;omega⟩
  cases k<;>simp only[ZoI]<;>first|exact hg|exact List.mem_cons_of_mem _ hg
theorem Zn4 {tgt q:Nat} {TT:TypeId}:∀(gs:List Gh) (κ κ1:List Kd) (ks:List CK),(∀g∈gs,g.s=q∧g.fz=true∧∃j,g.i=some j)→kd κ q=.box TT ks→ZcL tgt gs κ=some κ1→
 ∃ks1,kd κ1 q=.box TT ks1∧ks1.length=ks.length∧(∀i,i<ks.length→(∃g∈gs,g.i=some i)→ks1[i]?=some .val)∧(∀i,(∀g∈gs,g.i≠some i)→ks1[i]?=ks[i]?)
 |[],κ,κ1,ks,_,hk,h=>by cases h;exact ⟨ks,hk,rfl,(fun i _ hg=>by obtain ⟨g,hg,_⟩:=hg;cases hg),fun i _=>rfl⟩
 | g ::r,κ,κ1,ks,hg,hk,h=>by
  obtain ⟨g1,g2,j,g3⟩:=hg g List.mem_cons_self
  unfold ZcL at h
  obtain ⟨κm,h1,h2⟩:=Option.bind_eq_some_iff.1 h
  unfold Gh.act at h1
  split at h1
  ·cases h1
  split at h1
  case isFalse=>cases h1
  rename_i hlt
  obtain ⟨k,hk1,rfl⟩:=Option.map_eq_some_iff.1 h1
  rw[g1,hk] at hk1
  simp only[Gh.kind,g3] at hk1
  split at hk1
  case isFalse=>cases hk1
  cases hk1
  have hkm:kd (ZiM κ g.s g.cut (.box TT (ks.set j g.ck))) q=.box TT (ks.set j g.ck):=by
   rw[ZdW _ _ _ _ _ hlt,if_pos g1.symm]
  obtain ⟨ks1,e1,e2,e3,e4⟩:=Zn4 r _ κ1 _ (fun g' hg'=>hg g' (List.mem_cons_of_mem _ hg')) hkm h2
  have hck:g.ck=.val:=by simp[Gh.ck,g2]
  refine ⟨ks1,e1,by simpa using e2,fun i hi hgi=> ?_,fun i hgi=> ?_⟩
  ·by_cases hr:∃g'∈r,g'.i=some i
   ·exact e3 i (by simpa using hi) hr
   ·have hr':∀g'∈r,g'.i≠some i:=fun g' hg' he=>hr ⟨g',hg',he⟩
    rw[e4 i hr']
    obtain ⟨g',hg',he⟩:=hgi
    rcases List.mem_cons.1 hg' with rfl|hg'
    ·rw[g3] at he;cases he
     rw[hck];simp[hi]
    ·exact absurd he (hr' g' hg')
  ·rw[e4 i fun g' hg'=>hgi g' (List.mem_cons_of_mem _ hg')]
   have:j≠i:=fun e=>hgi g List.mem_cons_self (by rw[g3,e])
   rw[List.getElem?_set_ne this]
theorem Zqk (hT:TabOk P T) {t:TypeId} {x:Operand} {d:Nat} (hop:o.op=.load t x) (hd:o.dst=some d) (hE:ZlZ T d t (sv κ x)=some E):Zat P o κ E:=by
 unfold ZlZ at hE
 split at hE
 case h_2=>exact Zmh hT hop hd hE
 rename_i ti q ks off hti hb
 split at hE
 case isFalse=>exact Zmh hT hop hd hE
 rename_i hag
 obtain ⟨hagg,_⟩:=hag
 obtain ⟨ht⟩:=hT.ty hti
 split at hE
 ·
  split at hE
  case isFalse=>cases hE
  rename_i hc
  obtain ⟨hqd,hkl⟩:=hc
  cases hE
  have hops:o.op.operands.toList=[x]:=by rw[hop];rfl
  refine Zdz hd rfl fun w0 F0 X0 κ1 σ a w F F1 fp fp1 kk r h h1 htt hg hF hall hlv hdy=> ?_
  have hlx:=Zg hlv (x:=x) (by rw[hops];exact .head _)
  rw[hops] at hdy
  obtain ⟨z,hz,hkk⟩:=Option.bind_eq_some_iff.1 hdy
  obtain ⟨b,cs,TT,xs,fps,_,e1,e2,e3,e4,e5,e6,e7,e8,e9⟩:=ZeA h hlx hb
  replace hz:Zb true off ti.size (ZdX (sv κ x) (dv κ σ x))=some z:=hz
  rw[e3] at hz
  unfold Zb at hz
  rw[if_pos rfl] at hz
  split at hz
  case isFalse=>cases hz
  rename_i hle
  cases hz
  have hgr:=(e7.drop off).take ti.size
  have hl7:=e7.lens
  have hcl:((cs.toList.drop off).take ti.size).length=ti.size:=by
   have h1:=hgr.lens
   omega
  have hst:Stays w F w F1:=⟨hF,fun _ _=>rfl⟩
  have hrun:=ZjE (P:=P) (w:=w) ht hagg (b:=b) (off:=off) ((cs.toList.drop off).take ti.size) hcl (fun j v hj=>by
   have hjl:j<ti.size:=by have:=(List.getElem?_eq_some_iff.1 hj).1;omega
   rw[List.getElem?_take_of_lt hjl,List.getElem?_drop] at hj
   rw[cell_of_row w b (off+j) cs TT (0,0) e6]
   simpa using hj)
  have hown:∀c∈((fps.drop off).take ti.size).flatten,c∈fp1 d:=by
   refine ZeW hgr (own:=fun c=>c∈fp1 d) fun i app e sz x' v' lb' k1 k2 k3 k4 c hcc=> ?_
   have hm:=ZfG (s:=q) _ off i k1
   obtain ⟨y',v'',l',lb'',m1,m2,m3,m4,m5⟩:=hall _ hm
   simp only[Bool.false_eq_true,if_false] at m5
   have hvv:v''=v':=by
    rcases m1 with ⟨b',xs',t1,t2,t3,t4⟩|⟨tt,cs',xs',t1,t2,t3,t4,t5⟩|⟨cs',xs',t1,t2,t3,t4,t5⟩
    ·simp only at t1 t2
     rw[e4] at t1
     simp at t1
     subst t1
     have hin:i<ti.size:=by
      have:=(List.getElem?_eq_some_iff.1 k1).1
      omega
     rw[List.getElem?_take_of_lt hin,List.getElem?_drop] at k3
     rw[cell_of_row w b (off+i) cs TT (0,0) e6] at t2
     have:cs[off+i]?=some v':=by simpa using k3
     rw[this] at t2
     exact (Option.some.inj t2).symm
    ·simp only at t1;rw[e4] at t1;cases tt<;>simp at t1
    ·simp only at t1;rw[e4] at t1;cases t1
   subst hvv
   obtain ⟨l0,rfl,hr0⟩:=k4
   have:=hr0.lb_eq m3
   subst this
   exact m5 c hcc
  exact ⟨_,_,w,F1,((fps.drop off).take ti.size).flatten,Zc6 hop (by rw[e5];exact hrun),hkk,rfl,rfl,rfl,Nat.le_refl _,fun _ _ _=>rfl,fun _ h=>h,fun _ h=>.inl h,h1.fl,ZnX (List.nodup_cons.1 e8).2 off ti.size,⟨((cs.toList.drop off).take ti.size).toArray,_,_,rfl,rfl,by simpa using hgr.keep hst fun _ _=>rfl,rfl⟩,fun c hc=>⟨.inr (hown c hc),(h1.pr _ c (hown c hc)).1,(h1.pr _ c (hown c hc)).2.1⟩,fun _=>trivial,fun q hq=>by simp[Kd.bdep] at hq⟩
 split at hE
 case isFalse=>cases hE
 rename_i hc
 obtain ⟨hqd,hnn⟩:=hc
 cases hE
 have hops:o.op.operands.toList=[x]:=by rw[hop];rfl
 refine Zdz hd rfl fun w0 F0 X0 κ1 σ a w F F1 fp fp1 kk r h h1 htt hg hF hall hlv hdy=> ?_
 have hlx:=Zg hlv (x:=x) (by rw[hops];exact .head _)
 rw[hops] at hdy
 obtain ⟨z,hz,hkk⟩:=Option.bind_eq_some_iff.1 hdy
 obtain ⟨b,cs,TT,xs,fps,_,e1,e2,e3,e4,e5,e6,e7,e8,e9⟩:=ZeA h hlx hb
 obtain ⟨ks1,k1,k2,k3,k4⟩:=Zn4 _ κ κ1 ks (fun g hg=>by
  obtain ⟨m1,m2,j,m3⟩:=Zqj _ _ g hg
  exact ⟨m1,m2,_,m3⟩) e1 hg
 obtain ⟨lb,hn,hsub,hsr⟩:=h1.sr q
 rw[k1] at hsr
 obtain ⟨b1,cs1,xs1,fps1,s1,s2,s3,s4,s5⟩:=hsr
 have hbb:b1=b:=by rw[e4] at s1;simp at s1;exact s1.symm
 subst hbb
 have hcs:cs1=cs:=by rw[e6] at s3;simp at s3;exact s3.symm
 subst hcs
 have hxs:xs1=xs:=by
  have:vl σ q=.agg xs:=e2
  rw[this] at s2
  simpa using s2.symm
 subst hxs
 replace hz:Zb true off ti.size (ZdX (sv κ x) (dv κ σ x))=some z:=hz
 rw[e3,←hagg] at hz
 obtain ⟨v,r1,r2⟩:=ZhX (w:=w) (F:=F1) (b:=b1) (base:=0) ht hz (fun j y hy hj _=>by
  obtain ⟨hj1,hj2⟩:=hj hagg
  obtain ⟨k,c,f,g1,g2,g3,g4,g5⟩:=s4.at j y hy
  rw[Nat.zero_add,cell_of_row w b1 j cs1 TT (0,0) e6]
  have hjl:j<ks.length:=by rw[←k2];exact (List.getElem?_eq_some_iff.1 g1).1
  have hkj:((ks.drop off).take ti.size)[j - off]?=some ks[j]:=by
   rw[List.getElem?_take,if_pos (by omega),List.getElem?_drop,show off+(j - off)=j from by omega]
   exact List.getElem?_eq_getElem hjl
  have hk:ckV k=true:=by
   by_cases hgj:∃g∈ZoI q off ((ks.drop off).take ti.size),g.i=some j
   ·have:=k3 j hjl hgj
    rw[this] at g1;cases g1;rfl
   ·have:=k4 j fun g hg he=>hgj ⟨g,hg,he⟩
    rw[g1,List.getElem?_eq_getElem hjl] at this
    have hkk':k=ks[j]:=Option.some.inj this
    have hne:ks[j]≠.none:=by simpa using List.all_eq_true.1 hnn _ (List.mem_of_getElem? hkj)
    rw[hkk']
    cases hkv:ks[j] with
    |none=>exact absurd hkv hne
    |val=>rfl
    |nil=>rfl
    | own app e sz=>
     exfalso
     rw[hkv] at hkj
     obtain ⟨g,hg,hgi⟩:=Ztz (q:=q) _ off (j - off) hkj
     exact hgj ⟨g,hg,by rw[hgi];congr 1;omega⟩
  exact ⟨c,by simpa using g2,(Zf4 g4 hk).1,g5 rfl⟩)
 refine ⟨z,v,w,F1,[],Zc6 hop (by rw[e5];simpa using r1),hkk,rfl,rfl,rfl,Nat.le_refl _,fun _ _ _=>rfl,fun _ h=>h,fun _ h=>.inl h,h1.fl,List.nodup_nil,⟨r2,rfl⟩,by simp,fun _=>trivial,fun q hq=>by simp[Kd.bdep] at hq⟩
theorem ZrX {l:List (PV×PV)} {v:Value} (h:VR w F (.map l) v):∃(b clock:Nat) (es:Array MapEntry),v=.map (some b)∧w.heap[b]?=some (.map es clock)∧MapR w F l es.toList:=by
 cases h with
 | map _ b clock es hb hw hl hk hx=>
  refine ⟨b,clock,es,rfl,hw, ?_⟩
  have key:∀(l:List (PV×PV)) (es:List MapEntry),l.length=es.length→(∀(i:Nat) (p:PV×PV) (e:MapEntry),l[i]?=some p→es[i]?=some e→VR w F p.1 e.key)→(∀(i:Nat) (p:PV×PV) (e:MapEntry),l[i]?=some p→es[i]?=some e→VR w F p.2 e.val)→MapR w F l es:=by
   intro l
   induction l with
   |nil=>intro es h1 _ _;cases es with|nil=>exact .nil|cons=>simp at h1
   | cons p r ih=>
    intro es h1 h2 h3
    cases es with
    |nil=>simp at h1
    |cons e q=>exact .cons (h2 0 p e rfl rfl) (h3 0 p e rfl rfl) (ih q (by simpa using h1) (fun i p e hp he=>h2 (i+1) p e (by simpa using hp) (by simpa using he)) (fun i p e hp he=>h3 (i+1) p e (by simpa using hp) (by simpa using he)))
  exact key l es.toList (by simpa using hl) (fun i p e hp he=>hk i p e hp (by simpa using he)) (fun i p e hp he=>hx i p e hp (by simpa using he))
def ZiG {R:Type} (T:Tab) (d:Nat) (t:TypeId) (ok:Bool) (k:SV):Option (Eff R):=
 match T.lookup t with
 | some ti=>
  match ti.desc with
  | .map kt et=>
   match T.lookup kt,T.lookup et with
   | some ki,some ei=>
    if k.isV=true∧(ei.agg=true∨ei.size=1)∧(ei.zero.all fun z=>z≠.other)=true then
     match Zki T ki,ok with
     |some how,true=>some (Zp d (.grp true [.val,.val]) (ZcD fun x y=>(ZkO how ki.desc (ZaN ei) x.v y.v).map fun p=>.tup [p.1,.bool p.2]))
     |some how,false=>some (Zp d (.ck .val) (ZcD fun x y=>(ZkO how ki.desc (ZaN ei) x.v y.v).map (·.1)))
     |none,_=>none
    else none
   |_,_=>none
  |_=>none
 |none=>none
theorem Znj (hT:TabOk P T) {t:TypeId} {m k:Operand} {ok:Bool} {d:Nat} (hop:o.op=.lookup t m k ok) (hd:o.dst=some d) (hm:(sv κ m).isV=true) (hE:ZiG T d t ok (sv κ k)=some E):Zat P o κ E:=by
 have hops:o.op.operands.toList=[m,k]:=by rw[hop];rfl
 unfold ZiG at hE
 split at hE
 case h_2=>cases hE
 rename_i ti hti
 obtain ⟨ht⟩:=hT.ty hti
 split at hE
 case h_2=>cases hE
 rename_i kt et hds
 split at hE
 case h_2=>cases hE
 rename_i ki ei hki hei
 obtain ⟨he⟩:=hT.ty hei
 split at hE
 case isFalse=>cases hE
 rename_i hc
 obtain ⟨hkv,hs,hz⟩:=hc
 have at_:∀{w0:World} {F0:Nat→Prop} {X0:List Nat} {σ:List PV} {a:Act} {w:World} {F:Nat→Prop} {fp:Nat→List Nat} {how:Option (List (Nat×TD))} {p:PV×Bool},St w0 F0 X0 κ σ a.tmps w F fp→ZkO how ki.desc (ZaN ei) (dv κ σ m).v (dv κ σ k).v=some p→
  ∃(b clock:Nat) (es:Array MapEntry) (l:List (PV×PV)),a.eval m=.map (some b)∧(dv κ σ m).v=.map l∧w.heap[b]?=some (.map es clock)∧MapR w F l es.toList:=by
  intro w0 F0 X0 σ a w F fp how p h hp
  have h1:=rdS h hm
  unfold ZkO at hp
  obtain ⟨l,hl,_⟩:=Option.bind_eq_some_iff.1 hp
  have hv:(dv κ σ m).v=.map l:=by
   generalize (dv κ σ m).v=x at hl
   cases x<;>simp[Zqe] at hl
   rw[hl]
  rw[hv] at h1
  obtain ⟨b,clock,es,e1,e2,e3⟩:=ZrX h1
  exact ⟨b,clock,es,l,e1,hv,e2,e3⟩
 split at hE
 ·rename_i how hh
  cases hE
  refine Z9 hd rfl rfl fun w0 F0 X0 σ a w F fp kk r h htt hlv hdy=> ?_
  rw[hops] at hdy
  obtain ⟨z,hz',hkk⟩:=Option.bind_eq_some_iff.1 hdy
  obtain ⟨p,hp,rfl⟩:=Option.map_eq_some_iff.1 hz'
  obtain ⟨b,clock,es,l,e3,e4,e5,e6⟩:=at_ h hp
  rw[e4] at hp
  obtain ⟨u,r1,r2⟩:=Zf1 hT ht hds hki he hz hs hh e5 e6 (rdS h hkv) hp true
  refine ⟨_,.tuple #[u,.bool p.2],w,F,[],by simp[execOp,hop,e3,r1],hkk,Adds.refl w h.fl,List.nodup_nil,⟨#[u,.bool p.2],[p.1,.bool p.2],[[],[]],rfl,rfl,.cons ⟨r2,rfl⟩ (fun hc=>by cases hc) (.cons ⟨.bool _,rfl⟩ (fun hc=>by cases hc) .nil),rfl⟩,by simp,fun _=>trivial,fun q hq=>by simp[Zp,Kd.bdep] at hq⟩
 ·rename_i how hh
  cases hE
  refine Za2 hd rfl rfl rfl fun w0 F0 X0 σ a w F fp kk r h htt hlv hdy=> ?_
  rw[hops] at hdy
  obtain ⟨z,hz',hkk⟩:=Option.bind_eq_some_iff.1 hdy
  obtain ⟨p,hp,rfl⟩:=Option.map_eq_some_iff.1 hz'
  obtain ⟨b,clock,es,l,e3,e4,e5,e6⟩:=at_ h hp
  rw[e4] at hp
  obtain ⟨u,r1,r2⟩:=Zf1 hT ht hds hki he hz hs hh e5 e6 (rdS h hkv) hp false
  exact ⟨_,u,by simp[execOp,hop,e3,r1],hkk,r2⟩
 ·cases hE
def ZiH {R:Type} (T:Tab) (d:Nat) (t:TypeId) (ok:Bool) (m k:SV):Option (Eff R):=
 if m.isV then ZiG T d t ok k else Zkj T d t ok m k
theorem Znk (hT:TabOk P T) {t:TypeId} {m k:Operand} {ok:Bool} {d:Nat} (hop:o.op=.lookup t m k ok) (hd:o.dst=some d) (hE:ZiH T d t ok (sv κ m) (sv κ k)=some E):Zat P o κ E:=by
 unfold ZiH at hE
 split at hE
 ·rename_i hm;exact Znj hT hop hd hm hE
 ·exact ZoH hT hop hd hE
def Zkl {R:Type} (T:Tab) (t:TypeId) (a x:SV):Option (Eff R):=
 match a.k,a.slot,x.k,x.slot,T.lookup t with
 |.box TT [.none],some q,.mp _ _,some m,some ti=>if q≠m∧ti.agg=false∧ti.size=1 then some {gh:=[],tgt:=q,put:=false,k:=.mbx m,cut:=.all,dyn:=fun _ kk=>kk (.bool true)} else none
 |_,_,_,_,_=>none
theorem ZoJ (hT:TabOk P T) {t:TypeId} {x y:Operand} (hop:o.op=.store t x y) (hd:o.dst=none) (hE:Zkl T t (sv κ x) (sv κ y)=some E):Zat P o κ E:=by
 unfold Zkl at hE
 split at hE
 case h_2=>cases hE
 rename_i _ _ _ _ _ TT q kt et m ti hkx hsx hky hsy hti
 split at hE
 case isFalse=>cases hE
 rename_i hc
 obtain ⟨hqm,hagg,hsz⟩:=hc
 cases hE
 obtain ⟨ht⟩:=hT.ty hti
 obtain rfl:=Za3 hsx
 obtain rfl:=Za3 hsy
 have hkx':kd κ q=.box TT [.none]:=hkx
 have hky':kd κ m=.mp kt et:=hky
 intro w0 F0 X0 κ' σ a w F fp kk r K Q h hκ hlv hdy hK
 unfold Eff.κ at hκ
 split at hκ
 case isFalse=>cases hκ
 rename_i htgt
 have hκ':ZiM (noCln true κ) q .all (.mbx m)=κ':=by simpa[ZcL,Eff.md,mdB] using hκ
 subst hκ'
 obtain ⟨lq,hnq,hsq,hrq⟩:=h.sr q
 rw[hkx'] at hrq
 obtain ⟨b,cs,xs,fps,e1,e2,e3,e4,rfl⟩:=hrq
 obtain ⟨lm,hnm,hsm,hrm⟩:=h.sr m
 rw[hky'] at hrm
 obtain ⟨mb,clock,es,l,m1,m2,m3,m4,rfl⟩:=hrm
 have hbq:b∈fp q:=hsq b (by simp)
 have hlens:=e4.lens
 have hcs:cs.size=1:=by have:=hlens.2.1;have:=hlens.1;simp at *;omega
 have hrun:=Zf6 (P:=P) (w:=w) ht (g:=b) (off:=0) (v:=.map (some mb)) e3 (.inl (Nat.le_refl _)) (by simp[Value.cells,hsz]) (by rw[hcs,hsz];exact Nat.le_refl _) (fun u hu=>by simp[Value.cells] at hu;subst hu;rfl)
 obtain ⟨w1,hw1⟩:∃w1,w.setRow b (splice cs.toList 0 (Value.map (some mb)).cells.toList).toArray=w1:=⟨_,rfl⟩
 have hother:∀c,c≠b→w1.heap[c]?=w.heap[c]?:=fun c hc=>by rw[←hw1];exact setRow_other w b c _ hc
 have hself:w1.heap[b]?=some (.cells (splice cs.toList 0 (Value.map (some mb)).cells.toList).toArray TT (0,0)):=by rw[←hw1];exact setRow_heap w b cs _ TT (0,0) e3
 have hsize:w1.heap.size=w.heap.size:=by rw[←hw1];exact Zf7 _ _ _
 rw[hw1] at hrun
 have hcell:w1.cell? ⟨b,0,none⟩=some (.map (some mb)):=by
  rw[cell_of_row w1 b 0 _ TT (0,0) hself]
  have:cs.toList.length=1:=by simpa using hcs
  match hl:cs.toList,this with
  |[u],_=>rfl
 have hmod:=(h.noCln true).mod (s:=q) (ks:=.mbx m) (xs:=.bool true) (l:=[]) (fps:=[]) (w1:=w1) (F1:=fun c=>F c∨c=b) (Cut.fn q .all) (by rw[ZA];exact htgt) (by rw[←hw1];rfl) (by rw[←hw1];rfl) (by rw[←hw1];rfl) (by rw[hsize];exact Nat.le_refl _)
  (fun c _ hc=>hother c fun e=>hc (e▸hbq)) (fun _ h=>.inl h) (fun c hc=>hc.elim .inl fun e=>.inr (.inr (e▸hbq))) (fun c hc=>by rw[hsize];exact hc.elim (h.fl c) fun e=>by rw[e];exact (h.pr q b hbq).1) List.nodup_nil (by simp) ⟨⟨b,e1,.inr rfl⟩,rfl⟩ (by simp)
  (fun _=>⟨b,e1,by rw[hcell,m1]⟩) rfl (fun k hk=>by rw[Cut.fn_dep hk];simp) (Zc5 κ) (fun k hk hc _=>by have:=Zax hk;simp[Cut.fn,this] at hc)
 have hev:a.eval (.tmp q)=.pointer (some ⟨b,0,none⟩):=e1
 have hev2:a.eval (.tmp m)=.map (some mb):=m1
 refine Zqt (Zf8 hop (w':=w1) (by rw[hev,hev2];exact hrun)) (hK (.bool true) undef w1 (fun c=>F c∨c=b) (fun t=>if t=q then [] else fp t) ?_ hdy)
 rw[hd]
 exact hmod
def Zkm {R:Type} (T:Tab) (t:TypeId) (a x:SV):Option (Eff R):=
 match Zkl T t a x with
 |some E=>some E
 |none=>Zhn T t a x
theorem ZoK (hT:TabOk P T) {t:TypeId} {x y:Operand} (hop:o.op=.store t x y) (hd:o.dst=none) (hE:Zkm T t (sv κ x) (sv κ y)=some E):Zat P o κ E:=by
 unfold Zkm at hE
 split at hE
 ·rename_i h;cases hE;exact ZoJ hT hop hd h
 ·exact Zho hT hop hd hE
def Zl0 {R:Type} (T:Tab) (d:Nat) (t:TypeId) (a:SV):Option (Eff R):=
 match a.k,a.pk,T.lookup t with
 |.mbx s,.mp _ _,some ti=>if s≠d∧ti.agg=false then some (Zp d (.ali (.slot s)) Zmb) else none
 |.mbx _,_,_=>none
 |_,_,_=>ZlZ T d t a
theorem Zql (hT:TabOk P T) {t:TypeId} {x:Operand} {d:Nat} (hop:o.op=.load t x) (hd:o.dst=some d) (hE:Zl0 T d t (sv κ x)=some E):Zat P o κ E:=by
 have hops:o.op.operands.toList=[x]:=by rw[hop];rfl
 unfold Zl0 at hE
 split at hE
 ·rename_i _ _ _ s kt et ti hk hpk hti
  split at hE
  case isFalse=>cases hE
  rename_i hc
  cases hE
  obtain ⟨ht⟩:=hT.ty hti
  refine Z9 hd rfl rfl fun w0 F0 X0 σ a w F fp kk r h htt hlv hdy=> ?_
  have hal:=h.al' x (Zg hlv (by rw[hops];exact .head _))
  rw[hk] at hal
  obtain ⟨b,e1,e2⟩:=hal
  have hrun:=ZjF (P:=P) ht hc.2 e2
  refine ⟨.bool true,tv a.tmps s,w,F,[],Zc6 hop (by rw[e1];exact hrun),hdy,Adds.refl w h.fl,List.nodup_nil,rfl,by simp,fun _=> ?_,fun q hq=>by simp[Zp,Kd.bdep] at hq⟩
  show tv (a.tmps.setIfInBounds d (tv a.tmps s)) s=tv a.tmps s
  rw[Zcl,if_neg (fun e=>hc.1 e.1)]
 ·cases hE
 ·exact Zqk hT hop hd hE
end
def Zjx :CK→CK→Bool
 |_,.none=>true
 |.nil,.own true _ _=>true
 |.nil,.val=>true
 |a,b=>a=b
def ZfC (a b:Kd):Bool:=
 match b with
 | .ck c=>match c with
  |.none=>true
  | c=>match a with
   |.ck a=>Zjx a c
   |_=>false
 | .box T' ks'=>match a with
  |.box T ks=>T=T'&&ks.length=ks'.length&&(List.zipWith Zjx ks ks').all id
  |_=>false
 |b=>a=b
section
variable {w :World} {F:Nat→Prop}
theorem Zqm {a b:CK} (h:Zjx a b=true) {x:PV} {v:Value} {l:List Nat} (hn:l.Nodup) (hc:CR w F a x v l):∃l',l'.Nodup∧(∀c∈l',c∈l)∧CR w F b x v l':=by
 by_cases e:a=b
 ·subst e;exact ⟨l,hn,fun _ h=>h,hc⟩
 ·refine ⟨[],List.nodup_nil,by simp, ?_⟩
  unfold Zjx at h
  split at h
  ·rfl
  ·obtain ⟨rfl,rfl,_⟩:=hc;exact ⟨[],rfl,.inl ⟨rfl,rfl,rfl⟩⟩
  ·exact ⟨(CR.vr hc (.inr rfl)).1,rfl⟩
  ·exact absurd (by simpa using h) e
theorem weakG {ks ks':List CK} {xs:List PV} {vs:List Value} {fps:List (List Nat)} (hl:ks.length=ks'.length) (h:(List.zipWith Zjx ks ks').all id=true) (hn:fps.flatten.Nodup) (hg:GrpR w F true ks xs vs fps):∃fps',fps'.flatten.Nodup∧(∀b∈fps'.flatten,b∈fps.flatten)∧GrpR w F true ks' xs vs fps':=by
 induction hg generalizing ks' with
 | nil=>
  cases ks' with
  |nil=>exact ⟨[],by simp,by simp,.nil⟩
  |cons _ _=>simp at hl
 | @cons k x v fp ks xs vs fps hc ho ht ih=>
  cases ks' with
  |nil=>simp at hl
  | cons k' ks'=>
   simp only[List.zipWith_cons_cons,List.all_cons,Bool.and_eq_true,id] at h
   simp only[List.flatten_cons] at hn
   obtain ⟨n1,n2,n3⟩:=List.nodup_append.1 hn
   obtain ⟨l',h1,h2,h3⟩:=Zqm h.1 n1 hc
   obtain ⟨fps',g1,g2,g3⟩:=ih (by simpa using hl) h.2 n2
   refine ⟨l'::fps', ?_,fun b hb=> ?_,.cons h3 ho g3⟩
   ·simp only[List.flatten_cons]
    exact List.nodup_append.2 ⟨h1,g1,fun a ha b hb=>n3 a (h2 a ha) b (g2 b hb)⟩
   ·simp only[List.flatten_cons,List.mem_append] at hb⊢
    rcases hb with hb|hb
    ·exact .inl (h2 b hb)
    ·exact .inr (g2 b hb)
theorem Zhi {a b:Kd} (h:ZfC a b=true) {x:PV} {v:Value} {l:List Nat} (hn:l.Nodup) (hs:SR w F a x v l):∃l',l'.Nodup∧(∀c∈l',c∈l)∧SR w F b x v l':=by
 unfold ZfC at h
 split at h
 ·split at h
  ·exact ⟨[],List.nodup_nil,by simp,rfl⟩
  ·split at h
   ·exact Zqm h hn hs
   ·cases h
 ·rename_i T' ks'
  split at h
  case h_2=>cases h
  rename_i T ks
  simp only[Bool.and_eq_true,decide_eq_true_eq] at h
  obtain ⟨⟨rfl,hl⟩,h⟩:=h
  obtain ⟨b,cs,xs,fps,e1,e2,e3,e4,rfl⟩:=hs
  obtain ⟨m1,m2⟩:=List.nodup_cons.1 hn
  obtain ⟨fps',g1,g2,g3⟩:=weakG hl h m2 e4
  exact ⟨b::fps'.flatten,List.nodup_cons.2 ⟨fun hc=>m1 (g2 b hc),g1⟩,fun c hc=>by
   rcases List.mem_cons.1 hc with rfl|hc
   ·simp
   ·exact List.mem_cons_of_mem _ (g2 c hc),b,cs,xs,fps',e1,e2,e3,g3,rfl⟩
 ·obtain rfl:=(by simpa using h:a=b)
  exact ⟨l,hn,fun _ h=>h,hs⟩
end
structure Ent where
 f:FuncId
 ps:List Kd
 rk:Kd
 sc:Bool
 spec:List PV→Option PV
def PV.sc1 :PV→Bool
 |.int _ _|.bool _|.str _=>true
 |_=>false
def PV.sc :PV→Bool
 |.tup l=>l.all PV.sc1
 |x=>x.sc1
inductive ArgsR (w:World) (F:Nat→Prop):List Kd→List PV→List Value→Prop
 |nil:ArgsR w F [] [] []
 |cons {k:Kd} {x:PV} {v:Value} {ks:List Kd} {xs:List PV} {vs:List Value} (h:SR w F k x v []) (hu:k=.ipt→x≠.undef) (ht:ArgsR w F ks xs vs):ArgsR w F (k::ks) (x::xs) (v::vs)
def fnV (g:FuncId):Value:=.func (.func g) #[] #[]
def ZvH (w:World) (F:Nat→Prop) (l0:List Nat) (T:TypeId) (ks:List CK) (rk:Kd) (v0:Value) (r y:PV) (en:Ending) (w':World):Prop:=
 ∃ (v:Value) (F':Nat→Prop) (l':List Nat),en=.returned v∧(w'.os=w.os∧w'.tape=w.tape∧w'.output=w.output∧w.heap.size≤w'.heap.size)∧(∀b,b<w.heap.size→b∉l0→w'.heap[b]?=w.heap[b]?)∧
  (∀b,F b→F' b)∧(∀b,F' b→F b∨w.heap.size≤b∨b∈l0)∧(∀b,F' b→b<w'.heap.size)∧l'.Nodup∧SR w' F' (.box T ks) y v0 l'∧(∀b∈l',(b∈l0∨w.heap.size≤b)∧b<w'.heap.size∧¬F' b)∧SR w' F' rk r v []
def ZvI (w:World) (F:Nat→Prop) (l0:List Nat) (rk:Kd) (r:PV) (en:Ending) (w':World):Prop:=
 ∃ (v:Value) (F':Nat→Prop) (l':List Nat),en=.returned v∧(w'.os=w.os∧w'.tape=w.tape∧w'.output=w.output∧w.heap.size≤w'.heap.size)∧(∀b,b<w.heap.size→b∉l0→w'.heap[b]?=w.heap[b]?)∧
  (∀b,F b→F' b)∧(∀b,F' b→F b∨w.heap.size≤b∨b∈l0)∧(∀b,F' b→b<w'.heap.size)∧l'.Nodup∧SR w' F' rk r v l'∧(∀b∈l',(b∈l0∨w.heap.size≤b)∧b<w'.heap.size∧¬F' b)
structure FnOk (P:Program) (e:Ent):Prop where
 body:∀(args:Array Value) (w:World),(callFunc e.f args).run P w=.ok (.enter e.f args) w
 dep:e.rk.dep=none
 call:∀(w:World) (F:Nat→Prop) (xs:List PV) (vs:List Value) (r:PV),FOk w F→ArgsR w F e.ps xs vs→e.spec xs=some r→
  Calls P e.f vs.toArray w fun en w'=>∃(v:Value) (F':Nat→Prop) (l:List Nat),en=.returned v∧Adds w F w' F'∧l.Nodup∧SR w' F' e.rk r v l∧(∀b∈l,w.heap.size≤b∧b<w'.heap.size∧¬F' b)∧(e.sc=true→∀G:Nat→Prop,SR w' G e.rk r v l)
 ipc:∀(t:TypeId) (sz:Nat) (fs:List FuncId),e.ps=.ck (.own true t sz)::fs.map Kd.clo→e.rk=.ck .none→∀(w:World) (F:Nat→Prop) (l r:List PV) (v:Value) (fp:List Nat),(∀b,F b→b<w.heap.size)→(∀b∈fp,¬F b)→(∀b∈fp,b<w.heap.size)→
  ZbV w F true t sz l v fp→e.spec [.lst l]=some (.lst r)→Calls P e.f (v::fs.map fnV).toArray w fun en w'=>∃u,en=.returned u∧w'.os=w.os∧w'.tape=w.tape∧w'.output=w.output∧w.heap.size≤w'.heap.size∧
   (∀b,b<w.heap.size→b∉fp→w'.heap[b]?=w.heap[b]?)∧ZbV w' F true t sz r v fp
 ipb:∀(T:TypeId) (ks:List CK) (rest:List Kd),e.ps=.box T ks::rest→∀(w:World) (F:Nat→Prop) (x0:PV) (v0:Value) (l0:List Nat) (xs:List PV) (vs:List Value) (r y:PV),FOk w F→l0.Nodup→(∀b∈l0,b<w.heap.size∧¬F b)→
  SR w F (.box T ks) x0 v0 l0→ArgsR w F rest xs vs→e.spec (x0::xs)=some (.tup [r,y])→Calls P e.f (v0::vs).toArray w (ZvH w F l0 T ks e.rk v0 r y)
 mvc:∀(t:TypeId) (sz:Nat) (rest:List Kd),e.ps=.ck (.own true t sz)::rest→e.rk≠.ck .none→∀(w:World) (F:Nat→Prop) (l:List PV) (v0:Value) (l0:List Nat) (xs:List PV) (vs:List Value) (r:PV),FOk w F→l0.Nodup→(∀b∈l0,b<w.heap.size∧¬F b)→
  ZbV w F true t sz l v0 l0→ArgsR w F rest xs vs→e.spec (.lst l::xs)=some r→Calls P e.f (v0::vs).toArray w (ZvI w F l0 e.rk r)
 ptc:e.rk=.ck .none→e.ps=[.bxf 0 0,.bxf 0 0]→∀(w:World) (p1 p2:Addr) (n1 n2 y1 y2:Int) (b1 b2:Bool),w.cell? p1=some (.int .u8 n1)→w.frozen? p1=false→w.cell? p2=some (.int .u8 n2)→w.frozen? p2=false→e.spec [.bool true,.int .u8 n1,.int .u8 n2]=some (.tup [.bool b1,.bool b2,.int .u8 y1,.int .u8 y2])→
  Calls P e.f #[.pointer (some p1),.pointer (some p2)] w fun en w'=>en=.returned (.tuple #[.bool b1,.bool b2])∧w'.os=w.os∧w'.tape=w.tape∧w'.output=w.output∧w'.heap=((w.setCell p1 (.int .u8 y1)).setCell p2 (.int .u8 y2)).heap
def ZdU (s:SV):Bool:=(ZbH s).isNone&&match s.boxAt with
 |some (_,ks,_)=>ks.all fun k=>k≠.none
 |none=>false
def ZI (sc:Bool) (k:Kd) (s:SV):Bool:=
 match k with
 |.ck .val=>s.isV||((ZbH s).isSome&&(Zcm s).isSome)
 |.ck .nil=>s.k=.ck .nil
 |.clo f=>s.k=.clo f||(sc&&s.k=.cln f)
 |.ipt=>s.k=.ipt||(sc&&ZdU s)
 |_=>false
def ZcR (sc:Bool):List Kd→List SV→Bool
 |[],[]=>true
 |k::ks,s::ss=>ZI sc k s&&ZcR sc ks ss
 |_,_=>false
def ZtA (s:SV) (d:DV):Option PV:=
 if s.isV then some d.v else if ZdU s then some (capV s d) else
 match s.k with
 |.clo _|.cln _|.ipt=>some d.v
 |_=>(Zi s d).map .lst
def Za1 :List SV→List DV→Option (List PV)
 |[],[]=>some []
 |s::ss,d::ds=>(ZtA s d).bind fun x=>(Za1 ss ds).bind fun xs=>some (x::xs)
 |_,_=>none
def Zfl :List SV→List Gh
 |[]=>[]
 | s::ss=>
  match ZbH s,Zcm s with
  |some (some (app,e,sz)),some (q,i)=>⟨q,i,true,app,e,sz⟩::Zfl ss
  |_,_=>Zfl ss
def ZvJ (s:SV) (svs:List SV):List Kd→Bool
 |.ck (.own true t sz)::rest=>(ZbH s==some (some (true,t,sz)))&&ZcR false rest svs&&svs.all fun x=>x.isV
 |_=>false
def Zjy {R:Type} (G:List Ent) (d:Nat) (f:FuncId):List SV→Option (Eff R)
 | s ::svs=>
  match G.find? (fun e=>e.f=f&&ZvJ s svs e.ps&&e.rk≠.ck .none) with
  |none=>none
  | some e=>match ZbH s,Zcm s with
   | some (some (app,t,sz)),some (q,i)=>some {gh:=[⟨q,i,false,app,t,sz⟩],tgt:=d,put:=true,k:=e.rk,cut:=.no,dyn:=fun ds kk=>match ds with
    |_::x::ds=>(Zi s x).bind fun l=>(Za1 svs ds).bind fun xs=>(e.spec (.lst l::xs)).bind kk
    |_=>none}
   |_,_=>none
 |[]=>none
def ZoL {R : Type} (G:List Ent) (d:Nat) (f:FuncId) (svs:List SV):Option (Eff R):=
 match G.find? (fun e=>e.f=f&&ZcR e.sc e.ps svs) with
 |none=>Zjy G d f svs
 | some e => some { gh:=if e.sc then [] else Zfl svs,tgt:=d,put:=true,k:=e.rk,cut:=.no,
                    dyn:=fun ds kk=>(Za1 svs ds.tail).bind fun xs=>(e.spec xs).bind kk}
def Zde (n:Nat) (c:PV):Option (List PV):=
 if c.parts.length=n∧(c.parts.all fun y=> !y.isU)=true then some c.parts else none
def ZrY {R : Type} (G :List Ent) (d:Nat) (c:SV) (svs:List SV):Option (Eff R):=
 match c.k with
 | .clo f =>
  match G.find? (fun e=>e.f=f&&ZcR e.sc (e.ps.take svs.length) svs&&(e.ps.drop svs.length).all (fun k=>k=.ipt)) with
  |none=>none
  | some e => some { gh:=if e.sc then [] else Zfl svs,tgt:=d,put:=true,k:=e.rk,cut:=.no,
                     dyn:=fun ds kk=>match ds with
                      |c::ds=>(Za1 svs ds).bind fun xs=>(Zde (e.ps.length - svs.length) c.v).bind fun cs=>(e.spec (xs++cs)).bind kk
                      |[]=>none}
 |_=>none
section
variable {R :Type} {P:Program} {T:Tab} {o:Oper} {κ κ1:List Kd} {E:Eff R}
variable {w0 :World} {F0:Nat→Prop} {X0:List Nat} {σ:List PV} {a:Act} {w:World} {F F1:Nat→Prop} {fp fp1:Nat→List Nat}
theorem VR.sc_any {x:PV} {v:Value} (h:VR w F x v) (hs:x.sc1=true) (w':World) (F':Nat→Prop):VR w' F' x v:=by
 cases h<;>first|(simp[PV.sc1] at hs;done)|constructor
theorem SR.sc_any {k:Kd} {x:PV} {v:Value} {l:List Nat} (h:SR w F k x v l) (hs:x.sc=true) (hd:k.dep=none) (F':Nat→Prop):SR w F' k x v l:=by
 cases k with
 | ck c=>
  cases c with
  |none=>exact h
  | val=>
   refine ⟨?_,h.2⟩
   have h1:=h.1
   cases x with
   |tup l=>cases h1
   |_=>exact h1.sc_any (by simpa[PV.sc] using hs) w F'
  |nil=>obtain ⟨rfl,_⟩:=h;simp[PV.sc,PV.sc1] at hs
  |own app e sz=>obtain ⟨l0,rfl,_⟩:=h;simp[PV.sc,PV.sc1] at hs
 |box T ks=>obtain ⟨b,cs,xs,fps,_,rfl,_⟩:=h;simp[PV.sc,PV.sc1] at hs
 | grp t ks=>
  obtain ⟨cs,xs,fps,h1,h2,h3,h4⟩:=h
  cases t
  ·simp only[Bool.false_eq_true,if_false] at h2;subst h2;simp[PV.sc,PV.sc1] at hs
  ·simp only[if_true] at h2
   subst h2
   simp only[PV.sc] at hs
   refine ⟨cs,xs,fps,h1,rfl, ?_,h4⟩
   have key:∀{ks:List CK} {xs:List PV} {vs:List Value} {fps:List (List Nat)},GrpR w F (!true) ks xs vs fps→xs.all PV.sc1=true→GrpR w F' (!true) ks xs vs fps:=by
    intro ks xs vs fps hg
    induction hg with
    |nil=>intro _;exact .nil
    | @cons k x v fp ks xs vs fps hc ho ht ih=>
     intro hs
     simp only[List.all_cons,Bool.and_eq_true] at hs
     refine .cons ?_ ho (ih hs.2)
     cases k with
     |none=>exact hc
     |val=>exact ⟨hc.1.sc_any hs.1 w F',hc.2⟩
     |nil=>obtain ⟨rfl,_⟩:=hc;simp[PV.sc1] at hs
     |own app e sz=>obtain ⟨l0,rfl,_⟩:=hc;simp[PV.sc1] at hs
   exact key h3 hs
 | tgr sh ks=>
  obtain ⟨cs,xs,fps,h1,h2,h0,h3,h4⟩:=h
  subst h2
  simp only[PV.sc] at hs
  refine ⟨cs,xs,fps,h1,rfl,h0, ?_,h4⟩
  have hfl:(Zdv xs).all PV.sc1=true:=by
   clear h0 h3
   induction xs with
   |nil=>rfl
   | cons x xs ih=>
    simp only[List.all_cons,Bool.and_eq_true] at hs
    simp only[Zdv,List.flatMap_cons,List.all_append,Bool.and_eq_true]
    refine ⟨?_,ih hs.2⟩
    have h1:=hs.1
    cases x<;>simp[PV.sc1] at h1<;>simp[PV.cells,PV.sc1]
  have key:∀{ks:List CK} {xs:List PV} {vs:List Value} {fps:List (List Nat)},GrpR w F true ks xs vs fps→xs.all PV.sc1=true→GrpR w F' true ks xs vs fps:=by
   intro ks xs vs fps hg
   induction hg with
   |nil=>intro _;exact .nil
   | @cons k x v fp ks xs vs fps hc ho ht ih=>
    intro hs
    simp only[List.all_cons,Bool.and_eq_true] at hs
    refine .cons ?_ ho (ih hs.2)
    cases k with
    |none=>exact hc
    |val=>exact ⟨hc.1.sc_any hs.1 w F',hc.2⟩
    |nil=>obtain ⟨rfl,_⟩:=hc;simp[PV.sc1] at hs
    |own app e sz=>obtain ⟨l0,rfl,_⟩:=hc;simp[PV.sc1] at hs
  exact key h3 hfl
 |ipt=>exact ⟨fun hx=>by obtain ⟨_,_,_,_,rfl,_⟩:=h.1 hx;simp[PV.sc,PV.sc1] at hs,h.2⟩
 |tip=>obtain ⟨⟨_,_,_,_,_,rfl,_⟩,_⟩:=h;simp[PV.sc,PV.sc1] at hs
 |mp kt et=>obtain ⟨b,clock,es,l,h1,rfl,_⟩:=h;simp[PV.sc,PV.sc1] at hs
 |mbx s=>exact absurd hd (by simp[Kd.dep])
 |cln f=>exact h
 | clo f=>obtain ⟨_,_,_,rfl,_,h4,h5⟩:=h;simp only[PV.sc] at hs;exact ⟨_,_,‹_›,rfl,‹_›,fun i y hy=>by
  obtain ⟨_,_,_,_,rfl,_⟩:=h4 i y hy
  have:=List.all_eq_true.1 hs _ (List.mem_of_getElem? hy)
  simp[PV.sc1] at this,h5⟩
 |ali p=>exact h
 |elm p sz off=>exact h
 |bxf q off=>exact h
def CK.scv :CK→PV→Bool
 |.own _ _ _,.lst l=>l.all fun x=>x.cells.all PV.sc1
 |.val,x=>x.sc1
 |_,_=>false
def scvs :List CK→List PV→Bool
 |[],[]=>true
 |k::ks,x::xs=>k.scv x&&scvs ks xs
 |_,_=>false
def Kd.scv :Kd→PV→Bool
 |.ck c,x=>c.scv x
 |.grp true ks,.tup l=>scvs ks l
 |_,_=>false
theorem VR.scc {x:PV} {v:Value} (h:VR w F x v) (hs:x.cells.all PV.sc1=true) (w':World) (F':Nat→Prop):VR w' F' x v:=by
 by_cases ha:∃l,x=.agg l
 ·obtain ⟨l,rfl⟩:=ha
  cases h with
  |agg l cs h1 h2 h3=>exact .agg l cs h1 h2 fun i x hx=>(h3 i x hx).sc_any (List.all_eq_true.1 hs x (List.mem_of_getElem? hx)) w' F'
 ·refine h.sc_any ?_ w' F'
  cases x<;>first|exact absurd ⟨_,rfl⟩ ha|simpa[PV.cells] using hs
theorem CR.scv {c:CK} {x:PV} {v:Value} {l:List Nat} (h:CR w F c x v l) (hs:c.scv x=true) (F':Nat→Prop):CR w F' c x v l:=by
 cases c with
 |none=>exact h
 |nil=>exact h
 |val=>exact ⟨h.1.sc_any hs w F',h.2⟩
 | own app e sz=>
  obtain ⟨l0,rfl,hr⟩:=h
  refine ⟨l0,rfl, ?_⟩
  rcases hr with hr|⟨g,cap,cur,fr,h1,h2,h3,h4,h5,h6,h7,h8,h9⟩
  ·exact .inl hr
  ·refine .inr ⟨g,cap,cur,fr,h1,h2,h3,h4,h5,h6,h7,h8,fun i x hx=> ?_⟩
   obtain ⟨k1,k2,u,k3,k4⟩:=h9 i x hx
   exact ⟨k1,k2,u,k3.scc (List.all_eq_true.1 hs x (List.mem_of_getElem? hx)) w F',k4⟩
theorem SR.scv {k:Kd} {x:PV} {v:Value} {l:List Nat} (h:SR w F k x v l) (hs:k.scv x=true) (F':Nat→Prop):SR w F' k x v l:=by
 cases k with
 |ck c=>exact CR.scv h hs F'
 | grp t ks=>
  obtain ⟨cs,xs,fps,h1,h2,h3,h4⟩:=h
  cases t
  ·simp[Kd.scv] at hs
  ·simp only[if_true] at h2
   subst h2
   refine ⟨cs,xs,fps,h1,rfl, ?_,h4⟩
   have hs:scvs ks xs=true:=hs
   have key:∀{ks:List CK} {xs:List PV} {vs:List Value} {fps:List (List Nat)},GrpR w F (!true) ks xs vs fps→scvs ks xs=true→GrpR w F' (!true) ks xs vs fps:=by
    intro ks xs vs fps hg
    induction hg with
    |nil=>intro _;exact .nil
    | @cons k x v fp ks xs vs fps hc ho ht ih=>
     intro hs
     simp only[scvs,Bool.and_eq_true] at hs
     exact .cons (hc.scv hs.1 F') ho (ih hs.2)
   exact key h3 hs
 |_=>simp[Kd.scv] at hs
theorem SR.add {k:Kd} {x:PV} {v:Value} {l:List Nat} (h:SR w F k x v l) (hF:∀b,F b→F1 b):SR w F1 k x v l:=h.keep ⟨hF,fun _ _=>rfl⟩ fun _ _=>rfl
theorem Zn5 {s:SV} (h:ZdU s=true):¬s.isV=true:=by
 intro hv
 unfold ZdU SV.boxAt at h
 unfold SV.isV at hv
 split at hv
 ·rename_i hk;simp[hk] at h
 ·rename_i hk;simp[hk] at h
 ·cases hv
theorem Zun {s:SV} (h:ZdU s=true):¬(ZbH s).isSome=true:=by
 unfold ZdU at h
 cases hr:ZbH s<;>simp_all
theorem Zuo {s:SV} (h:ZdU s=true):capK s=true:=by
 unfold ZdU at h
 unfold capK
 simp only[Bool.and_eq_true] at h
 have h:=h.2
 cases hb:s.boxAt with
 |none=>rw[hb] at h;cases h
 |some p=>obtain ⟨q,ks,off⟩:=p;rw[hb] at h;exact h
theorem ZvL {s:SV} (h:ZdU s=true) (d:DV):capV s d≠.undef:=by
 unfold ZdU at h
 unfold capV
 simp only[Bool.and_eq_true] at h
 have h:=h.2
 cases hb:s.boxAt with
 |none=>rw[hb] at h;cases h
 | some p=>
  obtain ⟨q,ks,off⟩:=p
  show PV.agg _≠PV.undef
  intro hc
  cases hc
theorem Zeq {sc : Bool} (h:St w0 F0 X0 κ σ a.tmps w F fp):∀(ks:List Kd) (args:List Operand) (xs:List PV),(∀x∈args,Zcv κ σ x)→ZcR sc ks (args.map (sv κ))=true→Za1 (args.map (sv κ)) (args.map (dv κ σ))=some xs→
 ∀ (F1:Nat→Prop),(∀b,F b→F1 b)→(sc=true→∀b,b<w.heap.size→F1 b)→(∀x∈args,∀(app:Bool) (e:TypeId) (sz q:Nat) (i:Option Nat) (l:List PV) (lb:List Nat),ZbH (sv κ x)=some (some (app,e,sz))→Zcm (sv κ x)=some (q,i)→ZbV w F app e sz l (a.eval x) lb→(∀b∈lb,b∈fp q)→∀b∈lb,F1 b)→
  ArgsR w F1 ks xs (args.map a.eval)
 | [],[],xs,_,_,hx,F1,_,_,_=>by
  simp[Za1] at hx
  subst hx
  exact .nil
 | k :: ks, x :: args,xs,hl,hf,hx,F1,hF,hsc,hrow=>by
  simp only[List.map_cons,ZcR,Bool.and_eq_true] at hf
  simp only[List.map_cons,Za1] at hx
  obtain ⟨y,hy,hx⟩:=Option.bind_eq_some_iff.1 hx
  obtain ⟨ys,hys,hx⟩:=Option.bind_eq_some_iff.1 hx
  cases hx
  have ih:=Zeq h ks args ys (fun z hz=>hl z (List.mem_cons_of_mem _ hz)) hf.2 hys F1 hF hsc (fun z hz=>hrow z (List.mem_cons_of_mem _ hz))
  have hlx:=hl x List.mem_cons_self
  simp only[List.map_cons]
  refine .cons ?_ ?_ ih
  ·unfold ZtA at hy
   split at hy
   ·rename_i hv
    cases hy
    have hvr:=rdS h hv
    cases k with
    | ck c=>
     cases c with
     |val=>exact ⟨hvr.keep ⟨hF,fun _ _=>rfl⟩,rfl⟩
     | nil=>
      have hk:(sv κ x).k=.ck .nil:=by simpa[ZI] using hf.1
      obtain ⟨l,_,hsr⟩:=h.at' x (by rw[hk];simp)
      rw[hk] at hsr
      obtain ⟨g1,g2,g3⟩:=hsr
      exact SR.add (k:=.ck .nil) ⟨g1,g2,rfl⟩ hF
     |_=>simp[ZI] at hf
    | clo f => exfalso
               have hk:(sv κ x).k=.clo f∨(sc=true∧(sv κ x).k=.cln f):=by simpa[ZI] using hf.1
               rcases hk with hk|⟨_,hk⟩<;>simp[SV.isV,hk] at hv
    | ipt => have hk:(sv κ x).k=.ipt∨(sc=true∧ZdU (sv κ x)=true):=by simpa[ZI] using hf.1
             rcases hk with hk|⟨_,hb⟩
             ·simp[SV.isV,hk] at hv
             ·exact absurd hv (Zn5 hb)
    |_=>simp[ZI] at hf
   ·rename_i hv
    split at hy
    ·rename_i hb
     cases hy
     cases k with
     | ck c=>
      cases c with
      | val=>
       have h1:(sv κ x).isV=true∨((ZbH (sv κ x)).isSome=true∧(Zcm (sv κ x)).isSome=true):=by simpa[ZI] using hf.1
       rcases h1 with h1|h1
       ·exact absurd h1 hv
       ·exact absurd h1.1 (Zun hb)
      | nil=>
       have hk':(sv κ x).k=.ck .nil:=by simpa[ZI] using hf.1
       exact absurd (by simp[SV.isV,hk']) hv
      |_=>simp[ZI] at hf
     | clo f => have hk:(sv κ x).k=.clo f∨(sc=true∧(sv κ x).k=.cln f):=by simpa[ZI] using hf.1
                rcases hk with hk|⟨_,hk⟩<;>simp[ZdU,SV.boxAt,hk] at hb
     | ipt=>
      have hk:(sv κ x).k=.ipt∨(sc=true∧ZdU (sv κ x)=true):=by simpa[ZI] using hf.1
      rcases hk with hk|⟨hs,_⟩
      ·simp[ZdU,SV.boxAt,hk] at hb
      ·exact ⟨fun _=>(Ztv h hlx (Zuo hb)).keep ⟨fun b hb=>hsc hs b hb,fun _ _=>rfl⟩,rfl⟩
     |_=>simp[ZI] at hf
    rename_i hb
    split at hy
    ·rename_i f hk
     cases hy
     cases k with
     | clo f'=>
      have hk':(sv κ x).k=.clo f':=by
       have:(sv κ x).k=.clo f'∨(sc=true∧(sv κ x).k=.cln f'):=by simpa[ZI] using hf.1
       rcases this with h1|⟨_,h1⟩
       ·exact h1
       ·rw[hk] at h1;cases h1
      obtain ⟨l,_,hsr⟩:=h.at' x (by rw[hk'];simp)
      rw[hk'] at hsr
      have:=hsr
      obtain ⟨_,_,_,_,_,_,h6⟩:=this
      subst h6
      exact hsr.add hF
     | ck c=>
      cases c with
      |val=>simp[ZI,SV.isV,hk,ZbH] at hf
      | nil=>
       have hk':(sv κ x).k=.ck .nil:=by simpa[ZI] using hf.1
       exact absurd (by simp[SV.isV,hk']) hv
      |_=>simp[ZI] at hf
     | ipt => have hk':(sv κ x).k=.ipt:=by simpa[ZI,hb] using hf.1
              rw[hk] at hk';cases hk'
     |_=>simp[ZI] at hf
    ·rename_i f hk
     cases hy
     cases k with
     | clo f'=>
      have hk':sc=true∧f'=f:=by
       have:(sv κ x).k=.clo f'∨(sc=true∧(sv κ x).k=.cln f'):=by simpa[ZI] using hf.1
       rw[hk] at this
       rcases this with h1|⟨h1,h2⟩
       ·cases h1
       ·cases h2;exact ⟨h1,rfl⟩
      obtain ⟨hs,rfl⟩:=hk'
      have hal:=h.al' x hlx
      rw[hk] at hal
      obtain ⟨caps,cx,e1,e2,e3,e4⟩:=hal
      exact ⟨caps,cx,e1,e2,e3,fun i y hy=>(e4 i y hy).keep ⟨fun b hb=>hsc hs b hb,fun _ _=>rfl⟩,rfl⟩
     | ck c=>
      cases c with
      |val=>simp[ZI,SV.isV,hk,ZbH] at hf
      | nil=>
       have hk':(sv κ x).k=.ck .nil:=by simpa[ZI] using hf.1
       exact absurd (by simp[SV.isV,hk']) hv
      |_=>simp[ZI] at hf
     | ipt => have hk':(sv κ x).k=.ipt:=by simpa[ZI,hb] using hf.1
              rw[hk] at hk';cases hk'
     |_=>simp[ZI] at hf
    ·rename_i hk
     cases hy
     cases k with
     | ipt=>
      obtain ⟨l,_,hsr⟩:=h.at' x (by rw[hk];simp)
      rw[hk] at hsr
      have h6:=hsr.2
      subst h6
      exact SR.add hsr hF
     | ck c=>
      cases c with
      |val=>simp[ZI,SV.isV,hk,ZbH] at hf
      | nil=>
       have hk':(sv κ x).k=.ck .nil:=by simpa[ZI] using hf.1
       exact absurd (by simp[SV.isV,hk']) hv
      |_=>simp[ZI] at hf
     | clo f' => have hk':(sv κ x).k=.clo f'∨(sc=true∧(sv κ x).k=.cln f'):=by simpa[ZI] using hf.1
                 rw[hk] at hk';rcases hk' with hk'|⟨_,hk'⟩<;>cases hk'
     |_=>simp[ZI] at hf
    ·rename_i hn1 hn3 hn2
     obtain ⟨l,hl',rfl⟩:=Option.map_eq_some_iff.1 hy
     cases k with
     | ck c=>
      cases c with
      | val=>
       have hK:∃app e sz,ZbH (sv κ x)=some (some (app,e,sz)):=by
        have h1:(sv κ x).isV=true∨((ZbH (sv κ x)).isSome=true∧(Zcm (sv κ x)).isSome=true):=by simpa[ZI] using hf.1
        rcases h1 with h1|h1
        ·exact absurd h1 hv
        ·obtain ⟨kk,hkk⟩:=Option.isSome_iff_exists.1 h1.1
         cases kk with
         | none=>
          unfold ZbH at hkk
          rw[if_neg hv] at hkk
          split at hkk
          ·cases hkk
          ·split at hkk<;>cases hkk
          ·split at hkk<;>cases hkk
          ·cases hkk
         |some p=>exact ⟨p.1,p.2.1,p.2.2,hkk⟩
       obtain ⟨app,e,sz,hK⟩:=hK
       obtain ⟨q,i,lb,r1,r2,r3,r4⟩:=Zd8 h hlx (l:=l) hl' hK
       exact ⟨r2.vr (hrow x List.mem_cons_self app e sz q i l lb hK r1 r2 r4) hF,rfl⟩
      | nil=>
       have hk':(sv κ x).k=.ck .nil:=by simpa[ZI] using hf.1
       exact absurd (by simp[SV.isV,hk']) hv
      |_=>simp[ZI] at hf
     | clo f => have hk':(sv κ x).k=.clo f∨(sc=true∧(sv κ x).k=.cln f):=by simpa[ZI] using hf.1
                rcases hk' with hk'|⟨_,hk'⟩
                ·exact absurd hk' (hn1 f)
                ·exact absurd hk' (hn3 f)
     | ipt => have hk':(sv κ x).k=.ipt:=by simpa[ZI,hb] using hf.1
              exact absurd hk' hn2
     |_=>simp[ZI] at hf
  ·rintro rfl
   have hk:(sv κ x).k=.ipt∨(sc=true∧ZdU (sv κ x)=true):=by simpa[ZI] using hf.1
   rcases hk with hk|⟨_,hb⟩
   case inr=>
    unfold ZtA at hy
    rw[if_neg (Zn5 hb),if_pos hb] at hy
    cases hy
    exact ZvL hb _
   have hb:¬ZdU (sv κ x)=true:=by simp[ZdU,SV.boxAt,hk]
   have hd:=hlx (by show (kOp κ x).hangs=true;rw[show kOp κ x=.ipt from hk];rfl)
   unfold ZtA at hy
   split at hy
   ·cases hy;exact hd
   ·split at hy
    ·cases hy;exact hd
    ·cases hy;exact hd
    ·cases hy;exact hd
    ·rename_i hn1 hn3 hn2;exact absurd hk hn2
 |[],_::_,xs,_,hf,_,_,_,_,_=>by simp[ZcR] at hf
 |_::_,[],xs,_,hf,_,_,_,_,_=>by simp[ZcR] at hf
theorem ZiI {x:Operand} {app:Bool} {e:TypeId} {sz q:Nat} {i:Option Nat}:∀(args:List Operand),x∈args→ZbH (sv κ x)=some (some (app,e,sz))→Zcm (sv κ x)=some (q,i)→(⟨q,i,true,app,e,sz⟩:Gh)∈Zfl (args.map (sv κ))
 | y::ys,hx,h1,h2=>by
  simp only[List.map_cons,Zfl]
  rcases List.mem_cons.1 hx with rfl|hx
  ·rw[h1,h2];exact List.mem_cons_self
  ·have ih:=ZiI ys hx h1 h2
   split
   ·exact List.mem_cons_of_mem _ ih
   ·exact ih
theorem Zn6 {e:Ent} (he:FnOk P e) {d:Nat} (hd:o.dst=some d) {args:List Operand} {dyn:List DV→(PV→Option R)→Option R}
 (H:∀(w0:World) (F0:Nat→Prop) (X0:List Nat) (σ:List PV) (a:Act) (w:World) (F:Nat→Prop) (fp:Nat→List Nat) (kk:PV→Option R) (r:R),St w0 F0 X0 κ σ a.tmps w F fp→Zaz κ σ o.op.operands.toList=true→dyn (o.op.operands.toList.map (dv κ σ)) kk=some r→
  ∃(xs capx:List PV) (cap:List Value) (z:PV) (ks kc:List Kd),(execOp a.eval o).run P w=.ok (.enter e.f (args.map a.eval++cap).toArray) w∧e.ps=ks++kc∧ZcR e.sc ks (args.map (sv κ))=true∧Za1 (args.map (sv κ)) (args.map (dv κ σ))=some xs∧(∀x∈args,Zcv κ σ x)∧(∀F1,(∀b,F b→F1 b)→ArgsR w F1 kc capx cap)∧e.spec (xs++capx)=some z∧kk z=some r):
 Zat P o κ ({gh:=if e.sc then [] else Zfl (args.map (sv κ)),tgt:=d,put:=true,k:=e.rk,cut:=.no,dyn:=dyn}:Eff R):=by
 intro w0 F0 X0 κ' σ a w F fp kk r K Q h hκ hlv hdy hK
 obtain ⟨gl,hgl⟩:∃gl,(if e.sc then [] else Zfl (args.map (sv κ)))=gl:=⟨_,rfl⟩
 unfold Eff.κ at hκ
 simp only[hgl,if_true] at hκ
 split at hκ
 case isFalse=>cases hκ
 rename_i htgt
 obtain ⟨κ1,h1,h2⟩:=Option.map_eq_some_iff.1 hκ
 subst h2
 obtain ⟨F1,fp1,hst,hF,hfp,hall⟩:=Zex _ κ κ1 F fp h h1
 obtain ⟨xs,capx,cap,z,ks,kc,hrun,hps,hfit,hxs,hlive,hcap,hsp,hkk⟩:=H w0 F0 X0 σ a w F fp kk r h hlv hdy
 have hlen:κ1.length=κ.length:=by rw[hst.lk,h.lk]
 have app:∀{k1 k2:List Kd} {x1 x2:List PV} {v1 v2:List Value} {G:Nat→Prop},ArgsR w G k1 x1 v1→ArgsR w G k2 x2 v2→ArgsR w G (k1++k2) (x1++x2) (v1++v2):=by
  intro k1 k2 x1 x2 v1 v2 G g1 g2
  induction g1 with
  |nil=>exact g2
  |cons h hu ht ih=>exact .cons h hu ih
 unfold Oper.wp
 rw[hrun]
 have fin:∀(G:Nat→Prop),(∀b,F1 b→G b)→(∀b,G b→b<w.heap.size)→ArgsR w G e.ps (xs++capx) (args.map a.eval++cap)→(e.sc=true∨∀b,G b→F1 b)→
  Oper.upon P o a K Q (.ok (.enter e.f (args.map a.eval++cap).toArray) w):=by
  intro G hG hGl hargs hsc
  rw[Oper.upon_enter]
  refine (he.call w G _ _ z ⟨hGl,hst.gk.mono hG⟩ hargs hsp).mono fun en w' hpost=> ?_
  obtain ⟨v,F',l,rfl,hA,hnd,hsr,hl,hscr⟩:=hpost
  rcases hsc with hsc|hsc
  ·
   have hsr':=hscr hsc F1
   have:=(hst.noCln (mdB true gl)).putA (d:=d) (k:=e.rk) (x:=z) (v:=v) (l:=l) (w1:=w') (F1:=F1) (by rw[ZA,hlen];exact htgt)
    ⟨hA.os,hA.tape,hA.output,hA.size,hA.block,fun _ h=>h,fun _ h=>.inl h,fun b hb=>Nat.lt_of_lt_of_le (hst.fl b hb) hA.size⟩ hnd hsr' (fun b hb=>⟨(hl b hb).1,(hl b hb).2.1,fun hc=>by have:=hst.fl b hc;have:=(hl b hb).1;omega⟩) (fun _=>Zdf he.dep _ _) (fun q hq=>by have hq':=Zax hq;rw[he.dep] at hq';cases hq')
   refine hK z v w' F1 (fun s=>if s=d then l else fp1 s) ?_ hkk
   rw[hd]
   exact this
  ·have hA':Adds w F1 w' F':=⟨hA.os,hA.tape,hA.output,hA.size,hA.block,fun b hb=>hA.sub b (hG b hb),fun b hb=>by rcases hA.new b hb with h|h;exact .inl (hsc b h);exact .inr h,hA.lt⟩
   have:=(hst.noCln (mdB true gl)).putA (d:=d) (k:=e.rk) (x:=z) (v:=v) (l:=l) (w1:=w') (F1:=F') (by rw[ZA,hlen];exact htgt) hA' hnd hsr hl (fun _=>Zdf he.dep _ _) (fun q hq=>by have hq':=Zax hq;rw[he.dep] at hq';cases hq')
   refine hK z v w' F' (fun s=>if s=d then l else fp1 s) ?_ hkk
   rw[hd]
   exact this
 cases hsc:e.sc
 ·rw[hsc] at hgl
  simp only[Bool.false_eq_true,if_false] at hgl
  subst hgl
  refine fin F1 (fun _ h=>h) hst.fl ?_ (.inr fun _ h=>h)
  rw[hps]
  refine app (Zeq h ks args xs hlive hfit hxs F1 hF (fun hc=>by rw[hsc] at hc;cases hc) fun x hx app e' sz q i l lb g1 g2 g3 g4 b hb=> ?_) (hcap F1 hF)
  obtain ⟨y',v0,l',lb',m1,m2,m3,m4,m5⟩:=hall _ (ZiI args hx g1 g2)
  simp only[if_true] at m5
  have hv0:=ZhU h (hlive x hx) g2 m1
  subst hv0
  have hlb:=g3.lb_eq m3
  subst hlb
  exact m5.2 b hb
 ·refine fin (fun b=>b<w.heap.size) hst.fl (fun b hb=>hb) ?_ (.inl hsc)
  rw[hps]
  refine app (Zeq h ks args xs hlive hfit hxs _ (fun b hb=>h.fl b hb) (fun _ b hb=>hb) fun x hx app e' sz q i l lb g1 g2 g3 g4 b hb=>(h.pr q b (g4 b hb)).1) (hcap _ fun b hb=>h.fl b hb)
theorem ZfD {c:Call} (hop:o.op=.call c) {f:FuncId} {ρ:Operand→Value} {w:World} {cap:Array Value} (hc:∃x,c.callee=.value x∧ρ x=.func (.func f) #[] cap):(execOp ρ o).run P w=(callFunc f (c.args.map ρ++cap)).run P w:=by
 obtain ⟨x,h1,h2⟩:=hc
 obtain ⟨cal,cargs,cts⟩:=c
 simp only at h1
 subst h1
 simp[execOp,hop,resolve,h2,Deferred.ofValue,invoke]
theorem Zqn {G:List Ent} (hG:∀e∈G,FnOk P e) {f:FuncId} {args:Array Operand} {ts:Array TypeId} {d:Nat} (hop:o.op=.call {callee:=.value (.func f),args:=args,argTypes:=ts}) (hd:o.dst=some d)
 (hE:Zjy G d f (args.toList.map (sv κ))=some E):Zat P o κ E:=by
 have hops:o.op.operands.toList=.func f::args.toList:=by rw[hop];simp[Op.operands,Call.operands]
 obtain ⟨al,hal⟩:∃al,args.toList=al:=⟨_,rfl⟩
 rw[hal] at hE hops
 cases al with
 |nil=>simp[Zjy] at hE
 |cons x rest=>
 simp only[List.map_cons,Zjy] at hE
 split at hE
 ·cases hE
 rename_i e hf
 have hm:=List.mem_of_find?_eq_some hf
 have hp:=List.find?_some hf
 simp only[Bool.and_eq_true,decide_eq_true_eq,ne_eq] at hp
 obtain ⟨⟨rfl,hfit⟩,hrk⟩:=hp
 unfold ZvJ at hfit
 split at hfit
 case h_2=>cases hfit
 rename_i t sz ps hps
 simp only[Bool.and_eq_true,beq_iff_eq,List.all_eq_true] at hfit
 obtain ⟨⟨hK,hfit⟩,hisv⟩:=hfit
 rw[hK] at hE
 split at hE
 case h_2=>cases hE
 rename_i app t' sz' q i e1 hA
 simp only[Option.some.injEq,Prod.mk.injEq] at e1
 obtain ⟨rfl,rfl,rfl⟩:=e1
 cases hE
 intro w0 F0 X0 κ' σ a w F fp kk r K Q h hκ hlv hdy hK'
 rw[hops] at hdy hlv
 simp only[List.map_cons] at hdy
 obtain ⟨l,hl,hdy⟩:=Option.bind_eq_some_iff.1 hdy
 obtain ⟨xs,hxs,hdy⟩:=Option.bind_eq_some_iff.1 hdy
 obtain ⟨z,hz,hkk⟩:=Option.bind_eq_some_iff.1 hdy
 have hlx:Zcv κ σ x:=Zg hlv (by simp)
 unfold Eff.κ at hκ
 simp only[if_true] at hκ
 split at hκ
 case isFalse=>cases hκ
 rename_i htgt
 obtain ⟨κ1,h1,h2⟩:=Option.map_eq_some_iff.1 hκ
 subst h2
 obtain ⟨F1,fp1,hst,hF,hfp,hall⟩:=Zex _ κ κ1 F fp h h1
 have hlen:κ1.length=κ.length:=by rw[hst.lk,h.lk]
 obtain ⟨q2,i2,lb,r1,r2,r3,r4⟩:=Zd8 h hlx (l:=l) hl hK
 rw[hA] at r1
 cases r1
 obtain ⟨y',v0,l',lb',m1,m2,m3,m4,m5⟩:=hall _ (List.mem_singleton.2 rfl)
 simp only[Bool.false_eq_true,if_false] at m5
 have hv0:=ZhU h hlx hA m1
 subst hv0
 have hlb:=r2.lb_eq m3
 subst hlb
 have hstF:Stays w F w F1:=⟨hF,fun _ _=>rfl⟩
 have hargsR:=Zeq (sc:=false) h ps rest xs (fun y hy=>Zg hlv (List.mem_cons_of_mem _ (List.mem_cons_of_mem _ hy))) hfit hxs F1 hF (fun hc=>by cases hc)
  (fun y hy app e' sz q' i l lb g1 _ _ _=>by
   have:=hisv (sv κ y) (List.mem_map.2 ⟨y,hy,rfl⟩)
   unfold ZbH at g1
   rw[if_pos this] at g1
   cases g1)
 have run:(execOp a.eval o).run P w=.ok (.enter e.f (a.eval x::rest.map a.eval).toArray) w:=by
  rw[ZfD hop (f:=e.f) (cap:= #[]) ⟨.func e.f,rfl,rfl⟩]
  have:=(hG e hm).body (a.eval x::rest.map a.eval).toArray w
  obtain ⟨al⟩:=args
  simp only at hal
  subst hal
  simpa using this
 unfold Oper.wp
 rw[run,Oper.upon_enter]
 refine ((hG e hm).mvc t sz ps hps hrk w F1 l (a.eval x) lb xs (rest.map a.eval) z ⟨hst.fl,hst.gk⟩ r3 (fun b hb=>⟨(hst.pr _ b (m5 b hb)).1,(hst.pr _ b (m5 b hb)).2.1⟩) (r2.keep hstF fun _ _=>rfl) hargsR hz).mono fun en w' hpost=> ?_
 obtain ⟨v,F',l',rfl,e2,e3,e4,e5,e6,e7,e8,e9⟩:=hpost
 have:=(hst.noCln true).put (d:=d) (k:=e.rk) (x:=z) (v:=v) (l:=l') (fpd:=l') (w1:=w') (F1:=F') (by rw[ZA,hlen];exact htgt) e2.1 e2.2.1 e2.2.2.1 e2.2.2.2 (fun b hb hn=>e3 b hb fun hc=>hn (m5 b hc)) e4
  (fun b hb=>by rcases e5 b hb with h|h|h;exact .inl h;exact .inr (.inl h);exact .inr (.inr (m5 b h))) e6 e7 (fun _ h=>h) e8 (fun b hb=>⟨by rcases (e9 b hb).1 with h|h;exact .inr (m5 b h);exact .inl h,(e9 b hb).2⟩) (fun _=>Zdf (hG e hm).dep _ _) (fun q hq=>by have hq':=Zax hq;rw[(hG e hm).dep] at hq';cases hq')
  (fun s hc=>by rw[Zc5] at hc;cases hc)
 refine hK' z v w' F' (fun s=>if s=d then l' else fp1 s) ?_ hkk
 rw[hd]
 exact this
theorem ZrZ {G:List Ent} (hG:∀e∈G,FnOk P e) {f:FuncId} {args:Array Operand} {ts:Array TypeId} {d:Nat} (hop:o.op=.call {callee:=.value (.func f),args:=args,argTypes:=ts}) (hd:o.dst=some d)
 (hE:ZoL G d f (args.toList.map (sv κ))=some E):Zat P o κ E:=by
 have hops:o.op.operands.toList=.func f::args.toList:=by rw[hop];simp[Op.operands,Call.operands]
 unfold ZoL at hE
 split at hE
 case h_1=>exact Zqn hG hop hd hE
 rename_i e hf
 cases hE
 have hm:=List.mem_of_find?_eq_some hf
 have hp:=List.find?_some hf
 simp only[Bool.and_eq_true,decide_eq_true_eq] at hp
 obtain ⟨rfl,hfit⟩:=hp
 refine Zn6 (hG e hm) hd fun w0 F0 X0 σ a w F fp kk r h hlv hdy=> ?_
 rw[hops] at hdy
 simp only[List.map_cons,List.tail_cons] at hdy
 obtain ⟨xs,hxs,hdy⟩:=Option.bind_eq_some_iff.1 hdy
 obtain ⟨z,hz,hkk⟩:=Option.bind_eq_some_iff.1 hdy
 refine ⟨xs,[],[],z,e.ps,[], ?_,by simp,hfit,hxs,fun x hx=>Zg hlv (by rw[hops];exact List.mem_cons_of_mem _ hx),fun _ _=>.nil,by simpa using hz,hkk⟩
 rw[ZfD hop (f:=e.f) (cap:= #[]) ⟨.func e.f,rfl,rfl⟩]
 have:=(hG e hm).body (args.map a.eval) w
 simp only[Array.append_empty] at this⊢
 rw[this]
 congr 2
 apply Array.ext'
 simp
theorem Zup {G:List Ent} (hG:∀e∈G,FnOk P e) {c:Operand} {args:Array Operand} {ts:Array TypeId} {d:Nat} (hop:o.op=.call {callee:=.value c,args:=args,argTypes:=ts}) (hd:o.dst=some d)
 (hE:ZrY G d (sv κ c) (args.toList.map (sv κ))=some E):Zat P o κ E:=by
 have hops:o.op.operands.toList=c::args.toList:=by rw[hop];simp[Op.operands,Call.operands]
 unfold ZrY at hE
 split at hE
 case h_2=>cases hE
 rename_i f hk
 split at hE
 case h_1=>cases hE
 rename_i e hf
 cases hE
 have hm:=List.mem_of_find?_eq_some hf
 have hp:=List.find?_some hf
 simp only[Bool.and_eq_true,decide_eq_true_eq] at hp
 obtain ⟨⟨rfl,hfit⟩,hcap⟩:=hp
 refine Zn6 (hG e hm) hd fun w0 F0 X0 σ a w F fp kk r h hlv hdy=> ?_
 rw[hops] at hdy
 simp only[List.map_cons] at hdy
 obtain ⟨xs,hxs,hdy⟩:=Option.bind_eq_some_iff.1 hdy
 obtain ⟨cs0,hcs0,hdy⟩:=Option.bind_eq_some_iff.1 hdy
 obtain ⟨z,hz,hkk⟩:=Option.bind_eq_some_iff.1 hdy
 unfold Zde at hcs0
 split at hcs0
 case isFalse=>cases hcs0
 rename_i hc
 cases hcs0
 obtain ⟨l,_,hsr⟩:=h.at' c (by rw[hk];simp)
 rw[hk] at hsr
 obtain ⟨caps,cx,hv,hx,hlc,hcr,_⟩:=hsr
 rw[hx] at hc hz
 simp only[PV.parts] at hc hz
 have hl:(List.map (sv κ) args.toList).length=args.toList.length:=by simp
 rw[hl] at hc hfit hcap
 have hlenp:(e.ps.drop args.toList.length).length=cx.length:=by rw[List.length_drop];have:=hc.1;simp only[Array.length_toList] at this⊢;omega
 refine ⟨xs,cx,caps.toList,z,e.ps.take args.toList.length,e.ps.drop args.toList.length, ?_,by rw[List.take_append_drop],hfit,hxs,fun x hx=>Zg hlv (by rw[hops];exact List.mem_cons_of_mem _ hx),fun F1 hF1=> ?_,hz,hkk⟩
 ·rw[ZfD hop (f:=e.f) (cap:=caps) ⟨c,rfl,hv⟩]
  have:=(hG e hm).body (args.map a.eval++caps) w
  rw[this]
  congr 2
  apply Array.ext'
  simp
 ·have key:∀(ks:List Kd) (cx:List PV) (vs:List Value),ks.length=cx.length→cx.length=vs.length→(ks.all fun k=>decide (k=.ipt))=true→(cx.all fun y=> !y.isU)=true→(∀(i:Nat) (y:PV),cx[i]?=some y→Znm w F y (vs.getD i Go.undef))→ArgsR w F1 ks cx vs:=by
   intro ks
   induction ks with
   | nil=>
    intro cx vs h1 h2 _ _ _
    cases cx with
    | nil=>cases vs with
     |nil=>exact .nil
     |cons _ _=>simp at h2
    |cons _ _=>simp at h1
   | cons k ks ih=>
    intro cx vs h1 h2 h3 h4 h5
    cases cx with
    |nil=>simp at h1
    | cons y cx=>
     cases vs with
     |nil=>simp at h2
     | cons v vs=>
      simp only[List.all_cons,Bool.and_eq_true,decide_eq_true_eq] at h3 h4
      obtain ⟨rfl,h3⟩:=h3
      refine .cons ⟨fun _=>(h5 0 y rfl).keep ⟨hF1,fun _ _=>rfl⟩,rfl⟩ (fun _=> ?_) (ih cx vs (by simpa using h1) (by simpa using h2) h3 h4.2 fun i z hz=>by simpa using h5 (i+1) z (by simpa using hz))
      rintro rfl
      simp[PV.isU] at h4
  refine key _ cx caps.toList hlenp (by simpa using hlc) hcap hc.2 fun i y hy=> ?_
  have:=hcr i y hy
  have e1:caps.toList.getD i Go.undef=caps.getD i Go.undef:=by simp[List.getD,Array.getD_eq_getD_getElem?]
  rw[e1];exact this
def CK.fzd :CK→CK
 |.own _ _ _=>.val
 |k=>k
def Kd.fzd :Kd→Kd
 |.ck c=>.ck c.fzd
 |.grp t ks=>.grp t (ks.map CK.fzd)
 |k=>k
def Ent.frozen (e:Ent):Ent:={e with rk:=e.rk.fzd,sc:=false}
theorem CR.fzd {k:CK} {x:PV} {v:Value} {fp:List Nat} (h:CR w F k x v fp) (hF:∀b,F b→F1 b) (hb:∀b∈fp,F1 b):CR w F1 k.fzd x v []:=by
 have hst:Stays w F w F1:=⟨hF,fun _ _=>rfl⟩
 cases k with
 |none=>rfl
 |val=>exact ⟨h.1.keep hst,rfl⟩
 |nil=>exact ⟨h.1,h.2.1,rfl⟩
 | own app e sz=>
  obtain ⟨l,rfl,hr⟩:=h
  exact ⟨hr.vr hb hF,rfl⟩
theorem GrpR.fzd {one:Bool} {ks:List CK} {xs:List PV} {vs:List Value} {fps:List (List Nat)} (h:GrpR w F one ks xs vs fps) (hF:∀b,F b→F1 b):(∀b∈fps.flatten,F1 b)→GrpR w F1 one (ks.map CK.fzd) xs vs (fps.map fun _=>[]):=by
 induction h with
 |nil=>intro _;exact .nil
 | cons h ho ht ih=>
  intro hb
  exact .cons (h.fzd hF fun b hm=>hb b (by simp[hm])) ho (ih fun b hm=>hb b (by simp only[List.flatten_cons,List.mem_append];exact .inr hm))
theorem ZiJ {α β:Type} (l:List α):(l.map fun _=>([]:List β)).flatten=[]:=by
 induction l with
 |nil=>rfl
 |cons a l ih=>simp
theorem FnOk.frozen {e:Ent} (h:FnOk P e):FnOk P e.frozen:=by
 obtain ⟨f,ps,rk,sc,spec⟩:=e
 refine ⟨h.body, ?_,fun w F xs vs r hF ha hs=>(h.call w F xs vs r hF ha hs).mono fun en w' hp=> ?_,fun t sz fs h1 h2=>h.ipc t sz fs h1 ?_,fun T ks rest hp w F x0 v0 l0 xs vs r y hF hn hl hx ha hs=>(h.ipb T ks rest hp w F x0 v0 l0 xs vs r y hF hn hl hx ha hs).mono fun en w' hp=> ?_,fun t sz rest hp hr w F l v0 l0 xs vs r hF hn hl hx ha hs=>(h.mvc t sz rest hp ?_ w F l v0 l0 xs vs r hF hn hl hx ha hs).mono fun en w' hp=> ?_,fun h1 h2=>h.ptc ?_ h2⟩
 ·have:=h.dep
  cases rk<;>first|exact this|rfl
 ·obtain ⟨v,F',l,h1,h2,h3,h4,h5,h6⟩:=hp
  have hadds:Adds w F w' (fun b=>F' b∨b∈l):=⟨h2.os,h2.tape,h2.output,h2.size,h2.block,fun b hb=>.inl (h2.sub b hb),fun b hb=>by rcases hb with hb|hb;exact h2.new b hb;exact .inr (h5 b hb).1,fun b hb=>by rcases hb with hb|hb;exact h2.lt b hb;exact (h5 b hb).2.1⟩
  cases rk with
  |ck c=>exact ⟨v,_,[],h1,hadds,List.nodup_nil,CR.fzd h4 (fun b hb=>.inl hb) (fun b hb=>.inr hb),by simp,fun hc=>(by cases hc)⟩
  | grp t ks=>
   obtain ⟨cs,xs,fps,e1,e2,e3,e4⟩:=h4
   refine ⟨v,_,[],h1,hadds,List.nodup_nil,⟨cs,xs,_,e1,e2,e3.fzd (fun b hb=>.inl hb) (fun b hb=>.inr (by rw[e4];exact hb)),(ZiJ fps).symm⟩,by simp,fun hc=>(by cases hc)⟩
  |_=>exact ⟨v,F',l,h1,h2,h3,h4,h5,fun hc=>(by cases hc)⟩
 ·cases rk with
  | ck c=>
   cases c<;>first|exact h2|(simp[Ent.frozen,Kd.fzd,CK.fzd] at h2)
  |grp t ks=>simp[Ent.frozen,Kd.fzd] at h2
  |_=>exact h2
 ·obtain ⟨v,F',l',e1,e2,e3,e4,e5,e6,e7,e8,e9,e10⟩:=hp
  refine ⟨v,F',l',e1,e2,e3,e4,e5,e6,e7,e8,e9, ?_⟩
  cases rk with
  |ck c=>exact CR.fzd e10 (fun _ h=>h) (by simp)
  | grp t ks=>
   obtain ⟨cs,xs,fps,g1,g2,g3,g4⟩:=e10
   exact ⟨cs,xs,_,g1,g2,g3.fzd (fun _ h=>h) (fun b hb=>by rw[←g4] at hb;simp at hb),(ZiJ fps).symm⟩
  |_=>exact e10
 ·intro e
  change rk=.ck .none at e
  rw[e] at hr
  exact hr rfl
 ·obtain ⟨v,F',l',e1,e2,e3,e4,e5,e6,e7,e8,e9⟩:=hp
  have hn':∀b,(fun b=>F' b∨b∈l') b→F b∨w.heap.size≤b∨b∈l0:=fun b hb=>by
   rcases hb with hb|hb
   ·exact e5 b hb
   ·rcases (e9 b hb).1 with h|h
    ·exact .inr (.inr h)
    ·exact .inr (.inl h)
  have hl':∀b,(fun b=>F' b∨b∈l') b→b<w'.heap.size:=fun b hb=>by
   rcases hb with hb|hb
   ·exact e6 b hb
   ·exact (e9 b hb).2.1
  cases rk with
  |ck c=>exact ⟨v,_,[],e1,e2,e3,fun b hb=>.inl (e4 b hb),hn',hl',List.nodup_nil,CR.fzd e8 (fun b hb=>.inl hb) (fun b hb=>.inr hb),by simp⟩
  | grp t ks=>
   obtain ⟨cs,xs,fps,g1,g2,g3,g4⟩:=e8
   exact ⟨v,_,[],e1,e2,e3,fun b hb=>.inl (e4 b hb),hn',hl',List.nodup_nil,⟨cs,xs,_,g1,g2,g3.fzd (fun b hb=>.inl hb) (fun b hb=>.inr (by rw[g4];exact hb)),(ZiJ fps).symm⟩,by simp⟩
  |_=>exact ⟨v,F',l',e1,e2,e3,e4,e5,e6,e7,e8,e9⟩
 ·cases rk with
  | ck c=>
   cases c<;>first|exact h1|(simp[Ent.frozen,Kd.fzd,CK.fzd] at h1)
  |grp t ks=>simp[Ent.frozen,Kd.fzd] at h1
  |_=>exact h1
end
def Zjz :PV→Option (List PV)
 |.lst l=>some l
 |_=>none
def ZtB :List Operand→Option (List FuncId)
 |[]=>some []
 |.func g::r=>(ZtB r).map (g::·)
 |_=>none
theorem Zl1 (a:Act):∀(l:List Operand) (fs:List FuncId),ZtB l=some fs→l.map a.eval=fs.map fnV
 |[],fs,h=>by cases h;rfl
 | x::r,fs,h=>by
  unfold ZtB at h
  split at h
  ·rename_i he;cases he
  ·rename_i g r' he
   cases he
   obtain ⟨fs',h1,rfl⟩:=Option.map_eq_some_iff.1 h
   simp only[List.map_cons]
   rw[Zl1 a _ fs' h1]
   rfl
  ·cases h
def ipOf (G:List Ent) (o:Oper) (κ:List Kd):Option (Ent×Nat×Nat):=
 match o.op,o.dst with
 | .call {callee:=.value (.func f),args:=args,argTypes:=_},some d=>
  match args.toList with
  | .tmp t::rest=>
   match ZtB rest with
   |none=>none
   |some fs=>
   match kd κ t with
   | .ali (.slot q)=>
    match kd κ q with
    | .ck (.own true ty sz)=>
     match G.find? (fun e=>e.f=f&&e.ps=.ck (.own true ty sz)::fs.map Kd.clo&&e.rk=.ck .none) with
     |some e=>if (decide (d≠q)&&decide (kd κ d=.ck .none)&&κ.all (fun k=>k.dep≠some d)&&decide (q<κ.length))=true then some (e,t,q) else none
     |none=>none
    |_=>none
   |_=>none
  |_=>none
 |_,_=>none
theorem Zqo {x:PV} {l:List PV} (h:Zjz x=some l):x=.lst l:=by cases x<;>simp[Zjz] at h;rw[h]
section
variable {P :Program} {o:Oper} {κ:List Kd} {w0:World} {F0:Nat→Prop} {X0:List Nat} {σ:List PV} {a:Act} {w:World} {F:Nat→Prop} {fp:Nat→List Nat}
theorem St.void {τ:Array Value} (h:St w0 F0 X0 κ σ τ w F fp) {d:Nat} (hd:kd κ d=.ck .none) (hdep:∀s,(kd κ s).dep≠some d) (v:Value):St w0 F0 X0 κ σ (τ.setIfInBounds d v) w F fp:=by
 have pl:∀(p:Place) (u:Value),p.of≠d→PlV τ w p u→PlV (τ.setIfInBounds d v) w p u:=by
  intro p u hp hu
  cases p with
  |slot q=>show tv _ q=u;rw[Zcl,if_neg (by intro hc;exact hp hc.1)];exact hu
  |cell q off=>obtain ⟨b,h1,h2⟩:=hu;exact ⟨b,by rw[Zcl,if_neg (by intro hc;exact hp hc.1)];exact h1,h2⟩
 refine ⟨by rw[h.lk];simp,by rw[h.ls];simp,fun s=> ?_,fun s hs=> ?_,h.bx,h.dj,h.pr,h.fl,h.os,h.tape,h.output,h.size,h.kept,h.stay,h.fnew,h.gk⟩
 ·by_cases e:s=d
  ·subst e
   rw[hd]
   exact ⟨[],List.nodup_nil,by simp,rfl⟩
  ·rw[Zcl,if_neg (by intro hc;exact e hc.1)]
   exact h.sr s
 ·by_cases e:s=d
  ·subst e
   rw[hd]
   trivial
  ·rw[Zcl,if_neg (by intro hc;exact e hc.1)]
   have ha:=h.al s hs
   have hs':=hdep s
   revert ha hs'
   generalize kd κ s=k
   intro ha hs'
   cases k with
   |ali p=>exact pl p _ (fun e=>hs' (by simp[Kd.dep,e])) ha
   | elm p sz off=>
    obtain ⟨i,b,n,cap,h1,h2,h3,h4⟩:=ha
    exact ⟨i,b,n,cap,h1,h2,pl p _ (fun e=>hs' (by simp[Kd.dep,e])) h3,h4⟩
   | bxf q off=>
    obtain ⟨b,h1,h2⟩:=ha
    exact ⟨b,by rw[Zcl,if_neg (by intro hc;exact hs' (by simp[Kd.dep,hc.1]))];exact h1,h2⟩
   | mbx q=>
    obtain ⟨b,h1,h2⟩:=ha
    exact ⟨b,h1,by rw[Zcl,if_neg (by intro hc;exact hs' (by simp[Kd.dep,hc.1]))];exact h2⟩
   |_=>exact ha
theorem ZvN {α:Type} {l:List α} {q:Nat} {x:α} (h:l[q]?=some x):l.set q x=l:=by
 apply List.ext_getElem?
 intro i
 rw[List.getElem?_set]
 split
 ·rename_i e
  subst e
  rw[h]
  simp only[(List.getElem?_eq_some_iff.1 h).1,if_true]
 ·rfl
theorem ZvO {G:List Ent} (hG:∀e∈G,FnOk P e) {e:Ent} {t q:Nat} (hi:ipOf G o κ=some (e,t,q)) (hlv:Zaz κ σ o.op.operands.toList=true) {l r:List PV} (hl:vl σ q=.lst l) (hs:e.spec [.lst l]=some (.lst r))
 (h:St w0 F0 X0 κ σ a.tmps w F fp) {K:Act→World→Prop} {Q:Exit→Act→World→Prop} (hK:∀v w',St w0 F0 X0 (noCln true κ) (σ.set q (.lst r)) (a.put o.dst v).tmps w' F fp→K (a.put o.dst v) w'):o.wp P a w K Q:=by
 unfold ipOf at hi
 split at hi
 case h_2=>cases hi
 rename_i f args ts d hop hd
 split at hi
 case h_2=>cases hi
 rename_i t' rest hargs
 split at hi
 case h_1=>cases hi
 rename_i fs hfs
 split at hi
 case h_2=>cases hi
 rename_i q' hkt
 split at hi
 case h_2=>cases hi
 rename_i ty sz hkq
 split at hi
 case h_2=>cases hi
 rename_i e' hf
 split at hi
 case isFalse=>cases hi
 rename_i hc
 simp only[Option.some.injEq,Prod.mk.injEq] at hi
 obtain ⟨rfl,rfl,rfl⟩:=hi
 simp only[Bool.and_eq_true,decide_eq_true_eq,List.all_eq_true,ne_eq] at hc
 obtain ⟨⟨⟨hdq,hkd⟩,hdep⟩,hq⟩:=hc
 have hm:=List.mem_of_find?_eq_some hf
 have hp:=List.find?_some hf
 simp only[Bool.and_eq_true,decide_eq_true_eq] at hp
 obtain ⟨⟨rfl,hps⟩,hrk⟩:=hp
 have hop':o.op.operands.toList=.func e'.f::.tmp t'::rest:=by rw[hop];simp[Op.operands,Call.operands,hargs]
 have hev:=Zl1 a rest fs hfs
 have hne:vl σ t'≠.undef:=by
  have:=Zg hlv (x:=.tmp t') (by rw[hop'];simp)
  exact this (by show (kd κ t').hangs=true;rw[hkt];rfl)
 have hal:=h.al t' hne
 rw[hkt] at hal
 have hv:tv a.tmps q'=tv a.tmps t':=hal
 obtain ⟨lq,hnd,hsub,hsr⟩:=h.sr q'
 rw[hkq] at hsr
 obtain ⟨l0,hx,hrow⟩:=hsr
 rw[hl] at hx
 cases hx
 have hprq:=fun b hb=>h.pr q' b (hsub b hb)
 have run:(execOp a.eval o).run P w=.ok (.enter e'.f (tv a.tmps q'::fs.map fnV).toArray) w:=by
  rw[ZfD hop (f:=e'.f) (cap:= #[]) ⟨.func e'.f,rfl,rfl⟩]
  have:=(hG e' hm).body (tv a.tmps q'::fs.map fnV).toArray w
  obtain ⟨al⟩:=args
  simp only at hargs
  subst hargs
  have e1:a.eval (.tmp t')=tv a.tmps q':=by rw[hv];rfl
  rw[←hev] at this
  rw[←hev]
  simpa[e1] using this
 unfold Oper.wp
 rw[run,Oper.upon_enter]
 refine ((hG e' hm).ipc ty sz fs hps hrk w F l r _ lq h.fl (fun b hb=>(hprq b hb).2.1) (fun b hb=>(hprq b hb).1) hrow hs).mono fun en w' hpost=> ?_
 obtain ⟨u,rfl,e1,e2,e3,e4,e5,e6⟩:=hpost
 have hstay:Stays w F w' F:=⟨fun _ h=>h,fun b hb=>e5 b (h.fl b hb) fun hc=>(hprq b hc).2.1 hb⟩
 have hmod:=(h.noCln true).mod (s:=q') (ks:=.ck (.own true ty sz)) (xs:=.lst r) (l:=lq) (fps:=fp q') (w1:=w') (F1:=F) (fun _=>false) (by rw[ZA];exact hq) e1 e2 e3 e4
  (fun b hb hn=>e5 b hb (fun hc=>hn (hsub b hc))) (fun _ h=>h) (fun _ h=>.inl h) (fun b hb=>Nat.lt_of_lt_of_le (h.fl b hb) e4) hnd hsub ⟨r,rfl,e6⟩ (fun b hb=>⟨.inl hb,Nat.lt_of_lt_of_le (h.pr _ b hb).1 e4,(h.pr _ b hb).2.1⟩) (fun _=>trivial) rfl (fun k hk=>by cases hk) (Zc5 κ) (fun _ _ _ hb=>by rw[ZeT,hkq] at hb;cases hb)
 have k1:((noCln true κ).map fun k=>if (fun _=>false) k=true then Kd.ck .none else k).set q' (.ck (.own true ty sz))=noCln true κ:=by
  have:((noCln true κ).map fun k=>if (fun _=>false) k=true then Kd.ck .none else k)=noCln true κ:=by simp
  rw[this]
  refine ZvN ?_
  have hk:kd (noCln true κ) q'=.ck (.own true ty sz):=by rw[ZbW,hkq];rfl
  have hlt:q'<(noCln true κ).length:=by rw[ZA];exact hq
  unfold kd at hk
  rw[List.getD_eq_getElem?_getD,List.getElem?_eq_getElem hlt] at hk
  rw[List.getElem?_eq_getElem hlt]
  simpa using hk
 have k2:(fun t=>if t=q' then fp q' else fp t)=fp:=by
  funext t
  split
  ·rename_i e;rw[e]
  ·rfl
 rw[k1,k2] at hmod
 refine hK u w' ?_
 rw[hd]
 refine hmod.void (d:=d) ?_ (fun s=> ?_) u
 ·rw[ZbW,hkd];simp[Kd.isCln]
 ·rw [ZbW]
  split
  ·simp[Kd.dep]
  ·intro hc
   by_cases hs:s<κ.length
   ·refine hdep (kd κ s) ?_ hc
    unfold kd
    rw[List.getD_eq_getElem?_getD,List.getElem?_eq_getElem hs]
    exact List.getElem_mem hs
   ·unfold kd at hc
    rw[List.getD_eq_getElem?_getD,List.getElem?_eq_none (by omega)] at hc
    simp[Kd.dep] at hc
end
def ZgV :PV→Option (PV×PV)
 |.tup [a,b]=>some (a,b)
 |_=>none
theorem Zhj {x:PV} {p:PV×PV} (h:ZgV x=some p):x=.tup [p.1,p.2]:=by
 unfold ZgV at h
 split at h
 ·cases h;rfl
 ·cases h
def bxq (κ:List Kd) (t:Nat):Nat:=match kd κ t with|.ali (.slot q)=>q|_=>t
def Zdu (q:Nat):Kd→Bool
 |.ali (.cell p _)=>p=q
 |.elm (.cell p _) _ _=>p=q
 |_=>false
def bxK (κ:List Kd) (q:Nat) (K:Kd):List Kd:=((noCln true κ).map fun k=>if Zdu q k then .ck .none else k).set q K
def Zl2 (κ:List Kd) (t:Nat) (rest:List Operand):List Kd→Bool
 |K::ps=>K.isBox&&ZfC (kd κ (bxq κ t)) K&&ZcR false ps (rest.map (sv κ))&&rest.all fun x=>(sv κ x).isV
 |[]=>false
def Ent.k0 (e:Ent):Kd:=e.ps.headD (.ck .none)
def Zg0 (G:List Ent) (o:Oper) (κ:List Kd):Option (Ent×Nat×Nat×List Operand):=
 match o.op,o.dst with
 | .call {callee:=.value (.func f),args:=args,argTypes:=_},some d=>
  match args.toList with
  | .tmp t::rest=>
   match G.find? (fun e=>e.f=f&&Zl2 κ t rest e.ps) with
   |some e=>if (decide (d≠bxq κ t)&&decide (d<κ.length)&&decide (bxq κ t<κ.length))=true then some (e,bxq κ t,d,rest) else none
   |none=>none
  |_=>none
 |_,_=>none
section
variable {P :Program} {o:Oper} {κ:List Kd} {w0:World} {F0:Nat→Prop} {X0:List Nat} {σ:List PV} {a:Act} {w:World} {F:Nat→Prop} {fp:Nat→List Nat}
theorem Zuq {q:Nat} {k:Kd} (h:Zdu q k=true):k.dep≠none:=by
 unfold Zdu at h
 split at h
 ·simp[Kd.dep]
 ·simp[Kd.dep]
 ·cases h
theorem Zr0 {q:Nat} {k:Kd} {τ:Array Value} {w w1:World} {x:PV} {v:Value} (hb:k.bdep=some q) (h:Zdu q k=false) (ha:Al τ w k x v):Al τ w1 k x v:=by
 cases k with
 | ali p=>cases p with
  |slot s=>simp[Kd.bdep] at hb
  |cell s off=>simp[Kd.bdep] at hb;simp[Zdu,hb] at h
 | elm p sz off=>cases p with
  |slot s=>simp[Kd.bdep] at hb
  |cell s off=>simp[Kd.bdep] at hb;simp[Zdu,hb] at h
 |bxf s off=>exact ha
 |_=>simp[Kd.bdep] at hb
theorem St.rebox (h:St w0 F0 X0 κ σ a.tmps w F fp) {q:Nat} {T:TypeId} {ks:List CK} {y:PV} {l':List Nat} {w':World} {F':Nat→Prop} (hq:q<κ.length) (hw:w'.os=w.os∧w'.tape=w.tape∧w'.output=w.output∧w.heap.size≤w'.heap.size)
 (hblock:∀b,b<w.heap.size→b∉fp q→w'.heap[b]?=w.heap[b]?) (hsub:∀b,F b→F' b) (hnew:∀b,F' b→F b∨w.heap.size≤b∨b∈fp q) (hlt:∀b,F' b→b<w'.heap.size)
 (hnd:l'.Nodup) (hr:SR w' F' (.box T ks) y (tv a.tmps q) l') (hl:∀b∈l',(b∈fp q∨w.heap.size≤b)∧b<w'.heap.size∧¬F' b):
 St w0 F0 X0 (bxK κ q (.box T ks)) (σ.set q y) a.tmps w' F' (fun t=>if t=q then l' else fp t):=
 (h.noCln true).mod (ks:=.box T ks) (xs:=y) (l:=l') (fps:=l') (Zdu q) (by rw[ZA];exact hq) hw.1 hw.2.1 hw.2.2.1 hw.2.2.2 hblock hsub hnew hlt hnd (fun _ h=>h) hr hl (fun _=>trivial) rfl (fun _ hk=>Zuq hk) (Zc5 κ)
  (fun _ hb hc _=>⟨rfl,fun _ _ ha=>Zr0 hb hc ha⟩)
theorem ZfE {G:List Ent} {e:Ent} {q d:Nat} {rest:List Operand} (hi:Zg0 G o κ=some (e,q,d,rest)):
 ∃ (args:Array Operand) (ts:Array TypeId) (t:Nat) (T:TypeId) (ks:List CK) (ps:List Kd),o.op=.call {callee:=.value (.func e.f),args:=args,argTypes:=ts}∧o.dst=some d∧args.toList=.tmp t::rest∧e∈G∧q=bxq κ t∧e.ps=.box T ks::ps∧
  ZfC (kd κ q) (.box T ks)=true∧ZcR false ps (rest.map (sv κ))=true∧(∀x∈rest,(sv κ x).isV=true)∧d≠q∧d<κ.length∧q<κ.length:=by
 unfold Zg0 at hi
 split at hi
 case h_2=>cases hi
 rename_i f args ts d' hop hd
 split at hi
 case h_2=>cases hi
 rename_i t rest' hargs
 split at hi
 case h_2=>cases hi
 rename_i e' hf
 split at hi
 case isFalse=>cases hi
 rename_i hc
 simp only[Option.some.injEq,Prod.mk.injEq] at hi
 obtain ⟨rfl,rfl,rfl,rfl⟩:=hi
 simp only[Bool.and_eq_true,decide_eq_true_eq,ne_eq] at hc
 have hm:=List.mem_of_find?_eq_some hf
 have hp:=List.find?_some hf
 simp only[Bool.and_eq_true,decide_eq_true_eq] at hp
 obtain ⟨rfl,hp⟩:=hp
 unfold Zl2 at hp
 split at hp
 case h_2=>cases hp
 rename_i K ps hps
 simp only[Bool.and_eq_true,List.all_eq_true] at hp
 obtain ⟨⟨⟨h1,h2⟩,h3⟩,h4⟩:=hp
 cases K with
 |box T ks=>exact ⟨args,ts,t,T,ks,ps,hop,hd,hargs,hm,rfl,hps,h2,h3,h4,hc.1.1,hc.1.2,hc.2⟩
 |_=>simp[Kd.isBox] at h1
theorem ZjA {G:List Ent} (hG:∀e∈G,FnOk P e) {e:Ent} {q d:Nat} {rest:List Operand} (hi:Zg0 G o κ=some (e,q,d,rest)) (hlv:Zaz κ σ o.op.operands.toList=true) {xs:List PV} {r y:PV}
 (hx:Za1 (rest.map (sv κ)) (rest.map (dv κ σ))=some xs) (hs:e.spec (vl σ q::xs)=some (.tup [r,y]))
 (h:St w0 F0 X0 κ σ a.tmps w F fp) {K:Act→World→Prop} {Q:Exit→Act→World→Prop} (hK:∀v w' F' fp',St w0 F0 X0 (Zds (bxK κ q e.k0) d e.rk) ((σ.set q y).set d r) (a.put o.dst v).tmps w' F' fp'→K (a.put o.dst v) w'):o.wp P a w K Q:=by
 obtain ⟨args,ts,t,T,ks,ps,hop,hd,hargs,hm,hqt,hps,hwk,hfit,hisv,hdq,hdl,hql⟩:=ZfE hi
 have hop':o.op.operands.toList=.func e.f::.tmp t::rest:=by rw[hop];simp[Op.operands,Call.operands,hargs]
 have hv:tv a.tmps q=tv a.tmps t:=by
  unfold bxq at hqt
  split at hqt
  ·rename_i q' hk
   subst hqt
   have hne:vl σ t≠.undef:=by
    have:=Zg hlv (x:=.tmp t) (by rw[hop'];simp)
    exact this (by show (kd κ t).hangs=true;rw[hk];rfl)
   have hal:=h.al t hne
   rw[hk] at hal
   exact hal
  ·rw[hqt]
 obtain ⟨lq,hnd,hsub,hsr⟩:=h.sr q
 obtain ⟨l0,hnd0,hsub0,hsr0⟩:=Zhi hwk hnd hsr
 have hl0:∀b∈l0,b∈fp q:=fun b hb=>hsub b (hsub0 b hb)
 have hargsR:=Zeq (sc:=false) h ps rest xs (fun x hxm=>Zg hlv (by rw[hop'];exact List.mem_cons_of_mem _ (List.mem_cons_of_mem _ hxm))) hfit hx F (fun _ h=>h) (fun hc=>by cases hc)
  (fun x hxm app e' sz q' i l lb g1 _ _ _=>by
   have:=hisv x hxm
   unfold ZbH at g1
   rw[if_pos this] at g1
   cases g1)
 have run:(execOp a.eval o).run P w=.ok (.enter e.f (tv a.tmps q::rest.map a.eval).toArray) w:=by
  rw[ZfD hop (f:=e.f) (cap:= #[]) ⟨.func e.f,rfl,rfl⟩]
  have:=(hG e hm).body (tv a.tmps q::rest.map a.eval).toArray w
  obtain ⟨al⟩:=args
  simp only at hargs
  subst hargs
  have e1:a.eval (.tmp t)=tv a.tmps q:=by rw[hv];rfl
  simpa[e1] using this
 unfold Oper.wp
 rw[run,Oper.upon_enter]
 refine ((hG e hm).ipb T ks ps hps w F (vl σ q) (tv a.tmps q) l0 xs (rest.map a.eval) r y ⟨h.fl,h.gk⟩ hnd0 (fun b hb=>⟨(h.pr q b (hl0 b hb)).1,(h.pr q b (hl0 b hb)).2.1⟩) hsr0 hargsR hs).mono fun en w' hpost=> ?_
 obtain ⟨v,F',l',rfl,e2,e3,e4,e5,e6,e7,e8,e9,e10⟩:=hpost
 have hmod:=h.rebox (q:=q) (T:=T) (ks:=ks) (y:=y) hql e2 (fun b hb hn=>e3 b hb fun hc=>hn (hl0 b hc)) e4 (fun b hb=>by rcases e5 b hb with h|h|h;exact .inl h;exact .inr (.inl h);exact .inr (.inr (hl0 b h))) e6 e7 e8
  (fun b hb=>⟨by rcases (e9 b hb).1 with h|h;exact .inl (hl0 b h);exact .inr h,(e9 b hb).2⟩)
 have hk0:e.k0=.box T ks:=by unfold Ent.k0;rw[hps];rfl
 have hdl':d<(bxK κ q (.box T ks)).length:=by unfold bxK;simp[ZA,hdl]
 have:=hmod.putA (d:=d) (k:=e.rk) (x:=r) (v:=v) (l:=[]) hdl' (Adds.refl w' e6) List.nodup_nil e10 (by simp) (fun _=>Zdf (hG e hm).dep _ _) (fun q hq=>by have hq':=Zax hq;rw[(hG e hm).dep] at hq';cases hq')
 refine hK v w' F' (fun s=>if s=d then [] else if s=q then l' else fp s) ?_
 rw[hd,hk0]
 exact this
theorem ZtC {G:List Ent} (hG:∀e∈G,FnOk P e) {e:Ent} {q d:Nat} {rest:List Operand} (hi:Zg0 G o κ=some (e,q,d,rest)) (hrk:e.rk=.ck .val) (h:St w0 F0 X0 κ σ a.tmps w F fp):
 ∃fp',St w0 F0 X0 (Zds (bxK κ q e.k0) d e.rk) ((σ.set q (vl σ q)).set d .undef) (a.put o.dst undef).tmps w F fp':=by
 obtain ⟨args,ts,t,T,ks,ps,hop,hd,hargs,hm,hqt,hps,hwk,hfit,hisv,hdq,hdl,hql⟩:=ZfE hi
 obtain ⟨lq,hnd,hsub,hsr⟩:=h.sr q
 obtain ⟨l0,hnd0,hsub0,hsr0⟩:=Zhi hwk hnd hsr
 have hl0:∀b∈l0,b∈fp q:=fun b hb=>hsub b (hsub0 b hb)
 have hmod:=h.rebox (q:=q) (T:=T) (ks:=ks) (y:=vl σ q) hql ⟨rfl,rfl,rfl,Nat.le_refl _⟩ (fun _ _ _=>rfl) (fun _ h=>h) (fun _ h=>.inl h) h.fl hnd0 hsr0 (fun b hb=>⟨.inl (hl0 b hb),(h.pr q b (hl0 b hb)).1,(h.pr q b (hl0 b hb)).2.1⟩)
 have hk0:e.k0=.box T ks:=by unfold Ent.k0;rw[hps];rfl
 have hdl':d<(bxK κ q (.box T ks)).length:=by unfold bxK;simp[ZA,hdl]
 have:=hmod.putA (d:=d) (k:=e.rk) (x:=.undef) (v:=Go.undef) (l:=[]) hdl' (Adds.refl w h.fl) List.nodup_nil (by rw[hrk];exact ⟨.undef,rfl⟩) (by simp) (fun hc=>absurd rfl hc) (fun q hq=>by rw[hrk] at hq;cases hq)
 refine ⟨fun s=>if s=d then [] else if s=q then l0 else fp s, ?_⟩
 rw[hd,hk0]
 exact this
end
def u8n :PV→Option Int
 |.int .u8 n=>some n
 |_=>none
theorem ZvP {x:PV} {n:Int} (h:u8n x=some n):x=.int .u8 n:=by
 unfold u8n at h
 split at h
 ·cases h;rfl
 ·cases h
def elU8 (l:List PV) (x:PV):Option Int:=
 match x with
 |.int .i64 i=>if 0≤i then (l[i.toNat]?).bind u8n else none
 |_=>none
def ZtD (s:SV) (d:DV):Option Int:=
 match s.boxAt with
 | some (_,ks,off)=>match ks[off]? with
  |some .val=>((ZdX s d)[off]?).bind u8n
  |_=>none
 | none=>match s.k with
  | .elm p sz off=>match ZoY s with
   | some (app,e,sz')=>if sz=1∧off=0∧sz'=1 then (Zez s d).bind fun l=>elU8 l d.v
    else none
   |none=>none
  |_=>none
def cSV :SV:=⟨.ck .val,.ck .none,none⟩
def cDV (y:Int):DV:=⟨.int .u8 y,.undef⟩
def as4 :PV→Option (Bool×Bool×Int×Int)
 |.tup [.bool a,.bool b,.int .u8 x,.int .u8 y]=>some (a,b,x,y)
 |_=>none
theorem as4_eq {z:PV} {a b:Bool} {x y:Int} (h:as4 z=some (a,b,x,y)):z=.tup [.bool a,.bool b,.int .u8 x,.int .u8 y]:=by
 unfold as4 at h
 split at h
 ·cases h;rfl
 ·cases h
def ptRk :Kd:=.grp true [.val,.val]
def tyU8 (T:Tab):Option TypeId:=(T.find? fun p=>match T.lookup p.1 with|some ti=>decide (ti.desc=TD.int .u8)&&decide (ti.size=1)|none=>false).map (·.1)
theorem ZwR {T:Tab} {ty:TypeId} (h:tyU8 T=some ty):∃ti,T.lookup ty=some ti∧ti.size=1:=by
 unfold tyU8 at h
 obtain ⟨p,hp,rfl⟩:=Option.map_eq_some_iff.1 h
 have:=List.find?_some hp
 split at this
 ·rename_i ti hl
  simp only[Bool.and_eq_true,decide_eq_true_eq] at this
  exact ⟨ti,hl,this.2⟩
 ·cases this
def ptOf (T:Tab) (G:List Ent) (o:Oper) (κ:List Kd):Option (Ent×Nat×Nat×Nat×Eff PV×Eff PV×List Kd×List Kd):=
 match o.op,o.dst with
 | .call {callee:=.value (.func f),args:=args,argTypes:=_},some d=>
  match args.toList with
  | [.tmp t1,.tmp t2]=>
   match G.find? (fun e=>e.f=f&&e.ps=[.bxf 0 0,.bxf 0 0]&&e.rk=.ck .none) with
   |none=>none
   |some e=>
   match tyU8 T with
   |none=>none
   |some ty=>
   match Zhn (R:=PV) T ty (sv κ (.tmp t1)) cSV with
   |none=>none
   |some E1=>
   match E1.κ κ with
   |none=>none
   |some κ1=>
   match Zhn (R:=PV) T ty (sv κ1 (.tmp t2)) cSV with
   |none=>none
   |some E2=>
   match E2.κ κ1 with
   |none=>none
   |some κ2=>if d<κ2.length then some (e,t1,t2,d,E1,E2,κ1,κ2) else none
  |_=>none
 |_,_=>none
section
variable {P :Program} {T:Tab} {o:Oper} {κ:List Kd} {w0:World} {F0:Nat→Prop} {X0:List Nat} {σ:List PV} {a:Act} {w:World} {F:Nat→Prop} {fp:Nat→List Nat}
theorem Zqp (h:St w0 F0 X0 κ σ a.tmps w F fp) {x:Operand} (hlx:Zcv κ σ x) {n:Int} (hp:ZtD (sv κ x) (dv κ σ x)=some n):∃p:Addr,a.eval x=.pointer (some p)∧w.cell? p=some (.int .u8 n)∧w.frozen? p=false:=by
 unfold ZtD at hp
 split at hp
 ·rename_i q ks off hb
  obtain ⟨b,cs,TT,xs,fps,_,e1,e2,e3,e4,e5,e6,e7,e8,e9⟩:=ZeA h hlx hb
  split at hp
  case h_2=>cases hp
  rename_i hk
  obtain ⟨y,hy,hu⟩:=Option.bind_eq_some_iff.1 hp
  have:=ZvP hu
  subst this
  rw[e3] at hy
  obtain ⟨k,v,f,h1,h2,h3,h4,h5⟩:=e7.at off _ hy
  rw[hk] at h1
  cases h1
  have h6:=h4.1
  cases h6
  refine ⟨_,e5,by rw[show (⟨b,off,none⟩:Addr)=⟨b,off+0,none⟩ from rfl,cell_of_row w b _ cs TT (0,0) e6];simpa using h2, ?_⟩
  simp[World.frozen?,e6]
 ·rename_i hb
  split at hp
  case h_2=>cases hp
  rename_i p sz off hk
  split at hp
  case h_2=>cases hp
  rename_i app e sz' hK
  split at hp
  case isFalse=>cases hp
  rename_i hc
  obtain ⟨rfl,rfl,rfl⟩:=hc
  obtain ⟨l,hl,hp⟩:=Option.bind_eq_some_iff.1 hp
  obtain ⟨i,n',cap,g,cur,fr,lb,g1,g2,g3,g4,g5,g6,g7,g8,g9,g10,g11,g12⟩:=Zls h hlx hk hl hK
  rw[g1] at hp
  unfold elU8 at hp
  dsimp only at hp
  rw[if_pos (by omega),Int.toNat_natCast] at hp
  obtain ⟨y,hy,hu⟩:=Option.bind_eq_some_iff.1 hp
  have:=ZvP hu
  subst this
  obtain ⟨k1,k2,u,k3,k4⟩:=g10 i _ hy
  cases k3
  have hcell:=k4 0 (.int .u8 n) rfl
  have hlt:i<cur.size:=by omega
  refine ⟨_,g3, ?_, ?_⟩
  ·rw[show (⟨g,i * 1+0,none⟩:Addr)=⟨g,i,none⟩ by simp]
   rw[show (⟨g,i,none⟩:Addr)=⟨g,i+0,none⟩ from rfl,cell_of_row w g _ cur e fr g4]
   simpa using hcell
  ·unfold World.frozen?
   dsimp only
   rw[g4]
   obtain ⟨lo,hi⟩:=fr
   dsimp only at g5⊢
   simp only[Bool.and_eq_false_iff,decide_eq_false_iff_not]
   omega
def Zqq (e:Ent) (t1 t2:Nat) (E1 E2:Eff PV) (κ κ1:List Kd) (σ:List PV):Option (PV×PV×PV):=
 if Zaz κ σ [.tmp t1,.tmp t2] then
  (ZtD (sv κ (.tmp t1)) (dv κ σ (.tmp t1))).bind fun n1=>(ZtD (sv κ (.tmp t2)) (dv κ σ (.tmp t2))).bind fun n2=>((e.spec [.bool true,.int .u8 n1,.int .u8 n2]).bind as4).bind fun q=>
   (E1.dyn [dv κ σ (.tmp t1),cDV q.2.2.1] some).bind fun x1=>
    if Zaz κ1 (σ.set E1.tgt x1) [.tmp t2] then (E2.dyn [dv κ1 (σ.set E1.tgt x1) (.tmp t2),cDV q.2.2.2] some).bind fun x2=>some (.tup [.bool q.1,.bool q.2.1],x1,x2) else none
 else none
def stO (o:Oper) (t:TypeId) (x:Operand) (y:Int):Oper:={o with op:=.store t x (.const (.int .u8 y)),dst:=none,guard:=none}
theorem Zl3 {t:TypeId} {ti:TI} (ht:TyOk P t ti) (h1:ti.size=1) {x:Operand} {y:Int} {ρ:Operand→Value} {p:Addr} {c:Value} (hx:ρ x=.pointer (some p)) (hv:ρ (.const (.int .u8 y))=.int .u8 y) (hc:w.cell? p=some c) (hf:w.frozen? p=false):
 (execOp ρ (stO o t x y)).run P w=.ok .skip (w.setCell p (.int .u8 y)):=by
 refine Zf8 (t:=t) (x:=x) (y:=.const (.int .u8 y)) rfl ?_
 have h2:=ht.run_sizeOf w
 have h3:p.add 0=p:=by cases p;simp[Addr.add]
 have h4:(Value.int .u8 y).cells= #[.int .u8 y]:=rfl
 rw[hx,hv]
 simp[Instr.storeAt,Instr.sureAddr,storeVar,h2,h1,h4,storeCells,h3,store]
 simp only[Sem.run,hc,hf]
 rfl
theorem St.same_heap {τ:Array Value} {w':World} (h:St w0 F0 X0 κ σ τ w F fp) (hh:w'.heap=w.heap) (h1:w'.os=w.os) (h2:w'.tape=w.tape) (h3:w'.output=w.output):St w0 F0 X0 κ σ τ w' F fp:=by
 have hb:∀b:Nat,w'.heap[b]?=w.heap[b]?:=fun b=>by rw[hh]
 exact {h with
  sr:=fun s=>by obtain ⟨l,a1,a2,a3⟩:=h.sr s;exact ⟨l,a1,a2,a3.keep ⟨fun _ h=>h,fun b _=>hb b⟩ fun b _=>hb b⟩
  al:=fun s hs=>Al.keep h (h.al s hs) (fun _ _=>rfl) (fun q hq=>⟨h.bx s q hq,fun b _=>hb b⟩) (fun _=>⟨by rw[hh];exact Nat.le_refl _,fun b _=>hb b⟩) (let ⟨l,_,_,hr⟩:=h.sr s;⟨l,hr⟩) (fun b _=>hb b)
  gk:=h.gk.keep ⟨fun _ h=>h,fun b _=>hb b⟩
  pr:=fun q b hq=>by rw[hh];exact h.pr q b hq
  fl:=fun b hF=>by rw[hh];exact h.fl b hF
  os:=h1.trans h.os
  tape:=h2.trans h.tape
  output:=h3.trans h.output
  size:=by rw[hh];exact h.size
  kept:=fun b hb0=>by rw[hb b];exact h.kept b hb0
  stay:=h.stay.trans ⟨fun _ h=>h,fun b _=>hb b⟩}
theorem ZvR {G:List Ent} (hT:TabOk P T) (hG:∀e∈G,FnOk P e) {e:Ent} {t1 t2 d:Nat} {E1 E2:Eff PV} {κ1 κ2:List Kd} (hi:ptOf T G o κ=some (e,t1,t2,d,E1,E2,κ1,κ2)) {r x1 x2:PV} (hr:Zqq e t1 t2 E1 E2 κ κ1 σ=some (r,x1,x2)) (h:St w0 F0 X0 κ σ a.tmps w F fp)
 {K:Act→World→Prop} {Q:Exit→Act→World→Prop} (hK:∀v w' F' fp',St w0 F0 X0 (Zds κ2 d ptRk) (((σ.set E1.tgt x1).set E2.tgt x2).set d r) (a.put o.dst v).tmps w' F' fp'→K (a.put o.dst v) w'):o.wp P a w K Q:=by
 unfold ptOf at hi
 split at hi
 case h_2=>cases hi
 rename_i f args ts d' hop hd
 split at hi
 case h_2=>cases hi
 rename_i t1' t2' hargs
 split at hi
 ·cases hi
 rename_i e' hf
 split at hi
 ·cases hi
 rename_i ty hty
 split at hi
 ·cases hi
 rename_i E1' hE1
 split at hi
 ·cases hi
 rename_i κ1' hκ1
 split at hi
 ·cases hi
 rename_i E2' hE2
 split at hi
 ·cases hi
 rename_i κ2' hκ2
 split at hi
 case isFalse=>cases hi
 rename_i hdl
 simp only[Option.some.injEq,Prod.mk.injEq] at hi
 obtain ⟨rfl,rfl,rfl,rfl,rfl,rfl,rfl,rfl⟩:=hi
 have hm:=List.mem_of_find?_eq_some hf
 have hp:=List.find?_some hf
 simp only[Bool.and_eq_true,decide_eq_true_eq] at hp
 obtain ⟨⟨rfl,hps⟩,hrk⟩:=hp
 obtain ⟨ti,hti,hsz⟩:=ZwR hty
 obtain ⟨ht⟩:=hT.ty hti
 unfold Zqq at hr
 split at hr
 case isFalse=>cases hr
 rename_i hlv
 obtain ⟨n1,hn1,hr⟩:=Option.bind_eq_some_iff.1 hr
 obtain ⟨n2,hn2,hr⟩:=Option.bind_eq_some_iff.1 hr
 obtain ⟨q,hq,hr⟩:=Option.bind_eq_some_iff.1 hr
 obtain ⟨z,hz,hq⟩:=Option.bind_eq_some_iff.1 hq
 obtain ⟨b1,b2,y1,y2⟩:=q
 have:=as4_eq hq
 subst this
 obtain ⟨x1',hx1,hr⟩:=Option.bind_eq_some_iff.1 hr
 split at hr
 case isFalse=>cases hr
 rename_i hlv2
 obtain ⟨x2',hx2,hr⟩:=Option.bind_eq_some_iff.1 hr
 simp only[Option.some.injEq,Prod.mk.injEq] at hr
 obtain ⟨rfl,rfl,rfl⟩:=hr
 dsimp only at hx1 hx2 hlv2
 have hl1:Zcv κ σ (.tmp t1'):=Zg hlv (by simp)
 have hl2:Zcv κ σ (.tmp t2'):=Zg hlv (by simp)
 obtain ⟨p1,a1,c1,f1⟩:=Zqp h hl1 hn1
 obtain ⟨p2,a2,c2,f2⟩:=Zqp h hl2 hn2
 have run:(execOp a.eval o).run P w=.ok (.enter e'.f #[.pointer (some p1),.pointer (some p2)]) w:=by
  rw[ZfD hop (f:=e'.f) (cap:= #[]) ⟨.func e'.f,rfl,rfl⟩]
  have:=(hG e' hm).body #[.pointer (some p1),.pointer (some p2)] w
  obtain ⟨al⟩:=args
  simp only at hargs
  subst hargs
  simpa[a1,a2] using this
 unfold Oper.wp
 rw[run,Oper.upon_enter]
 refine ((hG e' hm).ptc hrk hps w p1 p2 n1 n2 y1 y2 b1 b2 c1 f1 c2 f2 hz).mono fun en w' hpost=> ?_
 obtain ⟨rfl,e1,e2,e3,e4⟩:=hpost
 have lc:∀{κ0:List Kd} {σ0:List PV} {t:Nat} {y:Int},Zcv κ0 σ0 (.tmp t)→Zaz κ0 σ0 [.tmp t,.const (.int .u8 y)]=true:=fun {κ0 σ0 t y} hl=>by
  unfold Zaz
  simp only[List.all_cons,List.all_nil,Bool.and_true,Bool.and_eq_true]
  refine ⟨?_,rfl⟩
  cases hh:(kOp κ0 (.tmp t)).hangs with
  |false=>rfl
  | true=>
   have:=hl hh
   cases hv:vOp σ0 (.tmp t)<;>first|rfl|exact absurd hv this
 obtain ⟨F1,fp1,hs1⟩:∃F1 fp1,St w0 F0 X0 κ1' (σ.set E1'.tgt x1') a.tmps (w.setCell p1 (.int .u8 y1)) F1 fp1:=by
  have k1:=Zho hT (o:=stO o ty (.tmp t1') y1) (κ:=κ) (x:=.tmp t1') (y:=.const (.int .u8 y1)) rfl rfl hE1
  have hw:=k1 w0 F0 X0 κ1' σ a w F fp some x1' (fun a1 w1=>∃F1 fp1,St w0 F0 X0 κ1' (σ.set E1'.tgt x1') a1.tmps w1 F1 fp1) (fun _ _ _=>True) h hκ1 (lc hl1) hx1 (fun x v w' F' fp' hst hk=>by cases hk;exact ⟨F',fp',hst⟩)
  unfold Oper.wp at hw
  rw[Zl3 ht hsz a1 rfl c1 f1] at hw
  exact hw
 have hl2':Zcv κ1' (σ.set E1'.tgt x1') (.tmp t2'):=Zg hlv2 (by simp)
 obtain ⟨c2',hc2'⟩:∃c,(w.setCell p1 (.int .u8 y1)).cell? p2=some c:=by
  by_cases hpp:p1=p2
  ·subst hpp
   exact ⟨_,World.cell?_setCell_same w p1 _ c1⟩
  ·exact ⟨_,(World.cell?_setCell_other w p1 p2 _ hpp).trans c2⟩
 have f2':(w.setCell p1 (.int .u8 y1)).frozen? p2=false:=by rw[World.frozen?_setCell];exact f2
 obtain ⟨F2,fp2,hs2⟩:∃F2 fp2,St w0 F0 X0 κ2' ((σ.set E1'.tgt x1').set E2'.tgt x2') a.tmps ((w.setCell p1 (.int .u8 y1)).setCell p2 (.int .u8 y2)) F2 fp2:=by
  have k2:=Zho hT (o:=stO o ty (.tmp t2') y2) (κ:=κ1') (x:=.tmp t2') (y:=.const (.int .u8 y2)) rfl rfl hE2
  have hw:=k2 w0 F0 X0 κ2' (σ.set E1'.tgt x1') a (w.setCell p1 (.int .u8 y1)) F1 fp1 some x2' (fun a1 w1=>∃F1 fp1,St w0 F0 X0 κ2' ((σ.set E1'.tgt x1').set E2'.tgt x2') a1.tmps w1 F1 fp1) (fun _ _ _=>True) hs1 hκ2 (lc hl2') hx2 (fun x v w' F' fp' hst hk=>by cases hk;exact ⟨F',fp',hst⟩)
  unfold Oper.wp at hw
  rw[Zl3 ht hsz a2 rfl hc2' f2'] at hw
  exact hw
 have hs3:=hs2.same_heap (w':=w') e4 e1 e2 e3
 have:=hs3.putA (d:=d') (k:=ptRk) (x:=.tup [.bool b1,.bool b2]) (v:=.tuple #[.bool b1,.bool b2]) (l:=[]) hdl (Adds.refl w' hs3.fl) List.nodup_nil
  ⟨#[.bool b1,.bool b2],[.bool b1,.bool b2],[[],[]],rfl,rfl,.cons ⟨.bool _,rfl⟩ (fun hc=>by cases hc) (.cons ⟨.bool _,rfl⟩ (fun hc=>by cases hc) .nil),rfl⟩ (by simp) (fun _=>Zdf rfl _ _) (fun q hq=>by cases hq)
 refine hK (.tuple #[.bool b1,.bool b2]) w' F2 (fun s=>if s=d' then [] else fp2 s) ?_
 rw[hd]
 exact this
end
def mxV (mx:Bool):PV→PV→Option PV
 |.int k x,.int k' y=>if k=k' then some (.int k (if mx then (if y>x then y else x) else (if y<x then y else x))) else none
 |_,_=>none
def ZtE {R:Type} (d:Nat) (mx:Bool) (x y:SV):Option (Eff R):=
 if x.isV∧y.isV then some (Zp d (.ck .val) (ZcD fun x y=>mxV mx x.v y.v)) else none
def Zr1 {R:Type} (T:Tab) (d:Nat) (t:TypeId) (x:SV):Option (Eff R):=
 match T.lookup t with
 | some ti=>
  match ti.desc with
  |.slice _=>if x.k=.ck .nil then some (Zp d (.ck .val) (Zb4 fun _=>some (.int .i64 0))) else none
  |_=>none
 |none=>none
def Zr2 (te:TI) (x:PV):Option PV:=
 match x with
 |.int _ n=>if 0<n∧n≤4294967296 then some (.lst (List.replicate n.toNat (ZaN te))) else none
 |_=>none
def ZoM {R:Type} (T:Tab) (d:Nat) (t t2:TypeId) (s x:SV):Option (Eff R):=
 match T.lookup t,T.lookup t2 with
 | some ti,some ti2=>
  match ti.desc,ti2.desc with
  | .slice e,.int _=>
   match T.lookup e with
   |none=>none
   |some te=>if s.k=.ck .nil∧x.isV∧te.size≠0∧te.bytes≤32768∧(te.agg=true∨te.size=1)∧(te.zero.all fun z=>z≠.other)=true then some (Zp d (.ck (.own true e te.size)) (ZcD fun _ x=>Zr2 te x.v)) else none
  |_,_=>none
 |_,_=>none
def ZiK {R:Type} (T:Tab) (d:Nat) (t t2:TypeId) (s x:SV):Option (Eff R):=
 match Zka T d t t2 s x with
 |some E=>some E
 |none=>ZoM T d t t2 s x
def ZvS (x:SV) (dx dh:DV):Option PV:=(Zi x dx).bind fun l=>(Zkf l.length (some dh.v)).map fun h=>.lst (l.take h)
def ZtF (x h:PV):Option PV:=
 match x with
 |.lst l=>(Zkf l.length (some h)).map fun h=>.lst (l.take h)
 |_=>none
def ZoN {R:Type} (T:Tab) (d:Nat) (t:TypeId) (x hi:SV):Option (Eff R):=
 match T.lookup t with
 |none=>none
 | some ti=>
  match ti.desc with
  | .slice e=>
   match T.lookup e with
   |none=>none
   | some te=>
    if hi.isV then
     match ZbH x,Zcm x with
     |some (some (true,e',sz)),some (q,i)=>if q=d∨e'≠e∨sz≠te.size then none else some {gh:=[⟨q,i,false,true,e',sz⟩],tgt:=d,put:=true,k:=.ck (.own true e' sz),cut:=.no,dyn:=ZcD (ZvS x)}
     |_,_=>if x.k=.ck .nil then some (Zp d (.ck .nil) (ZcD fun dx dh=>ZtF dx.v dh.v)) else none
    else none
  |_=>none
def Zkn {R:Type} (T:Tab) (d:Nat) (t:TypeId) (x:SV) (lo hi:Option SV):Option (Eff R):=
 match lo,hi with
 | none,some h=>match ZoN T d t x h with
  |some E=>some E
  |none=>Zjs T d t x none (some h)
 |lo,hi=>Zjs T d t x lo hi
def Zev {R:Type} (T:Tab) (d:Nat) (t:TypeId) (len:Nat) (parts:List (Nat×Operand)) (svs:List SV):Option (Eff R):=
 match Zfk T d t len parts svs with
 |some E=>some E
 | none=>
  match T.lookup t with
  |none=>none
  | some ti=>
   match ti.desc with
   | .slice e=>
    match T.lookup e with
    |none=>none
    | some te=>
     if parts.length=len∧Zp9 0 parts=true∧ZcR false (List.replicate svs.length (.ck .val)) svs=true∧te.size≠0∧len * te.size≤65536 then
      some {gh:=Zfl svs,tgt:=d,put:=true,k:=.ck (.own true e te.size),cut:=.no,dyn:=fun ds kk=>(Za1 svs ds).bind fun xs=>if xs.all (ZaG te.size)=true then kk (.lst xs) else none}
     else none
   |_=>none
section
variable {R :Type} {P:Program} {T:Tab} {o:Oper} {κ κ1:List Kd} {E:Eff R}
variable {w0 :World} {F0:Nat→Prop} {X0:List Nat} {σ:List PV} {a:Act} {w:World} {F F1:Nat→Prop} {fp fp1:Nat→List Nat}
theorem Zqr {mx:Bool} {ts:Array TypeId} {x y:Operand} {d:Nat} (hop:o.op=.call {callee:=.builtin (if mx then .max else .min),args:= #[x,y],argTypes:=ts}) (hd:o.dst=some d) (hE:ZtE d mx (sv κ x) (sv κ y)=some E):Zat P o κ E:=by
 unfold ZtE at hE
 split at hE
 case isFalse=>cases hE
 rename_i hv
 cases hE
 refine Za2 hd rfl rfl rfl fun w0 F0 X0 σ a w F fp kk r h htt hlv hdy=> ?_
 have hdy':((mxV mx (dv κ σ x).v (dv κ σ y).v).bind kk)=some r:=by simpa[hop,Op.operands,Call.operands,Zp,ZcD] using hdy
 obtain ⟨z,hz,hkk⟩:=Option.bind_eq_some_iff.1 hdy'
 have hx:=rdS h hv.1
 have hy:=rdS h hv.2
 unfold mxV at hz
 split at hz
 case h_2=>cases hz
 rename_i k m k' n e1 e2
 split at hz
 case isFalse=>cases hz
 rename_i hkk'
 subst hkk'
 cases hz
 rw[e1] at hx
 rw[e2] at hy
 have hx:=hx.int_eq
 have hy:=hy.int_eq
 refine ⟨_,_, ?_,hkk,.int _ _⟩
 obtain ⟨cs,hcs⟩:=ZbE (P:=P) hop a.eval w
 rw[hcs]
 cases mx
 ·simp[builtin,hx,hy,run_min_int2]
 ·simp[builtin,hx,hy,run_max_int2]
theorem Zur (hT:TabOk P T) {t:TypeId} {x:Operand} {d:Nat} (hop:o.op=.call {callee:=.builtin .cap,args:= #[x],argTypes:= #[t]}) (hd:o.dst=some d) (hE:Zr1 T d t (sv κ x)=some E):Zat P o κ E:=by
 unfold Zr1 at hE
 split at hE
 case h_2=>cases hE
 rename_i ti hi
 obtain ⟨ht⟩:=hT.ty hi
 split at hE
 case h_2=>cases hE
 rename_i e hds
 have hus:=ZaM ht hds
 split at hE
 case isFalse=>cases hE
 rename_i hk
 cases hE
 refine Za2 hd rfl rfl rfl fun w0 F0 X0 σ a w F fp kk r h htt hlv hdy=> ?_
 have hkk:kk (.int .i64 0)=some r:=by simpa[hop,Op.operands,Call.operands,Zp,Zb4] using hdy
 obtain ⟨l,_,hsr⟩:=h.at' x (by rw[hk];simp)
 rw[hk] at hsr
 obtain ⟨_,hx,_⟩:=hsr
 refine ⟨_,_, ?_,hkk,.int _ _⟩
 obtain ⟨cs,hcs⟩:=ZbE (P:=P) hop a.eval w
 rw[hcs]
 simp[builtin,hx,Builtin.cap_,run_underlying hus]
 rfl
theorem Zr3 (hT:TabOk P T) {t t2:TypeId} {s x:Operand} {d:Nat} (hop:o.op=.call {callee:=.builtin .append,args:= #[s,x],argTypes:= #[t,t2]}) (hd:o.dst=some d) (hE:ZoM T d t t2 (sv κ s) (sv κ x)=some E):Zat P o κ E:=by
 unfold ZoM at hE
 split at hE
 case h_2=>cases hE
 rename_i ti ti2 hi hi2
 obtain ⟨ht⟩:=hT.ty hi
 obtain ⟨ht2⟩:=hT.ty hi2
 split at hE
 case h_2=>cases hE
 rename_i e kn hds hds2
 have hus:=ZaM ht hds
 have hus2:=Zeu ht2 hds2
 split at hE
 case h_1=>cases hE
 rename_i te hte
 obtain ⟨he⟩:=hT.ty hte
 split at hE
 case isFalse=>cases hE
 rename_i hc
 obtain ⟨c1,c2,c3,c4,c5,c6⟩:=hc
 cases hE
 refine Z9 hd rfl rfl fun w0 F0 X0 σ a w F fp kk r h htt hlv hdy=> ?_
 have hdy':((Zr2 te (dv κ σ x).v).bind kk)=some r:=by simpa[hop,Op.operands,Call.operands,Zp,ZcD] using hdy
 obtain ⟨z,hz,hkk⟩:=Option.bind_eq_some_iff.1 hdy'
 have hx:=rdS h c2
 obtain ⟨_,_,hsr⟩:=h.at' s (by rw[c1];simp)
 rw[c1] at hsr
 obtain ⟨_,hs0,_⟩:=hsr
 unfold Zr2 at hz
 split at hz
 case h_2=>cases hz
 rename_i k n hv
 rw[hv] at hx
 have hx:=hx.int_eq
 split at hz
 case isFalse=>cases hz
 rename_i hn
 cases hz
 obtain ⟨m,rfl⟩:∃m:Nat,n=m:=⟨n.toNat,by omega⟩
 have hm0:0<m:=by omega
 have hby:m * he.row.bytes≤281474976710656:=by
  rw[he.hbytes]
  have:m * te.bytes≤4294967296 * 32768:=Nat.mul_le_mul (by omega) c4
  omega
 have hmx:m≤maxLen:=by unfold maxLen;omega
 have hsz:0<he.row.size:=by rw[he.hsize];omega
 have hr:=Lib.run_append_nil_zeros (P:=P) w t t2 o.type e he.row he.zv k kn hus hus2 he.hrow he.hz m hm0 hsz (by omega) hby
 have hge:=grownCap_ge w m 0 e
 have hcm:=grownCap_le_maxLen w m 0 e hmx
 have hzs:he.zv.cells.size=te.size:=he.hzs
 obtain ⟨obj,hobj⟩:∃obj,obj=Obj.cells (Builtin.zeroCells he.zv.cells m++Builtin.zeroCells he.zv.cells (grownCap w m 0 e - m)) e:=⟨_,rfl⟩
 obtain ⟨u,z1,z2,z3,z4⟩:=ZoD he c6 c5 (w:=w.drew.alloc obj) (F:=F)
 have hus':u.cells.size=te.size:=by rw[z2];exact he.hzs
 have hrun:(execOp a.eval o).run P w=.ok (.value (.slice (some ⟨w.heap.size,0,none⟩) m (grownCap w m 0 e))) (w.drew.alloc obj):=by
  obtain ⟨cs,hcs⟩:=ZbE (P:=P) hop a.eval w
  rw[hcs,hobj]
  simp[builtin,hx,hs0,hr]
 refine ⟨_,.slice (some ⟨w.heap.size,0,none⟩) m (grownCap w m 0 e),_,F,[w.heap.size],hrun,hkk,(Adds.refl w h.fl).drew.alloc _,by simp,⟨_,rfl,.inr ⟨w.heap.size,grownCap w m 0 e,_,(0,0), ?_,rfl,by rw[hobj];exact heap_alloc_new w.drew _,fun _=>rfl,.inl (Nat.le_refl _), ?_,hcm, ?_,fun i y hy=> ?_⟩⟩,fun b hb=> ?_,fun _=>trivial,fun q hq=>by simp[Zp,Kd.bdep] at hq⟩
 ·simp
 ·simpa using hge
 ·simp only[Array.size_append,size_zeroCells,hzs,←Nat.add_mul]
  congr 1
  omega
 ·have hi:i<m:=by have:=(List.getElem?_eq_some_iff.1 hy).1;simpa using this
  have hy':y=ZaN te:=by
   rw[List.getElem?_replicate] at hy
   simp only[Int.toNat_natCast,hi,if_true,Option.some.injEq] at hy
   exact hy.symm
  subst hy'
  refine ⟨z3,z4,u,z1,fun j c hcc=> ?_⟩
  have hj:j<te.size:=by rw[←hus'];exact (Array.getElem?_eq_some_iff.1 hcc).1
  have hlt:i * te.size+j<m * te.size:=by
   have:(i+1) * te.size≤m * te.size:=Nat.mul_le_mul_right _ hi
   rw[Nat.succ_mul] at this
   omega
  rw[Array.getElem?_append_left (by rw[size_zeroCells,hzs];exact hlt)]
  unfold Builtin.zeroCells
  rw[Array.getElem?_map,Array.getElem?_range,if_pos (by rw[hzs];exact hlt)]
  simp only[Option.map_some,Option.some.injEq]
  have e1:(i * te.size+j) % he.zv.cells.size=j:=by rw[he.hzs,Nat.mul_comm,Nat.mul_add_mod,Nat.mod_eq_of_lt hj]
  rw[e1]
  rw[z2] at hcc
  obtain ⟨hlt2,rfl⟩:=Array.getElem?_eq_some_iff.1 hcc
  exact getElem!_pos he.zv.cells j hlt2
 ·simp at hb;subst hb;exact ⟨Nat.le_refl _,by simp,fun hc=>by have:=h.fl _ hc;omega⟩
theorem Znl (hT:TabOk P T) {t t2:TypeId} {s x:Operand} {d:Nat} (hop:o.op=.call {callee:=.builtin .append,args:= #[s,x],argTypes:= #[t,t2]}) (hd:o.dst=some d) (hE:ZiK T d t t2 (sv κ s) (sv κ x)=some E):Zat P o κ E:=by
 unfold ZiK at hE
 split at hE
 ·rename_i E' hE'
  cases hE
  exact ZoB hT hop hd hE'
 ·exact Zr3 hT hop hd hE
theorem Zr4 (hT:TabOk P T) {t:TypeId} {x hi:Operand} {d:Nat} (hop:o.op=.slice t x none (some hi) none) (hd:o.dst=some d) (hE:ZoN T d t (sv κ x) (sv κ hi)=some E):Zat P o κ E:=by
 have hops:o.op.operands.toList=[x,hi]:=by rw[hop];rfl
 unfold ZoN at hE
 split at hE
 case h_1=>cases hE
 rename_i ti hti
 obtain ⟨ht⟩:=hT.ty hti
 split at hE
 case h_2=>cases hE
 rename_i e hds
 have hus:=ZaM ht hds
 split at hE
 case h_1=>cases hE
 rename_i te hte
 obtain ⟨he⟩:=hT.ty hte
 split at hE
 case isFalse=>cases hE
 rename_i hhv
 have hel:P.elem t=e:=by simp[Program.elem,hus]
 have hus':P.underlying t=some (.slice (P.elem t)):=by rw[hel];exact hus
 have run:∀(w0:World) (F0:Nat→Prop) (X0:List Nat) (σ:List PV) (a:Act) (w:World) (F:Nat→Prop) (fp:Nat→List Nat),St w0 F0 X0 κ σ a.tmps w F fp→∀(A:Option Addr) (n c hh:Nat),a.eval x=.slice A n c→n≤c→Zkf n (some (dv κ σ hi).v)=some hh→
  (execOp a.eval o).run P w=.ok (.value (sliced A 0 hh c te.size)) w∧hh≤n:=by
  intro w0 F0 X0 σ a w F fp h A n c hh hx hnc hb
  have hu:=rdS h hhv
  have e2:∀z,some (dv κ σ hi).v=some z→∃v,some (a.eval hi)=some v∧∀k i,z=.int k i→v=.int k i:=fun z hz=>⟨_,rfl,fun k i ee=>by
   simp only[Option.some.injEq] at hz
   rw[hz,ee] at hu
   exact hu.int_eq⟩
  obtain ⟨r1,r2,r3⟩:=ZlS (P:=P) (c:=c) hnc (isS:=true) (lo:=none) (vl:=none) (l:=0) hb rfl (fun z hz=>by cases hz) (fun _=>rfl) e2 (fun hc=>by cases hc) w
  refine ⟨?_,r3⟩
  have h4:=he.run_sizeOf w
  simp only[execOp,hop,Option.map_none,Option.map_some,Sem.run_bind,run_sliceAt_slice w t _ _ _ _ hus']
  rw[hx,run_slice_any w t A n c hus',r1]
  simp[hel,h4]
 split at hE
 ·rename_i e' sz q i hK hA
  split at hE
  ·cases hE
  rename_i hne
  simp only[not_or,Decidable.not_not] at hne
  obtain ⟨hqd,rfl,rfl⟩:=hne
  cases hE
  refine Zdz hd rfl fun w0 F0 X0 κ1 σ a w F F1 fp fp1 kk r h h1 htt hgh hF hall hlv hdy=> ?_
  rw[hops] at hdy
  obtain ⟨z,hz,hkk⟩:=Option.bind_eq_some_iff.1 (show (ZvS (sv κ x) (dv κ σ x) (dv κ σ hi)).bind kk=some r from hdy)
  unfold ZvS at hz
  obtain ⟨l,hl,hz⟩:=Option.bind_eq_some_iff.1 hz
  obtain ⟨hh,hb,rfl⟩:=Option.map_eq_some_iff.1 hz
  have hlx:Zcv κ σ x:=Zg hlv (by rw[hops];exact .head _)
  obtain ⟨q',i',lb,q1,q2,q3,q4⟩:=Zd8 h (x:=x) hlx (l:=l) hl hK
  obtain ⟨y',v0,l',lb',m1,m2,m3,m4,m5⟩:=hall _ (List.mem_singleton.2 rfl)
  simp only[Bool.false_eq_true,if_false] at m5
  have hv0:=ZhU h hlx hA m1
  subst hv0
  have hlb:=q2.lb_eq m3
  subst hlb
  have hst:Stays w F w F1:=⟨hF,fun _ _=>rfl⟩
  have hrow:=q2.keep hst fun _ _=>rfl
  rcases hrow with ⟨g1,rfl,g3⟩|⟨g,cap,cur,fr,g1,g2,g3,g4,g5,g6,g7,g8,g9⟩
  ·obtain ⟨r1,r2⟩:=run w0 F0 X0 σ a w F fp h none 0 0 hh g1 (Nat.le_refl _) hb
   refine ⟨_,_,w,F1,[],r1,hkk,rfl,rfl,rfl,Nat.le_refl _,fun _ _ _=>rfl,fun _ h=>h,fun _ h=>.inl h,h1.fl,List.nodup_nil,⟨_,rfl,.inl ⟨?_,by simp,rfl⟩⟩,by simp,fun _=>trivial,fun q hq=>by simp[Kd.bdep] at hq⟩
   have:hh=0:=by omega
   subst this
   simp[sliced]
  ·obtain ⟨r1,r2⟩:=run w0 F0 X0 σ a w F fp h (some ⟨g,0,none⟩) l.length cap hh g1 g6 hb
   have hlen:(l.take hh).length=hh:=by simp;omega
   refine ⟨_,_,w,F1,lb,r1,hkk,rfl,rfl,rfl,Nat.le_refl _,fun _ _ _=>rfl,fun _ h=>h,fun _ h=>.inl h,h1.fl,m4,⟨_,rfl,.inr ⟨g,cap,cur,fr, ?_,g2,g3,g4,g5,by rw[hlen];omega,g7,g8,fun i y hy=> ?_⟩⟩,fun b hb=>⟨.inr (m5 b hb),(h1.pr _ b (m5 b hb)).1,(h1.pr _ b (m5 b hb)).2.1⟩,fun _=>trivial,fun q hq=>by simp[Kd.bdep] at hq⟩
   ·rw[hlen];simp[sliced,Addr.add]
   ·refine g9 i y ?_
    rw[List.getElem?_take] at hy
    split at hy
    ·exact hy
    ·cases hy
 ·split at hE
  case isFalse=>cases hE
  rename_i hk
  cases hE
  refine Z9 hd rfl rfl fun w0 F0 X0 σ a w F fp kk r h htt hlv hdy=> ?_
  rw[hops] at hdy
  obtain ⟨z,hz,hkk⟩:=Option.bind_eq_some_iff.1 (show (ZtF (dv κ σ x).v (dv κ σ hi).v).bind kk=some r from hdy)
  obtain ⟨l,_,hsr⟩:=h.at' x (by rw[hk];simp)
  rw[hk] at hsr
  obtain ⟨hv,hx,_⟩:=hsr
  rw[hv] at hz
  obtain ⟨hh,hb,rfl⟩:=Option.map_eq_some_iff.1 (show (Zkf 0 (some (dv κ σ hi).v)).map (fun h=>PV.lst (([]:List PV).take h))=some z from hz)
  obtain ⟨r1,r2⟩:=run w0 F0 X0 σ a w F fp h none 0 0 hh hx (Nat.le_refl _) hb
  have:hh=0:=by omega
  subst this
  refine ⟨_,_,w,F,[],r1,hkk,Adds.refl w h.fl,List.nodup_nil,⟨by simp,by simp[sliced],rfl⟩,by simp,fun _=>trivial,fun q hq=>by have hq:(none:Option Nat)=some q:=hq;cases hq⟩
theorem ZoO (hT:TabOk P T) {t:TypeId} {x:Operand} {lo hi:Option Operand} {d:Nat} (hop:o.op=.slice t x lo hi none) (hd:o.dst=some d) (hE:Zkn T d t (sv κ x) (lo.map (sv κ)) (hi.map (sv κ))=some E):Zat P o κ E:=by
 unfold Zkn at hE
 cases lo with
 | none=>
  cases hi with
  |none=>exact Zhh hT hop hd hE
  | some h=>
   simp only[Option.map_none,Option.map_some] at hE
   split at hE
   ·rename_i E' hE'
    cases hE
    exact Zr4 hT hop hd hE'
   ·exact Zhh hT hop hd hE
 |some l=>exact Zhh hT hop hd hE
theorem Zl4 {w:World} {F:Nat→Prop}:∀{xs:List PV} {vs:List Value} {n:Nat},ArgsR w F (List.replicate n (.ck .val)) xs vs→n=xs.length∧vs.length=xs.length∧∀(i:Nat) (x:PV),xs[i]?=some x→∃v,vs[i]?=some v∧VR w F x v
 |xs,vs,0,h=>by cases h;exact ⟨rfl,rfl,by simp⟩
 | xs,vs,n+1,h=>by
  cases h with
  | cons h hu ht=>
   obtain ⟨e1,e2,e3⟩:=Zl4 ht
   refine ⟨by simp[e1],by simp[e2],fun i x hx=> ?_⟩
   cases i with
   |zero=>simp at hx;subst hx;exact ⟨_,rfl,h.1⟩
   |succ i=>simpa using e3 i x (by simpa using hx)
theorem ZjB (hT:TabOk P T) {t:TypeId} {len:Nat} {parts:Array (Nat×Operand)} {d:Nat} (hop:o.op=.buildSlice t len parts) (hd:o.dst=some d) (hE:Zev T d t len parts.toList (o.op.operands.toList.map (sv κ))=some E):Zat P o κ E:=by
 unfold Zev at hE
 split at hE
 ·rename_i E' hE'
  cases hE
  exact Zkd hT hop hd hE'
 have hops:o.op.operands.toList=parts.toList.map (·.2):=by rw[hop];simp[Op.operands]
 rw[hops] at hE
 split at hE
 case h_1=>cases hE
 rename_i ti hi
 obtain ⟨ht⟩:=hT.ty hi
 split at hE
 case h_2=>cases hE
 rename_i e hds
 have hus:=ZaM ht hds
 split at hE
 case h_1=>cases hE
 rename_i te hte
 obtain ⟨he⟩:=hT.ty hte
 split at hE
 case isFalse=>cases hE
 rename_i hc
 obtain ⟨c1,c2,c3,c4,c5⟩:=hc
 cases hE
 refine Zdz hd rfl fun w0 F0 X0 κ1 σ a w F F1 fp fp1 kk r h h1 htt hgh hF hall hlv hdy=> ?_
 rw[hops] at hdy
 obtain ⟨xs,hxs,hdy⟩:=Option.bind_eq_some_iff.1 hdy
 split at hdy
 case isFalse=>cases hdy
 rename_i hok
 have hlive:∀x∈parts.toList.map (·.2),Zcv κ σ x:=fun x hx=>Zg hlv (by rw[hops];exact hx)
 have hargs:=Zeq (sc:=false) h (List.replicate ((parts.toList.map (·.2)).map (sv κ)).length (.ck .val)) (parts.toList.map (·.2)) xs hlive c3 hxs F1 hF (fun hc=>by cases hc) fun x hx app e' sz q i l lb g1 g2 g3 g4 b hb=>by
  obtain ⟨y',v0,l',lb',m1,m2,m3,m4,m5⟩:=hall _ (ZiI (parts.toList.map (·.2)) hx g1 g2)
  simp only[if_true] at m5
  have hv0:=ZhU h (hlive x hx) g2 m1
  subst hv0
  have hlb:=g3.lb_eq m3
  subst hlb
  exact m5.2 b hb
 obtain ⟨n1,n2,n3⟩:=Zl4 hargs
 simp only[List.length_map] at n1 n2
 have hvs:(parts.toList.map (·.2)).map a.eval=parts.toList.map (fun p=>a.eval p.2):=by rw[List.map_map];rfl
 rw[hvs] at n3
 have hel:∀(i:Nat) (y:PV),xs[i]?=some y→∃v,(parts.toList.map (fun p=>a.eval p.2))[i]?=some v∧VR w F1 y v∧y.width=te.size∧y≠.undef:=fun i y hy=>by
  obtain ⟨v,e1,e2⟩:=n3 i y hy
  have h2:=List.all_eq_true.1 hok y (List.mem_of_getElem? hy)
  obtain ⟨cl,hcl⟩:=Option.isSome_iff_exists.1 h2
  obtain ⟨_,_,h3,h4⟩:=Zcw hcl
  exact ⟨v,e1,e2,h3,h4⟩
 have hcl:∀(v:Value),v∈parts.toList.map (fun p=>a.eval p.2)→v.cells.size=te.size:=fun v hv=>by
  obtain ⟨i,hi⟩:=List.mem_iff_getElem?.1 hv
  have hil:i<xs.length:=by
   have:=(List.getElem?_eq_some_iff.1 hi).1
   simp only[List.length_map] at this
   omega
  obtain ⟨v',e1,e2,e3,e4⟩:=hel i xs[i] (List.getElem?_eq_getElem hil)
  rw[hi] at e1
  cases e1
  rw[←(e2.cells e4).1];exact e3
 have hlen:xs.length=len:=by omega
 have hparts:(parts.map fun (i,x)=>(i,a.eval x)).toList=((parts.toList.map fun p=>a.eval p.2).zipIdx 0).map fun x=>(x.2,x.1):=by
  rw[←Zkc parts.toList 0 c2 a.eval]
  simp
 have hfin:∀(cells:Array Value),cells.size=len * te.size→(∀(k:Nat),k<len * te.size→cells[k]?=(((parts.toList.map fun p=>a.eval p.2)[k / te.size]?).bind fun v=>v.cells[k % te.size]?))→
  (Instr.buildSlice t len (parts.map fun (i,x)=>(i,a.eval x))).run P w=.ok (.slice (some ⟨w.heap.size,0,none⟩) len len) (w.alloc (.cells cells e))→
  ∃ (x:PV) (v:Value) (w':World) (F':Nat→Prop) (l:List Nat),(execOp a.eval o).run P w=.ok (.value v) w'∧kk x=some r∧
   w'.os=w.os∧w'.tape=w.tape∧w'.output=w.output∧w.heap.size≤w'.heap.size∧(∀b,b<w.heap.size→(b∉fp1 d∨Zfl ((parts.toList.map (·.2)).map (sv κ))=[])→w'.heap[b]?=w.heap[b]?)∧
   (∀b,F1 b→F' b)∧(∀b,F' b→F1 b∨w.heap.size≤b∨b∈fp1 d)∧(∀b,F' b→b<w'.heap.size)∧
   l.Nodup∧SR w' F' (.ck (.own true e te.size)) x v l∧(∀b∈l,(w.heap.size≤b∨b∈fp1 d)∧b<w'.heap.size∧¬F' b)∧
   (x≠.undef→Al (a.tmps.setIfInBounds d v) w' (.ck (.own true e te.size)) x v)∧(∀q,(Kd.ck (.own true e te.size)).bdep=some q→q≠d∧(kd κ1 q).isBox=true):=by
  intro cells hcs hcell hrun
  have hA:=(Adds.refl w h1.fl).alloc (.cells cells e)
  refine ⟨_,.slice (some ⟨w.heap.size,0,none⟩) len len,_,F1,[w.heap.size],by simp[execOp,hop,hrun],hdy,hA.os,hA.tape,hA.output,hA.size,fun b hb _=>hA.block b hb,fun _ h=>h,fun _ h=>.inl h,hA.lt,by simp,
   ⟨_,rfl,.inr ⟨w.heap.size,len,cells,(0,0),by rw[hlen],rfl,heap_alloc_new w _,fun _=>rfl,.inl (Nat.le_refl _),by rw[hlen];exact Nat.le_refl _, ?_,hcs,fun i y hy=> ?_⟩⟩,fun b hb=> ?_,fun _=>trivial,fun q hq=>by simp[Kd.bdep] at hq⟩
  ·have:len≤len * te.size:=Nat.le_mul_of_pos_right _ (by omega)
   unfold maxLen;omega
  ·obtain ⟨v,q1,q2,q3,q4⟩:=hel i y hy
   refine ⟨q3,q4,v,q2.keep (hA.stays h1.fl),fun j c hc=> ?_⟩
   have hj:j<te.size:=by rw[←q3,(q2.cells q4).1];exact (Array.getElem?_eq_some_iff.1 hc).1
   have hi:i<len:=by rw[←hlen];exact (List.getElem?_eq_some_iff.1 hy).1
   have:(i+1) * te.size≤len * te.size:=Nat.mul_le_mul_right _ hi
   rw[Nat.succ_mul] at this
   rw[hcell _ (by omega)]
   have e1:(i * te.size+j) / te.size=i:=by rw[Nat.mul_comm,Nat.mul_add_div (by omega),Nat.div_eq_of_lt hj,Nat.add_zero]
   have e2:(i * te.size+j) % te.size=j:=by rw[Nat.mul_comm,Nat.mul_add_mod,Nat.mod_eq_of_lt hj]
   rw[e1,e2,q1]
   exact hc
  ·simp at hb;subst hb;exact ⟨.inl (Nat.le_refl _),by simp,fun hc=>by have:=h1.fl _ hc;omega⟩
 by_cases hl0:len=0
 ·subst hl0
  have hp0:parts= #[]:=by
   have:parts.toList=[]:=List.eq_nil_of_length_eq_zero c1
   simpa using this
  refine hfin #[] (by simp) (fun k hk=>by simp at hk) ?_
  have h2:=he.run_sizeOf w
  have h3:Array.range 0= #[]:=by simp[Array.range]
  simp[Instr.buildSlice,underlying,hus,h2,hp0,Instr.fill,newRow,h3]
 ·have hpos:¬len * te.size=0:=Nat.mul_ne_zero hl0 c4
  obtain ⟨cells,f1,f2,f3⟩:=Great.fill_dense (s:=te.size) (by omega) (parts.toList.map fun p=>a.eval p.2) 0 ((Array.range (len * te.size)).map (he.zv.cells[· % he.zv.cells.size]!)) hcl (by simp[c1])
  refine hfin cells (by rw[f2];simp) (fun k hk=> ?_) ?_
  ·rw[f3 k]
   rw[if_pos ⟨by omega,by rw[List.length_map,c1,Nat.zero_add];exact hk⟩,Nat.sub_zero]
  ·refine run_buildSlice w t e len _ cells he.row he.zv hus he.hrow he.hz (by rw[he.hsize];omega) (by rw[he.hsize];exact hpos) ?_
   rw[he.hsize,hparts]
   exact f1
end
section
variable {R :Type} {P:Program} {T:Tab} {o:Oper} {κ:List Kd} {E:Eff R}
def pvS :Value→Option PV
 |.int k n=>some (.int k n)
 |.string s=>some (.str s.data.toList)
 |_=>none
theorem pvS_ok {w:World} {F:Nat→Prop} {v:Value} {x:PV} (h:pvS v=some x):VR w F x v∧x.one=true:=by
 unfold pvS at h
 split at h
 ·cases h;exact ⟨.int _ _,rfl⟩
 ·rename_i s
  cases h
  have:=VR.str (w:=w) (F:=F) s.data.toList
  rw[Array.toArray_toList] at this
  exact ⟨this,rfl⟩
 ·cases h
def ZvT (l:List Value):PV→Option PV
 |.int _ n=>if 0≤n then (l[n.toNat]?).bind pvS else none
 |_=>none
def tabG (g:Nat) (y:PV):Option PV:=match GT.lookup g with|some l=>ZvT l y|none=>none
def Zl5 {R:Type} (T:Tab) (d:Nat) (t:TypeId) (g:Nat) (i:SV):Option (Eff R):=
 match GA.lookup t,GT.lookup g with
 | some (n,e),some l=>
  match T.lookup e with
  |some te=>if te.size=1∧l.length=n∧i.isV=true then some (Zp d .ipt (ZcD fun x y=>(tabG g y.v).map fun p=>.agg [p])) else none
  |none=>none
 |_,_=>none
theorem ZiL {α β:Type} [BEq α] [LawfulBEq α] {a:α} {b:β}:∀{l:List (α×β)},l.lookup a=some b→(a,b)∈l
 |[],h=>by cases h
 | (c,e)::r,h=>by
  simp only[List.lookup] at h
  split at h
  ·rename_i he
   cases h
   rw[eq_of_beq he];exact List.mem_cons_self
  ·exact List.mem_cons_of_mem _ (ZiL h)
theorem ZvU {t e:TypeId} {te:TI} {n:Nat} (hu:P.underlying t=some (.array n e)) (he:TyOk P e te) {b:Nat} {k:IntKind} {i:Int} (h0:0≤i) (hn:i<n) (w:World):
 (Instr.indexAt t (.pointer (some ⟨b,0,none⟩)) (.int k i)).run P w=.ok (.pointer (some ⟨b,0+i.toNat * te.size,none⟩)) w:=by
 have h1:=he.run_sizeOf w
 simp[Instr.indexAt,asIntOf,underlying,hu,h0,hn,h1,Addr.add_lit,Instr.sureAddr]
theorem Zqs (hT:TabOk P T) {t:TypeId} {g:Nat} {i:Operand} {d:Nat} (hop:o.op=.indexAddr t (.global g) i) (hd:o.dst=some d) (hE:Zl5 T d t g (sv κ i)=some E):Zat P o κ E:=by
 have hops:o.op.operands.toList=[.global g,i]:=by rw[hop];rfl
 unfold Zl5 at hE
 split at hE
 case h_2=>cases hE
 rename_i n e l hga hgt
 split at hE
 case h_2=>cases hE
 rename_i te hte
 split at hE
 case isFalse=>cases hE
 rename_i hc
 obtain ⟨hsz,hlen,hiv⟩:=hc
 cases hE
 obtain ⟨he⟩:=hT.ty hte
 have hu:=hT.arr t n e (ZiL hga)
 refine Z9 hd rfl rfl fun w0 F0 X0 σ a w F fp kk r h htt hlv hdy=> ?_
 rw[hops] at hdy
 obtain ⟨z,hz,hkk⟩:=Option.bind_eq_some_iff.1 (show ((tabG g (dv κ σ i).v).map fun p=>PV.agg [p]).bind kk=some r from hdy)
 obtain ⟨p,hp,rfl⟩:=Option.map_eq_some_iff.1 hz
 have hii:=rdS h hiv
 have hp:ZvT l (dv κ σ i).v=some p:=by
  have:tabG g (dv κ σ i).v=some p:=hp
  unfold tabG at this
  rw[hgt] at this
  exact this
 unfold ZvT at hp
 split at hp
 case h_2=>cases hp
 rename_i k m em
 split at hp
 case isFalse=>cases hp
 rename_i hm
 rw[em] at hii
 have hii:=hii.int_eq
 obtain ⟨v,hv,hpv⟩:=Option.bind_eq_some_iff.1 hp
 have hlt:=(List.getElem?_eq_some_iff.1 hv).1
 obtain ⟨hFg,TT,fr,cs,hw,hcs⟩:=h.gk g l (ZiL hgt)
 have hrun:=ZvU hu he (b:=g) (k:=k) hm (show m<(n:Int) by omega) w
 have hev:a.eval (.global g)=.pointer (some ⟨g,0,none⟩):=rfl
 refine ⟨_,.pointer (some ⟨g,0+m.toNat * te.size,none⟩),w,F,[],by simp[execOp,hop,hev,hii,hrun],hkk,Adds.refl w h.fl,List.nodup_nil,⟨fun _=>⟨g,0+m.toNat * te.size,[p],rfl,rfl,hFg,fun j y hy=> ?_⟩,rfl⟩,by simp,fun _=>trivial,fun q hq=>by simp[Zp,Kd.bdep] at hq⟩
 cases j with
 |succ j=>simp at hy
 | zero=>
  simp only[List.getElem?_cons_zero,Option.some.injEq] at hy
  subst hy
  have h2:=pvS_ok (w:=w) (F:=F) hpv
  refine ⟨h2.2,v, ?_,h2.1⟩
  rw[cell_of_row w g _ cs TT fr hw,hsz,←Array.getElem?_toList,hcs]
  simpa using hv
def ZoP {R:Type} (T:Tab) (d:Nat) (t:TypeId) (x:Operand) (xs i:SV):Option (Eff R):=
 match x with
 |.global g=>Zl5 T d t g i
 |_=>Zsd T d t xs i
theorem Zr5 (hT:TabOk P T) {t:TypeId} {x i:Operand} {d:Nat} (hop:o.op=.indexAddr t x i) (hd:o.dst=some d) (hE:ZoP T d t x (sv κ x) (sv κ i)=some E):Zat P o κ E:=by
 unfold ZoP at hE
 split at hE
 ·exact Zqs hT hop hd hE
 ·exact Zuy hT hop hd hE
end
end Go.Proofs.YtkgnjijonikchaaGreat
