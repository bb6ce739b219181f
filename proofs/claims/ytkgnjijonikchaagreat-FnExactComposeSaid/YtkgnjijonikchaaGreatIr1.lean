import Derived.Below
import Derived.Deep.Draws
import Derived.Laws.Strings
import Derived.LoopN
import Derived.WalkKit
namespace Go.Proofs.YtkgnjijonikchaaGreat
open Go.RowKit
set_option linter.unusedVariables false
set_option linter.unusedSimpArgs false
def GT :List (Nat×List Value):=[]
def GA :List (TypeId×Nat×TypeId):=[]
def GOk (w:World) (F:Nat→Prop):Prop:=∀(g:Nat) (l:List Value),(g,l)∈GT→F g∧∃(T:TypeId) (fr:Nat×Nat) (cs:Array Value),w.heap[g]?=some (.cells cs T fr)∧cs.toList=l
structure FOk (w:World) (F:Nat→Prop):Prop where
 lt:∀b,F b→b<w.heap.size
 gk:GOk w F
instance {w :World} {F:Nat→Prop}:CoeFun (FOk w F) (fun _=>∀b,F b→b<w.heap.size):=⟨FOk.lt⟩
theorem gok0 {w:World} {F:Nat→Prop}:GOk w F:=by
 intro g l h
 cases h
inductive PV where
 |undef
 |bool (b:Bool)
 |int (k:IntKind) (n:Int)
 |str (s:List UInt8)
 |lst (l:List PV)
 |agg (l:List PV)
 |tup (l:List PV)
 |map (l:List (PV×PV))
 deriving Inhabited
def PV.cells :PV→List PV
 |.agg l=>l
 |x=>[x]
def PV.width :PV→Nat
 |.agg l=>l.length
 |_=>1
theorem PV.length_cells (x:PV):x.cells.length=x.width:=by cases x<;>rfl
def PV.one :PV→Bool
 |.agg _|.tup _|.undef=>false
 |_=>true
inductive VR (w:World) (F:Nat→Prop):PV→Value→Prop
 |undef:VR w F .undef Go.undef
 |bool (b:Bool):VR w F (.bool b) (.bool b)
 |int (k:IntKind) (n:Int):VR w F (.int k n) (.int k n)
 |str (s:List UInt8):VR w F (.str s) (.string ⟨s.toArray⟩)
 | lst (l:List PV) (A:Option Addr) (c sz:Nat) (vs:Nat→Value) (h1:l.length≤c) (h2:c≤maxLen)
  (h3:l≠[]→∃b off,A=some ⟨b,off,none⟩∧F b∧∀i,i<l.length→∀j u,(vs i).cells[j]?=some u→w.cell? ⟨b,off+i * sz+j,none⟩=some u)
  (h4:∀(i:Nat) (x:PV),l[i]?=some x→x.width=sz∧(vs i).cells.size=sz) (h5:∀(i:Nat) (x:PV),l[i]?=some x→VR w F x (vs i)):VR w F (.lst l) (.slice A l.length c)
 | map (l:List (PV×PV)) (b clock:Nat) (es:Array MapEntry) (hb:F b) (hw:w.heap[b]?=some (.map es clock)) (hl:l.length=es.size)
  (hk:∀(i:Nat) (p:PV×PV) (e:MapEntry),l[i]?=some p→es[i]?=some e→VR w F p.1 e.key) (hx:∀(i:Nat) (p:PV×PV) (e:MapEntry),l[i]?=some p→es[i]?=some e→VR w F p.2 e.val):VR w F (.map l) (.map (some b))
 |agg (l:List PV) (cs:Array Value) (h1:l.length=cs.size) (h2:∀(i:Nat) (x:PV),l[i]?=some x→x.one=true) (h3:∀(i:Nat) (x:PV),l[i]?=some x→VR w F x (cs.getD i Go.undef)):VR w F (.agg l) (.agg cs)
structure Stays (w:World) (F:Nat→Prop) (w':World) (F':Nat→Prop):Prop where
 sub:∀b,F b→F' b
 same:∀b,F b→w'.heap[b]?=w.heap[b]?
theorem Stays.refl (w:World) (F:Nat→Prop):Stays w F w F:=⟨fun _ h=>h,fun _ _=>rfl⟩
theorem Stays.trans {w w1 w2:World} {F F1 F2:Nat→Prop} (h:Stays w F w1 F1) (k:Stays w1 F1 w2 F2):Stays w F w2 F2:=
 ⟨fun b hb=>k.sub b (h.sub b hb),fun b hb=>(k.same b (h.sub b hb)).trans (h.same b hb)⟩
theorem VR.keep {w w':World} {F F':Nat→Prop} {x:PV} {v:Value} (h:VR w F x v) (hs:Stays w F w' F'):VR w' F' x v:=by
 induction h with
 |undef=>exact .undef
 |bool b=>exact .bool b
 |int k n=>exact .int k n
 |str s=>exact .str s
 | lst l A c sz vs h1 h2 h3 h4 h5 ih=>
  refine .lst l A c sz vs h1 h2 (fun hl=> ?_) h4 ih
  obtain ⟨b,off,e,hb,hc⟩:=h3 hl
  exact ⟨b,off,e,hs.sub b hb,fun i hi j u hj=>(World.cell?_of_block (w:=w) (a:=⟨b,_,none⟩) (hs.same b hb)).trans (hc i hi j u hj)⟩
 |map l b clock es hb hw hl hk hx ihk ihx=>exact .map l b clock es (hs.sub b hb) ((hs.same b hb).trans hw) hl ihk ihx
 |agg l cs h1 h2 h3 ih=>exact .agg l cs h1 h2 ih
theorem VR.cells {w:World} {F:Nat→Prop} {x:PV} {v:Value} (h:VR w F x v) (hu:x≠.undef):x.width=v.cells.size∧∀(i:Nat) (y:PV),x.cells[i]?=some y→y.one=true∧VR w F y (v.cells.getD i Go.undef):=by
 cases h with
 |undef=>exact absurd rfl hu
 |bool b=>exact ⟨rfl,fun i y hy=>by cases i<;>simp[PV.cells] at hy;subst hy;exact ⟨rfl,.bool b⟩⟩
 |int k n=>exact ⟨rfl,fun i y hy=>by cases i<;>simp[PV.cells] at hy;subst hy;exact ⟨rfl,.int k n⟩⟩
 |str s=>exact ⟨rfl,fun i y hy=>by cases i<;>simp[PV.cells] at hy;subst hy;exact ⟨rfl,.str s⟩⟩
 |lst l A c sz vs h1 h2 h3 h4 h5=>exact ⟨rfl,fun i y hy=>by cases i<;>simp[PV.cells] at hy;subst hy;exact ⟨rfl,.lst l A c sz vs h1 h2 h3 h4 h5⟩⟩
 |map l b clock es hb hw hl hk hx=>exact ⟨rfl,fun i y hy=>by cases i<;>simp[PV.cells] at hy;subst hy;exact ⟨rfl,.map l b clock es hb hw hl hk hx⟩⟩
 |agg l cs h1 h2 h3=>exact ⟨h1,fun i y hy=>⟨h2 i y hy,h3 i y hy⟩⟩
theorem VR.of_cells {w:World} {F:Nat→Prop} {l:List PV} {cs:Array Value} (h1:l.length=cs.size) (h2:∀(i:Nat) (x:PV),l[i]?=some x→x.one=true∧VR w F x (cs.getD i Go.undef)):VR w F (.agg l) (.agg cs):=
 .agg l cs h1 (fun i x h=>(h2 i x h).1) (fun i x h=>(h2 i x h).2)
theorem VR.int_eq {w:World} {F:Nat→Prop} {k:IntKind} {n:Int} {v:Value} (h:VR w F (.int k n) v):v=.int k n:=by cases h;rfl
theorem VR.bool_eq {w:World} {F:Nat→Prop} {b:Bool} {v:Value} (h:VR w F (.bool b) v):v=.bool b:=by cases h;rfl
theorem VR.str_eq {w:World} {F:Nat→Prop} {s:List UInt8} {v:Value} (h:VR w F (.str s) v):v=.string ⟨s.toArray⟩:=by cases h;rfl
theorem VR.oneCell {w:World} {F:Nat→Prop} {x:PV} {v:Value} (h:VR w F x v) (ho:x.one=true):v.cells= #[v]:=by
 cases h<;>first|rfl|(simp[PV.one] at ho)
inductive CK where
 |none
 |val
 |nil
 |own (app:Bool) (e:TypeId) (sz:Nat)
 deriving DecidableEq
inductive Place where
 |slot (q:Nat)
 |cell (q off:Nat)
 deriving DecidableEq
inductive Kd where
 |ck (c:CK)
 |box (T:TypeId) (ks:List CK)
 |grp (tup:Bool) (ks:List CK)
 |ali (p:Place)
 |elm (p:Place) (sz off:Nat)
 |bxf (q off:Nat)
 |ipt
 |clo (f:FuncId)
 |cln (f:FuncId)
 |mp (k e:TypeId)
 |tgr (sh:List (Option Nat)) (ks:List CK)
 |tip
 |mbx (s:Nat)
 deriving DecidableEq
def ZcK (w:World) (F:Nat→Prop) (sz:Nat) (l:List PV) (cur:Array Value):Prop:=
 ∀(i:Nat) (x:PV),l[i]?=some x→x.width=sz∧x≠.undef∧∃u:Value,VR w F x u∧∀(j:Nat) (c:Value),u.cells[j]?=some c→cur[i * sz+j]?=some c
def ZbV (w:World) (F:Nat→Prop) (app:Bool) (e:TypeId) (sz:Nat) (l:List PV) (v:Value) (fp:List Nat):Prop:=
 (v=.slice none 0 0∧l=[]∧fp=[])∨
 ∃ (g cap:Nat) (cur:Array Value) (fr:Nat×Nat),v=.slice (some ⟨g,0,none⟩) l.length cap∧fp=[g]∧w.heap[g]?=some (.cells cur e fr)∧(app=true→fr=(0,0))∧(fr.2≤fr.1∨cur.size≤fr.1)∧
  l.length≤cap∧cap≤maxLen∧cur.size=cap * sz∧ZcK w F sz l cur
def CR (w:World) (F:Nat→Prop):CK→PV→Value→List Nat→Prop
 |.none,_,_,fp=>fp=[]
 |.val,x,v,fp=>VR w F x v∧fp=[]
 |.nil,x,v,fp=>x=.lst []∧v=.slice none 0 0∧fp=[]
 |.own app e sz,x,v,fp=>∃l,x=.lst l∧ZbV w F app e sz l v fp
inductive GrpR (w:World) (F:Nat→Prop) (one:Bool):List CK→List PV→List Value→List (List Nat)→Prop
 |nil:GrpR w F one [] [] [] []
 | cons {k:CK} {x:PV} {v:Value} {fp:List Nat} {ks:List CK} {xs:List PV} {vs:List Value} {fps:List (List Nat)}
  (h:CR w F k x v fp) (ho:one=true→x.one=true) (ht:GrpR w F one ks xs vs fps):GrpR w F one (k::ks) (x::xs) (v::vs) (fp::fps)
inductive MapR (w:World) (F:Nat→Prop):List (PV×PV)→List MapEntry→Prop
 |nil:MapR w F [] []
 |cons {k x:PV} {e:MapEntry} {l:List (PV×PV)} {es:List MapEntry} (hk:VR w F k e.key) (hx:VR w F x e.val) (ht:MapR w F l es):MapR w F ((k,x)::l) (e::es)
def Znm (w:World) (F:Nat→Prop) (x:PV) (v:Value):Prop:=
 ∃(b off:Nat) (xs:List PV),v=.pointer (some ⟨b,off,none⟩)∧x=.agg xs∧F b∧∀(j:Nat) (y:PV),xs[j]?=some y→y.one=true∧∃c,w.cell? ⟨b,off+j,none⟩=some c∧VR w F y c
def Znn :List (Option Nat)→List PV→List Value→Prop
 |[],[],[]=>True
 |none::sh,x::xs,v::vs=>x.one=true∧v.cells= #[v]∧Znn sh xs vs
 |some n::sh,x::xs,v::vs=>(∃l c,x=.agg l∧v=.agg c∧l.length=n∧c.size=n)∧Znn sh xs vs
 |_,_,_=>False
def Zdv (xs:List PV):List PV:=xs.flatMap PV.cells
def ZdV (vs:List Value):List Value:=vs.flatMap fun v=>v.cells.toList
def SR (w:World) (F:Nat→Prop):Kd→PV→Value→List Nat→Prop
 |.ck c,x,v,fp=>CR w F c x v fp
 |.box T ks,x,v,fp=>∃(b:Nat) (cs:Array Value) (xs:List PV) (fps:List (List Nat)),v=.pointer (some ⟨b,0,none⟩)∧x=.agg xs∧w.heap[b]?=some (.cells cs T (0,0))∧GrpR w F true ks xs cs.toList fps∧fp=b::fps.flatten
 |.grp tup ks,x,v,fp=>∃(cs:Array Value) (xs:List PV) (fps:List (List Nat)),v=(if tup then .tuple cs else .agg cs)∧x=(if tup then .tup xs else .agg xs)∧GrpR w F (!tup) ks xs cs.toList fps∧fp=fps.flatten
 |.ipt,x,v,fp=>(x≠.undef→Znm w F x v)∧fp=[]
 |.clo f,x,v,fp=>∃(caps:Array Value) (xs:List PV),v=.func (.func f) #[] caps∧x=.tup xs∧xs.length=caps.size∧(∀(i:Nat) (y:PV),xs[i]?=some y→Znm w F y (caps.getD i Go.undef))∧fp=[]
 |.cln f,x,v,fp=>(∃(caps:Array Value) (xs:List PV),v=.func (.func f) #[] caps∧x=.tup xs∧xs.length=caps.size∨x=.undef)∧fp=[]
 |.mp _ _,x,v,fp=>∃(b clock:Nat) (es:Array MapEntry) (l:List (PV×PV)),v=.map (some b)∧x=.map l∧w.heap[b]?=some (.map es clock)∧MapR w F l es.toList∧fp=[b]
 |.tgr sh ks,x,v,fp=>∃(cs:Array Value) (xs:List PV) (fps:List (List Nat)),v=.tuple cs∧x=.tup xs∧Znn sh xs cs.toList∧GrpR w F true ks (Zdv xs) (ZdV cs.toList) fps∧fp=fps.flatten
 |.tip,x,v,fp=>(∃(p u:Value) (xs:List PV) (y:PV),v=.tuple #[p,u]∧x=.tup [.agg xs,y]∧Znm w F (.agg xs) p∧VR w F y u)∧fp=[]
 |.mbx _,x,v,fp=>(∃b,v=.pointer (some ⟨b,0,none⟩)∧F b)∧fp=[]
 |.ali _,_,_,fp|.elm _ _ _,_,_,fp|.bxf _ _,_,_,fp=>fp=[]
section
variable {w w':World} {F F':Nat→Prop}
theorem GOk.keep (h:GOk w F) (hs:Stays w F w' F'):GOk w' F':=fun g l hg=>by
 obtain ⟨h1,T,fr,cs,h2,h3⟩:=h g l hg
 exact ⟨hs.sub g h1,T,fr,cs,(hs.same g h1).trans h2,h3⟩
theorem GOk.mono (h:GOk w F) (hF:∀b,F b→F' b):GOk w F':=h.keep ⟨hF,fun _ _=>rfl⟩
theorem ZcK.keep {sz:Nat} {l:List PV} {cur:Array Value} (h:ZcK w F sz l cur) (hs:Stays w F w' F'):ZcK w' F' sz l cur:=fun i x hx=>by
 obtain ⟨h1,h2,u,h3,h4⟩:=h i x hx
 exact ⟨h1,h2,u,h3.keep hs,h4⟩
theorem ZbV.keep {app:Bool} {e:TypeId} {sz:Nat} {l:List PV} {v:Value} {fp:List Nat} (h:ZbV w F app e sz l v fp) (hs:Stays w F w' F') (hb:∀b∈fp,w'.heap[b]?=w.heap[b]?):ZbV w' F' app e sz l v fp:=by
 rcases h with h|⟨g,cap,cur,fr,h1,h2,h3,h4,h5,h6,h7,h8,h9⟩
 ·exact .inl h
 ·exact .inr ⟨g,cap,cur,fr,h1,h2,by rw[hb g (by simp[h2])];exact h3,h4,h5,h6,h7,h8,h9.keep hs⟩
theorem CR.keep {k:CK} {x:PV} {v:Value} {fp:List Nat} (h:CR w F k x v fp) (hs:Stays w F w' F') (hb:∀b∈fp,w'.heap[b]?=w.heap[b]?):CR w' F' k x v fp:=by
 cases k with
 |none=>exact h
 |val=>exact ⟨h.1.keep hs,h.2⟩
 |nil=>exact h
 |own app e sz=>obtain ⟨l,e1,hr⟩:=h;exact ⟨l,e1,hr.keep hs hb⟩
theorem GrpR.keep {one:Bool} {ks:List CK} {xs:List PV} {vs:List Value} {fps:List (List Nat)} (h:GrpR w F one ks xs vs fps) (hs:Stays w F w' F') (hb:∀b∈fps.flatten,w'.heap[b]?=w.heap[b]?):GrpR w' F' one ks xs vs fps:=by
 induction h with
 |nil=>exact .nil
 |cons h ho ht ih=>exact .cons (h.keep hs fun b hb'=>hb b (by simp[hb'])) ho (ih fun b hb'=>hb b (by simp only[List.flatten_cons,List.mem_append];exact .inr hb'))
theorem Znm.keep {x:PV} {v:Value} (h:Znm w F x v) (hs:Stays w F w' F'):Znm w' F' x v:=by
 obtain ⟨b,off,xs,h1,h2,h3,h4⟩:=h
 refine ⟨b,off,xs,h1,h2,hs.sub b h3,fun j y hy=> ?_⟩
 obtain ⟨h5,c,h6,h7⟩:=h4 j y hy
 exact ⟨h5,c,(World.cell?_of_block (w:=w) (a:=⟨b,_,none⟩) (hs.same b h3)).trans h6,h7.keep hs⟩
theorem MapR.keep {l:List (PV×PV)} {es:List MapEntry} (h:MapR w F l es) (hs:Stays w F w' F'):MapR w' F' l es:=by
 induction h with
 |nil=>exact .nil
 |cons hk hx ht ih=>exact .cons (hk.keep hs) (hx.keep hs) ih
theorem SR.keep {k:Kd} {x:PV} {v:Value} {fp:List Nat} (h:SR w F k x v fp) (hs:Stays w F w' F') (hb:∀b∈fp,w'.heap[b]?=w.heap[b]?):SR w' F' k x v fp:=by
 cases k with
 |ck c=>exact CR.keep h hs hb
 | box T ks=>
  obtain ⟨b,cs,xs,fps,h1,h2,h3,h4,h5⟩:=h
  subst h5
  exact ⟨b,cs,xs,fps,h1,h2,by rw[hb b (by simp)];exact h3,h4.keep hs fun c hc=>hb c (by simp only[List.mem_cons];exact .inr hc),rfl⟩
 | grp tup ks=>
  obtain ⟨cs,xs,fps,h1,h2,h3,h4⟩:=h
  subst h4
  exact ⟨cs,xs,fps,h1,h2,h3.keep hs hb,rfl⟩
 |ipt=>exact ⟨fun hx=>(h.1 hx).keep hs,h.2⟩
 | clo f=>
  obtain ⟨caps,xs,h1,h2,h3,h4,h5⟩:=h
  exact ⟨caps,xs,h1,h2,h3,fun i y hy=>(h4 i y hy).keep hs,h5⟩
 |cln f=>exact h
 | mp kt et=>
  obtain ⟨b,clock,es,l,h1,h2,h3,h4,h5⟩:=h
  subst h5
  exact ⟨b,clock,es,l,h1,h2,by rw[hb b (by simp)];exact h3,h4.keep hs,rfl⟩
 | tgr sh ks=>
  obtain ⟨cs,xs,fps,h1,h2,h3,h4,h5⟩:=h
  subst h5
  exact ⟨cs,xs,fps,h1,h2,h3,h4.keep hs hb,rfl⟩
 | tip=>
  obtain ⟨⟨p,u,xs,y,h1,h2,h3,h4⟩,h5⟩:=h
  exact ⟨⟨p,u,xs,y,h1,h2,h3.keep hs,h4.keep hs⟩,h5⟩
 | mbx s=>
  obtain ⟨⟨b,h1,h2⟩,h3⟩:=h
  exact ⟨⟨b,h1,hs.sub b h2⟩,h3⟩
 |ali p=>exact h
 |elm p sz off=>exact h
 |bxf q off=>exact h
theorem GrpR.lens {one:Bool} {ks:List CK} {xs:List PV} {vs:List Value} {fps:List (List Nat)} (h:GrpR w F one ks xs vs fps):ks.length=xs.length∧vs.length=xs.length∧fps.length=xs.length:=by
 induction h with
 |nil=>exact ⟨rfl,rfl,rfl⟩
 |cons _ _ _ ih=>simp[ih.1,ih.2.1,ih.2.2]
theorem GrpR.at {one:Bool} {ks:List CK} {xs:List PV} {vs:List Value} {fps:List (List Nat)} (h:GrpR w F one ks xs vs fps):∀(i:Nat) (x:PV),xs[i]?=some x→∃k v fp,ks[i]?=some k∧vs[i]?=some v∧fps[i]?=some fp∧CR w F k x v fp∧(one=true→x.one=true):=by
 induction h with
 |nil=>intro i x hx;simp at hx
 | cons h ho ht ih=>
  intro i x hx
  cases i with
  |zero=>simp at hx;subst hx;exact ⟨_,_,_,rfl,rfl,rfl,h,ho⟩
  |succ i=>simpa using ih i x (by simpa using hx)
theorem GrpR.set {one:Bool} {ks:List CK} {xs:List PV} {vs:List Value} {fps:List (List Nat)} (h:GrpR w F one ks xs vs fps) (i:Nat) {k:CK} {x:PV} {v:Value} {fp:List Nat} (hc:CR w F k x v fp) (ho:one=true→x.one=true):
 GrpR w F one (ks.set i k) (xs.set i x) (vs.set i v) (fps.set i fp):=by
 induction h generalizing i with
 |nil=>exact .nil
 | cons h ho' ht ih=>
  cases i with
  |zero=>exact .cons hc ho ht
  |succ i=>exact .cons h ho' (ih i)
end
def kd (κ:List Kd) (s:Nat):Kd:=κ.getD s (.ck .none)
def vl (σ:List PV) (s:Nat):PV:=σ.getD s .undef
def tv (τ:Array Value) (s:Nat):Value:=τ.getD s Go.undef
def PlV (τ:Array Value) (w:World):Place→Value→Prop
 |.slot q,v=>tv τ q=v
 |.cell q off,v=>∃b,tv τ q=.pointer (some ⟨b,0,none⟩)∧w.cell? ⟨b,off,none⟩=some v
def Al (τ:Array Value) (w:World):Kd→PV→Value→Prop
 |.ali p,_,v=>PlV τ w p v
 |.elm p sz off,x,v=>∃(i b n cap:Nat),x=.int .i64 i∧i<n∧PlV τ w p (.slice (some ⟨b,0,none⟩) n cap)∧v=.pointer (some ⟨b,i * sz+off,none⟩)
 |.bxf q off,_,v=>∃b,tv τ q=.pointer (some ⟨b,0,none⟩)∧v=.pointer (some ⟨b,off,none⟩)
 |.mbx s,_,v=>∃b,v=.pointer (some ⟨b,0,none⟩)∧w.cell? ⟨b,0,none⟩=some (tv τ s)
 |.cln f,x,v=>∃(caps:Array Value) (xs:List PV),v=.func (.func f) #[] caps∧x=.tup xs∧xs.length=caps.size∧∀(i:Nat) (y:PV),xs[i]?=some y→Znm w (fun b=>b<w.heap.size) y (caps.getD i Go.undef)
 |_,_,_=>True
def Place.of :Place→Nat
 |.slot q=>q
 |.cell q _=>q
def ZoQ :Nat:=4294967291
def Kd.isCln :Kd→Bool
 |.cln _=>true
 |_=>false
def Kd.dep :Kd→Option Nat
 |.ali p|.elm p _ _=>some p.of
 |.bxf q _=>some q
 |.mbx s=>some s
 |.cln _=>some ZoQ
 |_=>none
def Kd.bdep :Kd→Option Nat
 |.ali (.cell q _)|.elm (.cell q _) _ _|.bxf q _=>some q
 |_=>none
def Kd.isBox :Kd→Bool
 |.box _ _=>true
 |_=>false
def Zl6 (κ:List Kd) (d:Nat):List Kd:=κ.map fun k=>if k.dep=some d then .ck .none else k
def Zds (κ:List Kd) (d:Nat) (k:Kd):List Kd:=(Zl6 κ d).set d k
structure St (w0:World) (F0:Nat→Prop) (X0:List Nat) (κ:List Kd) (σ:List PV) (τ:Array Value) (w:World) (F:Nat→Prop) (fp:Nat→List Nat):Prop where
 lk:κ.length=τ.size
 ls:σ.length=τ.size
 sr:∀s,∃l:List Nat,l.Nodup∧(∀b∈l,b∈fp s)∧SR w F (kd κ s) (vl σ s) (tv τ s) l
 al:∀s,vl σ s≠.undef→Al τ w (kd κ s) (vl σ s) (tv τ s)
 bx:∀s q,(kd κ s).bdep=some q→(kd κ q).isBox=true
 dj:∀s t b,s≠t→b∈fp s→b∈fp t→False
 pr:∀s b,b∈fp s→b<w.heap.size∧¬F b∧(w0.heap.size≤b∨b∈X0)
 fl:∀b,F b→b<w.heap.size
 os:w.os=w0.os
 tape:w.tape=w0.tape
 output:w.output=w0.output
 size:w0.heap.size≤w.heap.size
 kept:∀b,b<w0.heap.size→b∉X0→w.heap[b]?=w0.heap[b]?
 stay:Stays w0 F0 w F
 fnew:∀b,F b→F0 b∨w0.heap.size≤b∨b∈X0
 gk:GOk w F
theorem Zl7 (κ:List Kd) (d s:Nat) (k:Kd):kd (κ.set d k) s=if s=d∧d<κ.length then k else kd κ s:=by
 unfold kd
 rw[List.getD_eq_getElem?_getD,List.getD_eq_getElem?_getD,List.getElem?_set]
 by_cases h:d=s
 ·subst h
  by_cases hl:d<κ.length<;>simp[hl]
 ·have h':¬s=d:=fun e=>h e.symm
  simp[h,h']
theorem ZbG (σ:List PV) (d s:Nat) (x:PV):vl (σ.set d x) s=if s=d∧d<σ.length then x else vl σ s:=by
 unfold vl
 rw[List.getD_eq_getElem?_getD,List.getD_eq_getElem?_getD,List.getElem?_set]
 by_cases h:d=s
 ·subst h
  by_cases hl:d<σ.length<;>simp[hl]
 ·have h':¬s=d:=fun e=>h e.symm
  simp[h,h']
theorem Zcl (τ:Array Value) (d s:Nat) (v:Value):tv (τ.setIfInBounds d v) s=if s=d∧d<τ.size then v else tv τ s:=by
 unfold tv
 rw[Array.getD_eq_getD_getElem?,Array.getD_eq_getD_getElem?,Array.getElem?_setIfInBounds]
 by_cases h:d=s
 ·subst h
  by_cases hl:d<τ.size<;>simp[hl]
 ·have h':¬s=d:=fun e=>h e.symm
  simp[h,h']
theorem ZvV (κ:List Kd) (d s:Nat):kd (Zl6 κ d) s=if (kd κ s).dep=some d then .ck .none else kd κ s:=by
 unfold kd Zl6
 rw[List.getD_eq_getElem?_getD,List.getD_eq_getElem?_getD,List.getElem?_map]
 cases κ[s]? with
 |none=>simp[Kd.dep]
 |some k=>simp
theorem ZoR (κ:List Kd) (d:Nat):(Zl6 κ d).length=κ.length:=by simp[Zl6]
theorem ZeS (κ:List Kd) (d s:Nat) (k:Kd) (hd:d<κ.length):kd (Zds κ d k) s=if s=d then k else if (kd κ s).dep=some d then .ck .none else kd κ s:=by
 unfold Zds
 rw[Zl7,ZoR,ZvV]
 by_cases h:s=d<;>simp[h,hd]
def noCln (b:Bool) (κ:List Kd):List Kd:=match b with|true=>κ.map fun k=>if k.isCln then .ck .none else k|false=>κ
theorem ZA (b:Bool) (κ:List Kd):(noCln b κ).length=κ.length:=by cases b<;>simp[noCln]
theorem ZbW (b:Bool) (κ:List Kd) (s:Nat):kd (noCln b κ) s=if (b&&(kd κ s).isCln)=true then .ck .none else kd κ s:=by
 cases b
 ·simp[noCln]
 ·unfold kd noCln
  rw[List.getD_eq_getElem?_getD,List.getD_eq_getElem?_getD,List.getElem?_map]
  cases κ[s]? with
  |none=>simp
  |some k=>simp
theorem Zc5 (κ:List Kd) (s:Nat):(kd (noCln true κ) s).isCln=false:=by
 rw[ZbW]
 split
 ·rfl
 ·rename_i h;simpa using h
theorem ZeT (b:Bool) (κ:List Kd) (s:Nat):(kd (noCln b κ) s).isBox=(kd κ s).isBox:=by
 rw[ZbW]
 split
 ·rename_i h
  cases hk:kd κ s<;>rw[hk] at h<;>simp[Kd.isCln] at h
  rfl
 ·rfl
theorem ZkP (κ:List Kd) (d:Nat) (k:Kd):(Zds κ d k).length=κ.length:=by simp[Zds,Zl6]
structure Adds (w:World) (F:Nat→Prop) (w':World) (F':Nat→Prop):Prop where
 os:w'.os=w.os
 tape:w'.tape=w.tape
 output:w'.output=w.output
 size:w.heap.size≤w'.heap.size
 block:∀b,b<w.heap.size→w'.heap[b]?=w.heap[b]?
 sub:∀b,F b→F' b
 new:∀b,F' b→F b∨w.heap.size≤b
 lt:∀b,F' b→b<w'.heap.size
section
variable {w w1 w2:World} {F F1 F2:Nat→Prop}
theorem Adds.refl (w:World) {F:Nat→Prop} (hF:∀b,F b→b<w.heap.size):Adds w F w F:=⟨rfl,rfl,rfl,Nat.le_refl _,fun _ _=>rfl,fun _ h=>h,fun _ h=>.inl h,hF⟩
theorem Adds.trans (h:Adds w F w1 F1) (k:Adds w1 F1 w2 F2):Adds w F w2 F2:=
 ⟨k.os.trans h.os,k.tape.trans h.tape,k.output.trans h.output,Nat.le_trans h.size k.size,fun b hb=>(k.block b (Nat.lt_of_lt_of_le hb h.size)).trans (h.block b hb),fun b hb=>k.sub b (h.sub b hb),
  fun b hb=>by rcases k.new b hb with h'|h';exact h.new b h';exact .inr (Nat.le_trans h.size h'),k.lt⟩
theorem Adds.stays (h:Adds w F w1 F1) (hF:∀b,F b→b<w.heap.size):Stays w F w1 F1:=⟨h.sub,fun b hb=>h.block b (hF b hb)⟩
theorem Adds.drew (h:Adds w F w1 F1):Adds w F w1.drew F1:=⟨h.os,h.tape,h.output,h.size,h.block,h.sub,h.new,h.lt⟩
theorem Adds.alloc (h:Adds w F w1 F1) (o:Obj):Adds w F (w1.alloc o) F1:=
 ⟨h.os,h.tape,h.output,by rw[World.size_alloc];have:=h.size;omega,fun b hb=>(Below.heap_alloc w1 o b (Nat.lt_of_lt_of_le hb h.size)).trans (h.block b hb),h.sub,h.new,fun b hb=>by rw[World.size_alloc];have:=h.lt b hb;omega⟩
end
section
variable {w0 :World} {F0:Nat→Prop} {X0:List Nat} {κ κ':List Kd} {σ σ':List PV} {τ τ':Array Value} {w w1:World} {F F1:Nat→Prop} {fp fp':Nat→List Nat}
theorem Zus {k:Kd} {x:PV} {v:Value} {l:List Nat} (h:SR w F k x v l) (hk:k.isBox=true):∀b,v=.pointer (some ⟨b,0,none⟩)→b∈l:=by
 cases k<;>simp[Kd.isBox] at hk
 obtain ⟨b,cs,xs,fps,h1,h2,h3,h4,h5⟩:=h
 intro c hc
 rw[h1] at hc
 simp at hc
 subst hc
 simp[h5]
theorem Al.keep (h:St w0 F0 X0 κ σ τ w F fp) {k:Kd} {x:PV} {v:Value} (ha:Al τ w k x v) (hq:∀q,k.dep=some q→tv τ' q=tv τ q)
 (hb:∀q,k.bdep=some q→(kd κ q).isBox=true∧∀b∈fp q,w1.heap[b]?=w.heap[b]?) (hc:k.isCln=true→w.heap.size≤w1.heap.size∧∀b,b<w.heap.size→w1.heap[b]?=w.heap[b]?) (hx:∃l,SR w F k x v l) (hf:∀b,F b→w1.heap[b]?=w.heap[b]?):Al τ' w1 k x v:=by
 have pl:∀(p:Place) (u:Value),tv τ' p.of=tv τ p.of→(∀q off,p=.cell q off→(kd κ q).isBox=true∧∀b∈fp q,w1.heap[b]?=w.heap[b]?)→PlV τ w p u→PlV τ' w1 p u:=by
  intro p u e1 e2 hp
  cases p with
  |slot q=>exact (e1.trans hp)
  | cell q off=>
   obtain ⟨b,h1,h2⟩:=hp
   obtain ⟨hk,hbb⟩:=e2 q off rfl
   obtain ⟨l,_,hl,hsr⟩:=h.sr q
   have hm:=hl b (Zus hsr hk b h1)
   exact ⟨b,e1.trans h1,(World.cell?_of_block (w:=w) (a:=⟨b,off,none⟩) (hbb b hm)).trans h2⟩
 cases k with
 |ali p=>exact pl p v (hq _ rfl) (fun q off e=>by subst e;exact hb q rfl) ha
 | elm p sz off=>
  obtain ⟨i,b,n,cap,h1,h2,h3,h4⟩:=ha
  exact ⟨i,b,n,cap,h1,h2,pl p _ (hq _ rfl) (fun q off e=>by subst e;exact hb q rfl) h3,h4⟩
 | bxf q off=>
  obtain ⟨b,h1,h2⟩:=ha
  exact ⟨b,(hq q rfl).trans h1,h2⟩
 |ck c=>trivial
 |box T ks=>trivial
 |grp t ks=>trivial
 |ipt=>trivial
 |clo f=>trivial
 |mp kt et=>trivial
 |tgr sh ks=>trivial
 |tip=>trivial
 | mbx s=>
  obtain ⟨b,h1,h2⟩:=ha
  obtain ⟨l,⟨b',e,hb'⟩,_⟩:=hx
  rw[h1] at e
  simp at e
  subst e
  exact ⟨b,h1,by rw[hq s rfl];exact (World.cell?_of_block (w:=w) (a:=⟨b,0,none⟩) (hf b hb')).trans h2⟩
 | cln f=>
  obtain ⟨caps,xs,h1,h2,h3,h4⟩:=ha
  obtain ⟨hc1,hc2⟩:=hc rfl
  exact ⟨caps,xs,h1,h2,h3,fun i y hy=>(h4 i y hy).keep ⟨fun b hb=>Nat.lt_of_lt_of_le hb hc1,hc2⟩⟩
theorem St.gen (h:St w0 F0 X0 κ σ τ w F fp) (M:Nat→Prop) (hlk:κ'.length=κ.length) (hls:σ'.length=σ.length) (hlt:τ'.size=τ.size)
 (hos:w1.os=w.os) (htape:w1.tape=w.tape) (hout:w1.output=w.output) (hsize:w.heap.size≤w1.heap.size)
 (hblock:∀b,b<w.heap.size→¬M b→w1.heap[b]?=w.heap[b]?) (hM:∀b,M b→¬F b∧(w0.heap.size≤b∨b∈X0))
 (hsub:∀b,F b→F1 b) (hnew:∀b,F1 b→F b∨w.heap.size≤b∨∃s,b∈fp s) (hlt1:∀b,F1 b→b<w1.heap.size)
 (hs:∀s,(kd κ' s=kd κ s∧vl σ' s=vl σ s∧tv τ' s=tv τ s∧fp' s=fp s∧∀b∈fp s,¬M b)∨(∃l:List Nat,l.Nodup∧(∀b∈l,b∈fp' s)∧SR w1 F1 (kd κ' s) (vl σ' s) (tv τ' s) l))
 (hal:∀s,vl σ' s≠.undef→Al τ' w1 (kd κ' s) (vl σ' s) (tv τ' s)) (hbx:∀s q,(kd κ' s).bdep=some q→(kd κ' q).isBox=true)
 (hdj:∀s t b,s≠t→b∈fp' s→b∈fp' t→False)
 (hpr:∀s b,b∈fp' s→b<w1.heap.size∧¬F1 b∧((∃t,b∈fp t)∨w.heap.size≤b)):St w0 F0 X0 κ' σ' τ' w1 F1 fp':=by
 have hst:Stays w F w1 F1:=⟨hsub,fun b hb=>hblock b (h.fl b hb) fun hm=>(hM b hm).1 hb⟩
 refine ⟨by rw[hlk,hlt];exact h.lk,by rw[hls,hlt];exact h.ls,fun s=> ?_,hal,hbx,hdj,fun s b hb=> ?_,hlt1,hos.trans h.os,htape.trans h.tape,hout.trans h.output,Nat.le_trans h.size hsize,
  fun b hb hx=>(hblock b (Nat.lt_of_lt_of_le hb h.size) fun hm=> ?_).trans (h.kept b hb hx),h.stay.trans hst,fun b hb=> ?_,h.gk.keep hst⟩
 ·rcases hs s with ⟨e1,e2,e3,e4,e5⟩|e1
  ·rw[e1,e2,e3,e4]
   obtain ⟨l,hn,hl,hsr⟩:=h.sr s
   exact ⟨l,hn,hl,hsr.keep hst fun b hb=>hblock b (h.pr s b (hl b hb)).1 (e5 b (hl b hb))⟩
  ·exact e1
 ·obtain ⟨h1,h2,h3⟩:=hpr s b hb
  refine ⟨h1,h2, ?_⟩
  rcases h3 with ⟨t,ht⟩|h3
  ·exact (h.pr t b ht).2.2
  ·exact .inl (Nat.le_trans h.size h3)
 ·rcases (hM b hm).2 with h1|h1
  ·omega
  ·exact hx h1
 ·rcases hnew b hb with h1|h1|⟨s,h1⟩
  ·exact h.fnew b h1
  ·exact .inr (.inl (Nat.le_trans h.size h1))
  ·exact .inr (h.pr s b h1).2.2
theorem Zdf {k:Kd} (h:k.dep=none) (x:PV) (v:Value):Al τ w k x v:=by cases k<;>simp[Kd.dep] at h<;>trivial
theorem Zax {k:Kd} {q:Nat} (h:k.bdep=some q):k.dep=some q:=by
 cases k with
 |ali p=>cases p<;>simp[Kd.bdep,Kd.dep,Place.of] at h⊢;exact h
 |elm p _ _=>cases p<;>simp[Kd.bdep,Kd.dep,Place.of] at h⊢;exact h
 |bxf _ _=>simpa[Kd.bdep,Kd.dep] using h
 |_=>simp[Kd.bdep] at h
theorem ZvW {k:Kd} (h:k.dep=none):k.bdep=none:=by
 cases hb:k.bdep with
 |none=>rfl
 |some q=>rw[Zax hb] at h;cases h
theorem Zlp {k:Kd} (h:k.isBox=true):k.dep=none:=by cases k<;>simp[Kd.isBox] at h;rfl
theorem St.put (h:St w0 F0 X0 κ σ τ w F fp) {d:Nat} {k:Kd} {x:PV} {v:Value} {l fpd:List Nat} (hd:d<κ.length)
 (hos:w1.os=w.os) (htape:w1.tape=w.tape) (hout:w1.output=w.output) (hsize:w.heap.size≤w1.heap.size)
 (hblock:∀b,b<w.heap.size→b∉fp d→w1.heap[b]?=w.heap[b]?)
 (hsub:∀b,F b→F1 b) (hnew:∀b,F1 b→F b∨w.heap.size≤b∨b∈fp d) (hlt1:∀b,F1 b→b<w1.heap.size)
 (hnd:l.Nodup) (hl:∀b∈l,b∈fpd) (hr:SR w1 F1 k x v l) (hfp:∀b∈fpd,(w.heap.size≤b∨b∈fp d)∧b<w1.heap.size∧¬F1 b)
 (hal:x≠.undef→Al (τ.setIfInBounds d v) w1 k x v) (hbx:∀q,k.bdep=some q→q≠d∧(kd κ q).isBox=true) (hcl:∀s,(kd κ s).isCln=true→∀b,b<w.heap.size→w1.heap[b]?=w.heap[b]?):
 St w0 F0 X0 (Zds κ d k) (σ.set d x) (τ.setIfInBounds d v) w1 F1 (fun s=>if s=d then fpd else fp s):=by
 have ld:d<σ.length:=by rw[h.ls,←h.lk];exact hd
 have td:d<τ.size:=by rw[←h.lk];exact hd
 have hkk:∀s,kd (Zds κ d k) s=if s=d then k else if (kd κ s).dep=some d then .ck .none else kd κ s:=fun s=>ZeS _ _ _ _ hd
 have hvv:∀s,vl (σ.set d x) s=if s=d then x else vl σ s:=by intro s;rw[ZbG];simp only[ld,and_true]
 have htt:∀s,tv (τ.setIfInBounds d v) s=if s=d then v else tv τ s:=by intro s;rw[Zcl];simp only[td,and_true]
 refine h.gen (fun b=>b∈fp d) (ZkP _ _ _) (by simp) (by simp) hos htape hout hsize hblock (fun b hb=>⟨(h.pr d b hb).2.1,(h.pr d b hb).2.2⟩) hsub
  (fun b hb=>by rcases hnew b hb with h1|h1|h1;exact .inl h1;exact .inr (.inl h1);exact .inr (.inr ⟨d,h1⟩)) hlt1 (fun s=> ?_) (fun s=> ?_) (fun s q hq=> ?_) (fun s t b hst hs ht=> ?_) (fun s b hb=> ?_)
 ·rw [hkk,hvv,htt]
  by_cases e:s=d
  ·right;subst e;simp only[if_true];exact ⟨l,hnd,hl,hr⟩
  ·simp only[e,if_false]
   by_cases hdep:(kd κ s).dep=some d
   ·right;rw[if_pos hdep];exact ⟨[],List.nodup_nil,by simp,rfl⟩
   ·left;rw[if_neg hdep]
    exact ⟨by trivial,by trivial,by trivial,by trivial,fun b hb hb'=>h.dj s d b e hb hb'⟩
 ·rw [hkk,hvv]
  by_cases e:s=d
  ·subst e;rw[htt];simp only[if_true];exact hal
  ·simp only[e,if_false]
   rw[htt,if_neg e]
   intro hxu
   by_cases hdep:(kd κ s).dep=some d
   ·rw[if_pos hdep];trivial
   ·rw[if_neg hdep]
    refine Al.keep h (h.al s hxu) (fun q hq=> ?_) (fun q hq=>⟨h.bx s q hq,fun b hb=>hblock b (h.pr q b hb).1 fun hb'=>h.dj q d b ?_ hb hb'⟩) (fun hc=>⟨hsize,hcl s hc⟩) (let ⟨l,_,_,hr⟩:=h.sr s;⟨l,hr⟩) (fun b hb=>hblock b (h.fl b hb) fun hc=>(h.pr d b hc).2.1 hb)
    ·rw[htt,if_neg];rintro rfl;exact hdep hq
    ·rintro rfl;exact hdep (Zax hq)
 ·rw [hkk] at hq⊢
  by_cases e:s=d
  ·subst e
   simp only[if_true] at hq
   obtain ⟨h1,h2⟩:=hbx q hq
   rw[if_neg h1,if_neg]
   ·exact h2
   ·rw[Zlp h2];simp
  ·rw[if_neg e] at hq
   by_cases hdep:(kd κ s).dep=some d
   ·rw[if_pos hdep] at hq;simp[Kd.bdep] at hq
   ·rw[if_neg hdep] at hq
    have h2:=h.bx s q hq
    have h1:¬q=d:=by rintro rfl;exact hdep (Zax hq)
    rw[if_neg h1,if_neg]
    ·exact h2
    ·rw[Zlp h2];simp
 ·by_cases e:s=d
  ·subst e
   have e':¬t=s:=fun h=>hst h.symm
   simp only[if_true,e',if_false] at hs ht
   rcases (hfp b hs).1 with h1|h1
   ·have:=(h.pr t b ht).1;omega
   ·exact h.dj s t b hst h1 ht
  ·by_cases e':t=d
   ·subst e'
    simp only[if_true,e,if_false] at hs ht
    rcases (hfp b ht).1 with h1|h1
    ·have:=(h.pr s b hs).1;omega
    ·exact h.dj s t b hst hs h1
   ·simp only[e,e',if_false] at hs ht
    exact h.dj s t b hst hs ht
 ·by_cases e:s=d
  ·subst e
   simp only[if_true] at hb
   obtain ⟨h1,h2,h3⟩:=hfp b hb
   exact ⟨h2,h3,by rcases h1 with h1|h1;exact .inr h1;exact .inl ⟨s,h1⟩⟩
  ·simp only[e,if_false] at hb
   obtain ⟨h1,h2,h3⟩:=h.pr s b hb
   refine ⟨Nat.lt_of_lt_of_le h1 hsize,fun hc=> ?_,.inl ⟨s,hb⟩⟩
   rcases hnew b hc with h4|h4|h4
   ·exact h2 h4
   ·omega
   ·exact h.dj s d b e hb h4
theorem St.putA (h:St w0 F0 X0 κ σ τ w F fp) {d:Nat} {k:Kd} {x:PV} {v:Value} {l:List Nat} (hd:d<κ.length) (hA:Adds w F w1 F1)
 (hnd:l.Nodup) (hr:SR w1 F1 k x v l) (hfp:∀b∈l,w.heap.size≤b∧b<w1.heap.size∧¬F1 b)
 (hal:x≠.undef→Al (τ.setIfInBounds d v) w1 k x v) (hbx:∀q,k.bdep=some q→q≠d∧(kd κ q).isBox=true):
 St w0 F0 X0 (Zds κ d k) (σ.set d x) (τ.setIfInBounds d v) w1 F1 (fun s=>if s=d then l else fp s):=
 h.put hd hA.os hA.tape hA.output hA.size (fun b hb _=>hA.block b hb) hA.sub (fun b hb=>by rcases hA.new b hb with h1|h1;exact .inl h1;exact .inr (.inl h1)) hA.lt hnd (fun b hb=>hb) hr (fun b hb=>⟨.inl (hfp b hb).1,(hfp b hb).2⟩) hal hbx (fun _ _ b hb=>hA.block b hb)
theorem St.noCln (h:St w0 F0 X0 κ σ τ w F fp) (b:Bool):St w0 F0 X0 (noCln b κ) σ τ w F fp:=by
 refine {h with lk:=by rw[ZA];exact h.lk,sr:=fun s=> ?_,al:=fun s hx=> ?_,bx:=fun s q hq=> ?_}
 ·rw[ZbW]
  split
  ·exact ⟨[],List.nodup_nil,by simp,rfl⟩
  ·exact h.sr s
 ·rw[ZbW]
  split
  ·trivial
  ·exact h.al s hx
 ·rw[ZeT]
  rw[ZbW] at hq
  split at hq
  ·simp[Kd.bdep] at hq
  ·exact h.bx s q hq
end
section
variable {w0 :World} {F0:Nat→Prop} {X0:List Nat} {κ κ':List Kd} {σ σ':List PV} {τ τ':Array Value} {w w1:World} {F F1:Nat→Prop} {fp fp':Nat→List Nat}
theorem St.ghost (h:St w0 F0 X0 κ σ τ w F fp) {s d:Nat} {ks:Kd} {l fps G:List Nat} (cut:Kd→Bool) (hsd:s≠d) (hs:s<κ.length)
 (hsub:∀b,F b→F1 b) (hnew:∀b,F1 b→F b∨b∈fp s)
 (hnd:l.Nodup) (hl:∀b∈l,b∈fps) (hr:SR w F1 ks (vl σ s) (tv τ s) l)
 (hfps:∀b∈fps,b∈fp s∧b∉G∧¬F1 b) (hG:∀b∈G,b∈fp s∧¬F1 b)
 (hks:ks.dep=none) (hcut:∀k,cut k=true→k.dep≠none) (hkeep:(kd κ s).isBox=true→∀k,k.bdep=some s→cut k=false→ks.isBox=true):
 St w0 F0 X0 ((κ.map fun k=>if cut k then .ck .none else k).set s ks) σ τ w F1 (fun t=>if t=s then fps else if t=d then fp d++G else fp t):=by
 have hkk:∀t,kd ((κ.map fun k=>if cut k then .ck .none else k).set s ks) t=if t=s then ks else if cut (kd κ t) then .ck .none else kd κ t:=by
  intro t
  rw[Zl7]
  simp only[List.length_map,hs,and_true]
  by_cases e:t=s
  ·simp[e]
  ·simp only[e,if_false]
   unfold kd
   rw[List.getD_eq_getElem?_getD,List.getD_eq_getElem?_getD,List.getElem?_map]
   cases κ[t]? with
   |none=>simp
   |some k=>simp
 have hst:Stays w F w F1:=⟨hsub,fun _ _=>rfl⟩
 refine h.gen (fun _=>False) (by simp) rfl rfl rfl rfl rfl (Nat.le_refl _) (fun _ _ _=>rfl) (fun _ h=>h.elim) hsub (fun b hb=>by rcases hnew b hb with h1|h1;exact .inl h1;exact .inr (.inr ⟨s,h1⟩)) (fun b hb=>by rcases hnew b hb with h1|h1;exact h.fl b h1;exact (h.pr s b h1).1)
  (fun t=> ?_) (fun t=> ?_) (fun t q hq=> ?_) (fun t u b htu ht hu=> ?_) (fun t b hb=> ?_)
 ·right
  rw[hkk]
  by_cases e2:t=s
  ·subst e2;simp only[if_true];exact ⟨l,hnd,hl,hr⟩
  ·simp only[e2,if_false]
   by_cases e3:cut (kd κ t)=true
   ·rw[if_pos e3];exact ⟨[],List.nodup_nil,by simp,rfl⟩
   ·rw[if_neg e3]
    obtain ⟨l',hn',hl',hsr⟩:=h.sr t
    refine ⟨l',hn',fun b hb=> ?_,hsr.keep hst fun _ _=>rfl⟩
    by_cases e4:t=d
    ·subst e4;rw[if_pos rfl];exact List.mem_append_left _ (hl' b hb)
    ·rw[if_neg e4];exact hl' b hb
 ·rw[hkk]
  intro hxu
  by_cases e2:t=s
  ·subst e2;simp only[if_true];exact Zdf hks _ _
  ·simp only[e2,if_false]
   by_cases e3:cut (kd κ t)=true
   ·rw[if_pos e3];trivial
   ·rw[if_neg e3];exact h.al t hxu
 ·rw [hkk] at hq⊢
  by_cases e2:t=s
  ·subst e2;simp only[if_true] at hq
   have:=Zax hq;rw[hks] at this;cases this
  ·simp only[e2,if_false] at hq
   by_cases e3:cut (kd κ t)=true
   ·rw[if_pos e3] at hq;simp[Kd.bdep] at hq
   ·rw[if_neg e3] at hq
    by_cases e4:q=s
    ·subst e4
     rw[if_pos rfl]
     exact hkeep (h.bx t q hq) _ hq (by simpa using e3)
    ·have h2:=h.bx t q hq
     rw[if_neg e4,if_neg]
     ·exact h2
     ·intro hc;exact hcut _ hc (Zlp h2)
 ·have src:∀t b,b∈(if t=s then fps else if t=d then fp d++G else fp t)→(t=s∧b∈fps)∨(t=d∧t≠s∧b∈G)∨(t≠s∧b∈fp t):=by
   intro t b hb
   by_cases e1:t=s
   ·rw[if_pos e1] at hb;exact .inl ⟨e1,hb⟩
   ·rw[if_neg e1] at hb
    by_cases e2:t=d
    ·subst e2
     rw[if_pos rfl] at hb
     rcases List.mem_append.1 hb with hb|hb
     ·exact .inr (.inr ⟨e1,hb⟩)
     ·exact .inr (.inl ⟨rfl,e1,hb⟩)
    ·rw[if_neg e2] at hb;exact .inr (.inr ⟨e1,hb⟩)
  rcases src t b ht with ⟨e1,h1⟩|⟨e1,e1',h1⟩|⟨e1,h1⟩<;>rcases src u b hu with ⟨e2,h2⟩|⟨e2,e2',h2⟩|⟨e2,h2⟩
  ·exact htu (e1.trans e2.symm)
  ·exact (hfps b h1).2.1 h2
  ·exact h.dj s u b (fun e=>e2 e.symm) (hfps b h1).1 h2
  ·exact (hfps b h2).2.1 h1
  ·exact htu (e1.trans e2.symm)
  ·exact h.dj s u b (fun e=>e2 e.symm) (hG b h1).1 h2
  ·exact h.dj s t b (fun e=>e1 e.symm) (hfps b h2).1 h1
  ·exact h.dj s t b (fun e=>e1 e.symm) (hG b h2).1 h1
  ·exact h.dj t u b htu h1 h2
 ·by_cases e2:t=s
  ·simp only[e2,if_true] at hb
   obtain ⟨h1,h2,h3⟩:=hfps b hb
   exact ⟨(h.pr s b h1).1,h3,.inl ⟨s,h1⟩⟩
  ·simp only[e2,if_false] at hb
   by_cases e3:t=d
   ·simp only[e3,if_true] at hb
    rcases List.mem_append.1 hb with hb|hb
    ·obtain ⟨h1,h2,h3⟩:=h.pr d b hb
     refine ⟨h1,fun hc=> ?_,.inl ⟨d,hb⟩⟩
     rcases hnew b hc with h4|h4
     ·exact h2 h4
     ·exact h.dj s d b hsd h4 hb
    ·obtain ⟨h1,h2⟩:=hG b hb
     exact ⟨(h.pr s b h1).1,h2,.inl ⟨s,h1⟩⟩
   ·simp only[e3,if_false] at hb
    obtain ⟨h1,h2,h3⟩:=h.pr t b hb
    refine ⟨h1,fun hc=> ?_,.inl ⟨t,hb⟩⟩
    rcases hnew b hc with h4|h4
    ·exact h2 h4
    ·exact h.dj t s b e2 hb h4
theorem St.mod (h:St w0 F0 X0 κ σ τ w F fp) {s:Nat} {ks:Kd} {xs:PV} {l fps:List Nat} (cut:Kd→Bool) (hs:s<κ.length)
 (hos:w1.os=w.os) (htape:w1.tape=w.tape) (hout:w1.output=w.output) (hsize:w.heap.size≤w1.heap.size)
 (hblock:∀b,b<w.heap.size→b∉fp s→w1.heap[b]?=w.heap[b]?)
 (hsub:∀b,F b→F1 b) (hnew:∀b,F1 b→F b∨w.heap.size≤b∨b∈fp s) (hlt1:∀b,F1 b→b<w1.heap.size)
 (hnd:l.Nodup) (hl:∀b∈l,b∈fps) (hrs:SR w1 F1 ks xs (tv τ s) l) (hfps:∀b∈fps,(b∈fp s∨w.heap.size≤b)∧b<w1.heap.size∧¬F1 b) (hal:xs≠.undef→Al τ w1 ks xs (tv τ s)) (hks:ks.bdep=none)
 (hcut:∀k,cut k=true→k.dep≠none) (hcl:∀s,(kd κ s).isCln=false)
 (hkeep:∀k,k.bdep=some s→cut k=false→(kd κ s).isBox=true→ks.isBox=true∧∀x v,Al τ w k x v→Al τ w1 k x v):
 St w0 F0 X0 ((κ.map fun k=>if cut k then .ck .none else k).set s ks) (σ.set s xs) τ w1 F1 (fun t=>if t=s then fps else fp t):=by
 have ls:s<σ.length:=by rw[h.ls,←h.lk];exact hs
 have hkk:∀t,kd ((κ.map fun k=>if cut k then .ck .none else k).set s ks) t=if t=s then ks else if cut (kd κ t) then .ck .none else kd κ t:=by
  intro t
  rw[Zl7]
  simp only[List.length_map,hs,and_true]
  by_cases e:t=s
  ·simp[e]
  ·simp only[e,if_false]
   unfold kd
   rw[List.getD_eq_getElem?_getD,List.getD_eq_getElem?_getD,List.getElem?_map]
   cases κ[t]? with
   |none=>simp
   |some k=>simp
 have hvv:∀t,vl (σ.set s xs) t=if t=s then xs else vl σ t:=by
  intro t;rw[ZbG];simp only[ls,and_true]
 refine h.gen (fun b=>b∈fp s) (by simp) (by simp) rfl hos htape hout hsize hblock (fun b hb=>⟨(h.pr s b hb).2.1,(h.pr s b hb).2.2⟩) hsub
  (fun b hb=>by rcases hnew b hb with h1|h1|h1;exact .inl h1;exact .inr (.inl h1);exact .inr (.inr ⟨s,h1⟩)) hlt1 (fun t=> ?_) (fun t=> ?_) (fun t q hq=> ?_) (fun t u b htu ht hu=> ?_) (fun t b hb=> ?_)
 ·rw [hkk,hvv]
  by_cases e2:t=s
  ·right;subst e2;simp only[if_true];exact ⟨l,hnd,hl,hrs⟩
  ·simp only[e2,if_false]
   by_cases e3:cut (kd κ t)=true
   ·right
    rw[if_pos e3]
    exact ⟨[],List.nodup_nil,by simp,rfl⟩
   ·left
    rw[if_neg e3]
    exact ⟨by trivial,by trivial,by trivial,by trivial,fun b hb hb'=>h.dj t s b e2 hb hb'⟩
 ·rw [hkk,hvv]
  by_cases e2:t=s
  ·subst e2;simp only[if_true];exact hal
  ·simp only[e2,if_false]
   intro hxu
   by_cases e3:cut (kd κ t)=true
   ·rw[if_pos e3];trivial
   ·rw[if_neg e3]
    by_cases e4:(kd κ t).bdep=some s
    ·exact (hkeep _ e4 (by simpa using e3) (h.bx t s e4)).2 _ _ (h.al t hxu)
    ·exact Al.keep h (h.al t hxu) (fun q hq=>rfl) (fun q hq=>⟨h.bx t q hq,fun b hb=>hblock b (h.pr q b hb).1 fun hb'=>h.dj q s b (fun e=>e4 (e▸hq)) hb hb'⟩) (fun hc=>by rw[hcl t] at hc;cases hc) (let ⟨l,_,_,hr⟩:=h.sr t;⟨l,hr⟩) (fun b hb=>hblock b (h.fl b hb) fun hc=>(h.pr s b hc).2.1 hb)
 ·rw [hkk] at hq⊢
  by_cases e2:t=s
  ·subst e2;simp only[if_true] at hq
   rw[hks] at hq;cases hq
  ·simp only[e2,if_false] at hq
   by_cases e3:cut (kd κ t)=true
   ·rw[if_pos e3] at hq;simp[Kd.bdep] at hq
   ·rw[if_neg e3] at hq
    by_cases e4:q=s
    ·subst e4
     rw[if_pos rfl]
     exact (hkeep _ hq (by simpa using e3) (h.bx t q hq)).1
    ·have h2:=h.bx t q hq
     rw[if_neg e4,if_neg]
     ·exact h2
     ·intro hc;exact hcut _ hc (Zlp h2)
 ·by_cases e3:t=s
  ·subst e3
   have n1:¬u=t:=fun e=>htu e.symm
   simp only[if_true,n1,if_false] at ht hu
   rcases (hfps b ht).1 with h1|h1
   ·exact h.dj t u b htu h1 hu
   ·have:=(h.pr u b hu).1;omega
  ·simp only[e3,if_false] at ht
   by_cases e4:u=s
   ·subst e4;simp only[if_true] at hu
    rcases (hfps b hu).1 with h1|h1
    ·exact h.dj t u b htu ht h1
    ·have:=(h.pr t b ht).1;omega
   ·simp only[e4,if_false] at hu;exact h.dj t u b htu ht hu
 ·by_cases e2:t=s
  ·simp only[e2,if_true] at hb
   obtain ⟨h1,h2,h3⟩:=hfps b hb
   exact ⟨h2,h3,by rcases h1 with h1|h1;exact .inl ⟨s,h1⟩;exact .inr h1⟩
  ·simp only[e2,if_false] at hb
   obtain ⟨h1,h2,h3⟩:=h.pr t b hb
   refine ⟨Nat.lt_of_lt_of_le h1 hsize,fun hc=> ?_,.inl ⟨t,hb⟩⟩
   rcases hnew b hc with h4|h4|h4
   ·exact h2 h4
   ·omega
   ·exact h.dj t s b e2 hb h4
end
inductive ZC where
 |int (k:IntKind)
 |bool
 |str
 |nil
 |other
 deriving DecidableEq
def Zf2 :Value→ZC
 |.int k n=>if n=0 then .int k else .other
 |.bool b=>if b then .other else .bool
 |.string s=>if s.size=0 then .str else .other
 |.slice none 0 0=>.nil
 |_=>.other
def ZC.pv :ZC→PV
 |.int k=>.int k 0
 |.bool=>.bool false
 |.str=>.str []
 |.nil=>.lst []
 |.other=>.bool false
def ZC.ck :ZC→CK
 |.int _|.bool|.str=>.val
 |.nil=>.nil
 |.other=>.none
theorem ZvX {w:World} {F:Nat→Prop} (v:Value):CR w F (Zf2 v).ck (Zf2 v).pv v []:=by
 unfold Zf2
 split
 ·split
  ·rename_i h;subst h;exact ⟨.int _ _,rfl⟩
  ·rfl
 ·split
  ·rfl
  ·rename_i b h;cases b;exact ⟨.bool _,rfl⟩;simp at h
 ·split
  ·rename_i s h
   obtain ⟨⟨d⟩⟩:=s
   cases d
   ·exact ⟨.str [],rfl⟩
   ·simp[ByteArray.size] at h
  ·rfl
 ·exact ⟨rfl,rfl,rfl⟩
 ·rfl
theorem Zl8 (z:ZC):z.pv.one=true:=by cases z<;>rfl
inductive TD where
 |bool
 |int (k:IntKind)
 |str
 |slice (e:TypeId)
 |struct
 |map (k e:TypeId)
 |other
 deriving DecidableEq
structure TI where
 size:Nat
 bytes:Nat
 desc:TD
 zero:List ZC
 flds:List (Nat×TypeId)
 eqf:Bool
 deriving DecidableEq
def Zf3 :TypeDesc→TD
 |.bool=>.bool
 |.int k=>.int k
 |.string=>.str
 |.slice e=>.slice e
 |.struct _=>.struct
 |.map k e=>.map k e
 |_=>.other
def TI.agg (i:TI):Bool:=i.desc==.struct
def okRow (d:TypeDesc) (i:TypeInfo) (z:Value):Bool:=
 (match d,z with
  |.array _ _,_=>false
  |.struct _,.agg _=>true
  |.struct _,_=>false
  |_,.agg _=>false
  |_,_=>true)&&z.cells.size==i.size
def Zr6 :TypeDesc→List (Nat×TypeId)
 |.struct fs=>fs.toList.map (fun f=>(f.offset,f.type))
 |_=>[]
def ZwU (P:Program) (t:TypeId):Bool:=match P.underlying t with|some .bool|some (.int _)|some .string=>true|_=>false
def Zr7 (P:Program) (t:TypeId):TypeDesc→Bool
 |.struct fs=>(fs.toList.all fun f=>f.name != "_"&&ZwU P f.type&&((P.info? f.type).map (·.size))==some 1)&& !P.stoodInHeld t&& !P.eqGuardType P.depth t
 |_=>false
def tiOf (P:Program) (T:TypeId):Option TI:=
 match P.info? T,P.underlying T with
 | some i,some d=>
  match i.zero with
  |some z=>if okRow d i z=true then some {size:=i.size,bytes:=i.bytes,desc:=Zf3 d,zero:=z.cells.toList.map Zf2,flds:=Zr6 d,eqf:=Zr7 P T d} else none
  |none=>none
 |_,_=>none
structure TabOk (P:Program) (T:List (TypeId×TI)):Prop where
 row:∀t i,T.lookup t=some i→tiOf P t=some i
 arr:∀(t:TypeId) (n:Nat) (e:TypeId),(t,n,e)∈GA→P.underlying t=some (.array n e)
structure TyOk (P:Program) (t:TypeId) (i:TI) where
 row:TypeInfo
 desc:TypeDesc
 zv:Value
 hrow:P.info? t=some row
 hdesc:P.underlying t=some desc
 hsize:row.size=i.size
 hbytes:row.bytes=i.bytes
 hd:i.desc=Zf3 desc
 hz:row.zero=some zv
 hzs:zv.cells.size=i.size
 hzero:i.zero=zv.cells.toList.map Zf2
 hagg:i.agg=true→∃cs,zv=.agg cs
 hnagg:i.agg=false→∀cs,zv≠.agg cs
 hnarr:∀n e,desc≠.array n e
 hflds:i.flds=Zr6 desc
 heqf:i.eqf=Zr7 P t desc
theorem TabOk.ty {P:Program} {T:List (TypeId×TI)} (h:TabOk P T) {t:TypeId} {i:TI} (hi:T.lookup t=some i):Nonempty (TyOk P t i):=by
 have h1:=h.row t i hi
 unfold tiOf at h1
 split at h1
 ·rename_i r d hr hd
  split at h1
  ·rename_i z hz
   split at h1
   ·rename_i hc
    simp only[Option.some.injEq] at h1
    subst h1
    unfold okRow at hc
    simp only[Bool.and_eq_true,beq_iff_eq] at hc
    refine ⟨{row:=r,desc:=d,zv:=z,hrow:=hr,hdesc:=hd,hsize:=rfl,hbytes:=rfl,hd:=rfl,hz:=hz,hzs:=hc.2,hzero:=rfl,hagg:=fun ha=> ?_,hnagg:=fun ha=> ?_,hnarr:=fun n e he=> ?_,hflds:=rfl,heqf:=rfl}⟩
    ·simp only[TI.agg,beq_iff_eq] at ha
     obtain ⟨h2,_⟩:=hc
     cases d<;>simp[Zf3] at ha
     cases z<;>simp at h2
     exact ⟨_,rfl⟩
    ·simp only[TI.agg,beq_eq_false_iff_ne,ne_eq] at ha
     obtain ⟨h2,_⟩:=hc
     rintro cs rfl
     cases d<;>simp[Zf3] at ha h2
    ·subst he
     simp at hc
   ·cases h1
  ·cases h1
 ·cases h1
theorem TyOk.run_underlying {P:Program} {t:TypeId} {i:TI} (h:TyOk P t i) (w:World):(underlying t).run P w=.ok h.desc w:=by simp[underlying,h.hdesc]
theorem TyOk.run_sizeOf {P:Program} {t:TypeId} {i:TI} (h:TyOk P t i) (w:World):(sizeOf t).run P w=.ok i.size w:=by simp[sizeOf,typeInfo,h.hrow,h.hsize]
theorem TyOk.run_isAgg {P:Program} {t:TypeId} {i:TI} (h:TyOk P t i) (w:World):(isAgg t).run P w=.ok i.agg w:=by
 have h1:=h.run_underlying w
 have h2:=h.hd
 have h3:=h.hnarr
 unfold isAgg TI.agg
 rw[h2]
 generalize h.desc=d at *
 cases d<;>simp[h1,Zf3]<;>first|rfl|exact absurd rfl (h3 _ _)
theorem TyOk.run_zero {P:Program} {t:TypeId} {i:TI} (h:TyOk P t i) (w:World):(zeroValue t).run P w=.ok h.zv w:=by simp[zeroValue,typeInfo,h.hrow,h.hz]
def pvOf :Value→PV
 |.int k n=>.int k n
 |.bool b=>.bool b
 |.string s=>.str s.data.toList
 |.slice none 0 0=>.lst []
 |_=>.undef
def ckOf :Value→CK
 |.int _ _|.bool _|.string _=>.val
 |.slice none 0 0=>.nil
 |_=>.none
def kOp (κ:List Kd):Operand→Kd
 |.tmp t=>kd κ t
 |.const v=>.ck (ckOf v)
 |.func f=>.clo f
 |_=>.ck .none
def vOp (σ:List PV):Operand→PV
 |.tmp t=>vl σ t
 |.const v=>pvOf v
 |.func _=>.tup []
 |_=>.undef
def isV (κ:List Kd) (x:Operand):Bool:=
 match kOp κ x with
 |.ck .val|.ck .nil=>true
 |_=>false
theorem Zl9 {w:World} {F:Nat→Prop} (v:Value):CR w F (ckOf v) (pvOf v) v []:=by
 unfold ckOf pvOf
 split
 ·exact ⟨.int _ _,rfl⟩
 ·exact ⟨.bool _,rfl⟩
 ·rename_i s;obtain ⟨⟨l⟩⟩:=s;exact ⟨.str l,rfl⟩
 ·exact ⟨rfl,rfl,rfl⟩
 ·rfl
section
variable {w0 :World} {F0:Nat→Prop} {X0:List Nat} {κ:List Kd} {σ:List PV} {a:Act} {w:World} {F:Nat→Prop} {fp:Nat→List Nat}
theorem CR.vr {k:CK} {x:PV} {v:Value} {l:List Nat} (h:CR w F k x v l) (hk:k=.val∨k=.nil):VR w F x v∧l=[]:=by
 rcases hk with rfl|rfl
 ·exact h
 ·obtain ⟨rfl,rfl,h3⟩:=h
  exact ⟨.lst [] none 0 0 (fun _=>Go.undef) (by simp) (by simp[maxLen]) (fun h=>absurd rfl h) (fun i x h=>by simp at h) (fun i x h=>by simp at h),h3⟩
theorem rdV (h:St w0 F0 X0 κ σ a.tmps w F fp) {x:Operand} (hx:isV κ x=true):VR w F (vOp σ x) (a.eval x):=by
 unfold isV at hx
 cases x with
 | tmp t=>
  obtain ⟨l,_,_,hs⟩:=h.sr t
  simp only[kOp] at hx
  change VR w F (vl σ t) (tv a.tmps t)
  split at hx
  ·rename_i hk;rw[hk] at hs;exact (CR.vr (k:=.val) hs (.inl rfl)).1
  ·rename_i hk;rw[hk] at hs;exact (CR.vr (k:=.nil) hs (.inr rfl)).1
  ·cases hx
 | const v=>
  have hs:=Zl9 (w:=w) (F:=F) v
  simp only[kOp] at hx
  change VR w F (pvOf v) v
  split at hx
  ·rename_i hk;simp only[Kd.ck.injEq] at hk;exact (CR.vr hs (.inl hk)).1
  ·rename_i hk;simp only[Kd.ck.injEq] at hk;exact (CR.vr hs (.inr hk)).1
  ·cases hx
 |global g=>simp[kOp] at hx
 |func f=>simp[kOp] at hx
end
def Zhk (op:BinOp) (k:IntKind) (a b:Int):Option PV:=
 match op with
 |.add=>some (.int k (k.wrap (a+b)))
 |.sub=>some (.int k (k.wrap (a - b)))
 |.mul=>some (.int k (k.wrap (a * b)))
 |.quo=>if b=0 then none else some (.int k (k.wrap (a.tdiv b)))
 |.rem=>if b=0 then none else some (.int k (a.tmod b))
 |.and=>some (.int k (k.wrap (BitVec.ofInt k.bits a &&& BitVec.ofInt k.bits b).toNat))
 |.or=>some (.int k (k.wrap (BitVec.ofInt k.bits a ||| BitVec.ofInt k.bits b).toNat))
 |.xor=>some (.int k (k.wrap (BitVec.ofInt k.bits a ^^^ BitVec.ofInt k.bits b).toNat))
 |.andNot=>some (.int k (k.wrap (BitVec.ofInt k.bits a &&& ~~~BitVec.ofInt k.bits b).toNat))
 |.eql=>some (.bool (a==b))
 |.neq=>some (.bool (a !=b))
 |.lss=>some (.bool (decide (a<b)))
 |.leq=>some (.bool (decide (a≤b)))
 |.gtr=>some (.bool (decide (b<a)))
 |.geq=>some (.bool (decide (b≤a)))
 |_=>none
def ZtG (op:BinOp) (k:IntKind) (a b:Int):Option PV:=
 if b<0 then none else
 match op with
 |.shl=>some (.int k (k.wrap (a * 2 ^ (min b.toNat k.bits))))
 |.shr=>some (.int k (a.fdiv (2 ^ (min b.toNat k.bits))))
 |_=>none
def ZtH (op:BinOp) (a b:List UInt8):Option PV:=
 match op with
 |.add=>if a.length+b.length≤9223372036854775807 then some (.str (a++b)) else none
 |.eql=>some (.bool (a==b))
 |.neq=>some (.bool (!(a==b)))
 |.lss=>some (.bool (Op.bytesLess a b))
 |.leq=>some (.bool (Op.bytesLess a b||a==b))
 |.gtr=>some (.bool (!(Op.bytesLess a b||a==b)))
 |.geq=>some (.bool (!Op.bytesLess a b))
 |_=>none
def ZvY (op:BinOp) (a b:Bool):Option PV:=
 match op with
 |.eql=>some (.bool (a==b))
 |.neq=>some (.bool (!(a==b)))
 |_=>none
def ZcS :BinOp→Bool
 |.shl|.shr=>true
 |_=>false
def Zd (op:BinOp) (td:TD):PV→PV→Option PV
 |.int k a,.int k' b=>if ZcS op then ZtG op k a b else if k=k' then Zhk op k a b else none
 |.str a,.str b=>ZtH op a b
 |.bool a,.bool b=>if td=.bool then ZvY op a b else none
 |_,_=>none
def unV (op:UnOp):PV→Option PV
 |.bool b=>match op with|.not=>some (.bool (!b))|_=>none
 | .int k n=>match op with
  |.neg=>some (.int k (k.wrap (0 - n)))
  |.xor=>some (.int k (k.wrap (BitVec.ofInt k.bits (if k.signed then -1 else k.max) ^^^ BitVec.ofInt k.bits n).toNat))
  |_=>none
 |_=>none
theorem ZoS (a b:List UInt8):(⟨a.toArray⟩:ByteArray)++⟨b.toArray⟩=⟨(a++b).toArray⟩:=by
 have h:((⟨a.toArray⟩:ByteArray)++⟨b.toArray⟩).data=(a++b).toArray:=by
  rw[ByteArray.data_append]
  simp
 cases h':((⟨a.toArray⟩:ByteArray)++⟨b.toArray⟩)
 rw[h'] at h
 simp at h
 rw[h]
theorem Zew {P:Program} (op:BinOp) (t:TypeId) (x y:Operand) (u v:Value) (w:World) (h:(∀cs,u≠.agg cs)∧u≠.nilIface):(eqGuard op t x y u v).run P w=.ok () w:=by
 cases u<;>first|exact absurd rfl (h.1 _)|exact absurd rfl h.2|(cases op<;>rfl)
theorem ZoT {P:Program} {t:TypeId} (d:Nat) (a b:Bool) (w:World) (h:P.underlying t=some .bool):(Op.equalIn (d+1) t (.bool a) (.bool b)).run P w=.ok (a==b) w:=by
 simp[Op.equalIn,underlying,h]
theorem Zr8 {P:Program} {t:TypeId} (a b:Bool) (w:World) (h:P.underlying t=some .bool):(Op.equal t (.bool a) (.bool b)).run P w=.ok (a==b) w:=ZoT 9999 a b w h
theorem ZwX {P:Program} {op:BinOp} {t:TypeId} {td:TD} {x y z:PV} {u v:Value} {w:World} {F:Nat→Prop} (h:Zd op td x y=some z) (hx:VR w F x u) (hy:VR w F y v)
 (ht:td=.bool→P.underlying t=some .bool):∃r,(binOp op t u v).run P w=.ok r w∧VR w F z r∧((∀cs,u≠.agg cs)∧u≠.nilIface):=by
 unfold Zd at h
 split at h
 ·rename_i k a k' b
  obtain rfl:=hx.int_eq
  obtain rfl:=hy.int_eq
  split at h
  ·rename_i hs
   unfold ZtG at h
   split at h
   ·cases h
   ·rename_i hb
    cases op<;>simp[ZcS] at hs<;>simp at h<;>subst h<;>refine ⟨_, ?_,.int _ _,by simp,by simp⟩<;>simp[binOp,Op.shift,hb]
  ·rename_i hs
   split at h
   ·rename_i hk
    subst hk
    cases op<;>simp[ZcS] at hs<;>simp[Zhk] at h
    case quo=>obtain ⟨hb,rfl⟩:=h;exact ⟨_,by simp[binOp,Op.intDiv,hb],.int _ _,by simp,by simp⟩
    case rem=>obtain ⟨hb,rfl⟩:=h;exact ⟨_,by simp[binOp,Op.intDiv,hb],.int _ _,by simp,by simp⟩
    all_goals
     subst h
     first
      |(refine ⟨_, ?_,.int _ _,by simp,by simp⟩;first|(simp[binOp,Op.intArith];done)|(simp[binOp,Op.intBits];rfl)|(simp[binOp,Op.intBits];done))
      |(refine ⟨_, ?_,.bool _,by simp,by simp⟩;simp[binOp,Op.intCmp];done)
   ·cases h
 ·rename_i a b
  obtain rfl:=hx.str_eq
  obtain rfl:=hy.str_eq
  cases op<;>simp[ZtH] at h
  case add=>
   obtain ⟨hl,rfl⟩:=h
   refine ⟨.string ⟨(a++b).toArray⟩, ?_,.str _,by simp,by simp⟩
   have h1:(⟨a.toArray⟩:ByteArray).size=a.length:=by simp[ByteArray.size]
   have h2:(⟨b.toArray⟩:ByteArray).size=b.length:=by simp[ByteArray.size]
   have h3:¬((a.length+b.length:Nat):Int)>IntKind.i64.max:=by simp[IntKind.max,IntKind.signed,IntKind.bits];omega
   rw[binOp_string_add]
   unfold Op.stringOp
   simp only[h1,h2,h3,if_false,ZoS]
   rfl
  all_goals
   subst h
   refine ⟨_, ?_,.bool _,by simp,by simp⟩
   simp[binOp,Op.stringOp]
   done
 ·rename_i a b
  split at h
  ·rename_i hb
   have h3:=ht hb
   obtain rfl:=hx.bool_eq
   obtain rfl:=hy.bool_eq
   cases op<;>simp[ZvY] at h
   all_goals
    subst h
    refine ⟨_, ?_,.bool _,by simp,by simp⟩
    have h4:=Zr8 a b w h3
    simp[binOp,h4]
    done
  ·cases h
 ·cases h
theorem unV_ok {P:Program} {op:UnOp} {x z:PV} {u:Value} {w:World} {F:Nat→Prop} (h:unV op x=some z) (hx:VR w F x u):∃r,(Op.unary op u).run P w=.ok r w∧VR w F z r:=by
 unfold unV at h
 split at h
 ·obtain rfl:=hx.bool_eq
  cases op<;>simp at h
  subst h
  exact ⟨_,by simp[Op.unary],.bool _⟩
 ·obtain rfl:=hx.int_eq
  cases op<;>simp at h<;>subst h
  ·exact ⟨_,by simp[Op.unary,Op.intArith],.int _ _⟩
  ·exact ⟨_,by simp[Op.unary,Op.intBits],.int _ _⟩
 ·cases h
structure SV where
 k:Kd
 pk:Kd
 slot:Option Nat
structure DV where
 v:PV
 pv:PV
def sv (κ:List Kd) (x:Operand):SV:=
 ⟨kOp κ x,match (kOp κ x).dep with|some q=>kd κ q|none=>.ck .none,match x with|.tmp t=>some t|_=>none⟩
def dv (κ:List Kd) (σ:List PV) (x:Operand):DV:=
 ⟨vOp σ x,match (kOp κ x).dep with|some q=>vl σ q|none=>.undef⟩
def SV.isV (s:SV):Bool:=
 match s.k with
 |.ck .val|.ck .nil=>true
 |_=>false
inductive Cut where
 |all
 |cells (off n:Nat)
 |no
def Cut.fn (s:Nat):Cut→Kd→Bool
 |.all,k=>k.dep=some s
 |.cells off n,.ali (.cell q o)=>q=s&&off≤o&&o<off+n
 |.cells off n,.elm (.cell q o) _ _=>q=s&&off≤o&&o<off+n
 |_,_=>false
theorem Cut.fn_dep {s:Nat} {c:Cut} {k:Kd} (h:c.fn s k=true):k.dep=some s:=by
 unfold Cut.fn at h
 split at h
 ·simpa using h
 ·simp at h;simp[Kd.dep,Place.of,h.1.1]
 ·simp at h;simp[Kd.dep,Place.of,h.1.1]
 ·cases h
def ZiM (κ:List Kd) (s:Nat) (c:Cut) (k:Kd):List Kd:=(κ.map fun k=>if c.fn s k then .ck .none else k).set s k
theorem Cut.fn_none (s:Nat) (c:Cut):c.fn s (.ck .none)=false:=by
 cases c<;>simp[Cut.fn,Kd.dep]
theorem ZeU (κ:List Kd) (s:Nat) (c:Cut) (k:Kd):(ZiM κ s c k).length=κ.length:=by simp[ZiM]
theorem ZdW (κ:List Kd) (s d:Nat) (c:Cut) (k:Kd) (hs:s<κ.length):kd (ZiM κ s c k) d=if d=s then k else if c.fn s (kd κ d) then .ck .none else kd κ d:=by
 unfold ZiM
 rw[Zl7]
 by_cases e:d=s
 ·simp[e,hs]
 ·rw[if_neg (by simp[e]),if_neg e]
  unfold kd
  rw[List.getD_eq_getElem?_getD,List.getD_eq_getElem?_getD,List.getElem?_map]
  cases κ[d]? with
  |none=>simp[Cut.fn_none]
  |some k=>rfl
structure Gh where
 s:Nat
 i:Option Nat
 fz:Bool
 app:Bool
 e:TypeId
 sz:Nat
def Gh.ck (g:Gh):CK:=if g.fz then .val else .none
def tgB :Nat:=1000000
def Gh.kind (g:Gh) (k:Kd):Option Kd:=
 match k,g.i with
 |.ck c,none=>if c=.own g.app g.e g.sz then some (.ck g.ck) else none
 |.box T ks,some i=>if ks[i]?=some (.own g.app g.e g.sz) then some (.box T (ks.set i g.ck)) else none
 |.grp t ks,some i=>if ks[i]?=some (.own g.app g.e g.sz)∧i<tgB then some (.grp t (ks.set i g.ck)) else none
 |.tgr sh ks,some i=>if ks[i - tgB]?=some (.own g.app g.e g.sz)∧tgB≤i then some (.tgr sh (ks.set (i - tgB) g.ck)) else none
 |_,_=>none
def Gh.cut (g:Gh):Cut:=match g.i with|none=>.all|some i=>.cells i 1
def Gh.act (g:Gh) (tgt:Nat) (κ:List Kd):Option (List Kd):=
 if g.s=tgt then none else if g.s<κ.length then (g.kind (kd κ g.s)).map fun k=>ZiM κ g.s g.cut k else none
def ZcL (tgt:Nat):List Gh→List Kd→Option (List Kd)
 |[],κ=>some κ
 |g::r,κ=>(g.act tgt κ).bind (ZcL tgt r)
structure Eff (R:Type) where
 gh:List Gh
 tgt:Nat
 put:Bool
 k:Kd
 cut:Cut
 dyn:List DV→(PV→Option R)→Option R
def mdB (put:Bool) (gh:List Gh):Bool:=match put,gh with|true,[]=>false|_,_=>true
def Eff.md {R:Type} (E:Eff R):Bool:=mdB E.put E.gh
def Eff.κ {R:Type} (E:Eff R) (κ:List Kd):Option (List Kd):=
 if E.tgt<κ.length then (ZcL E.tgt E.gh κ).map fun κ1=>if E.put then Zds (noCln E.md κ1) E.tgt E.k else ZiM (noCln E.md κ1) E.tgt E.cut E.k else none
abbrev Tab :=List (TypeId×TI)
def PV.isU :PV→Bool
 |.undef=>true
 |_=>false
def Kd.hangs :Kd→Bool
 |.ipt=>true
 |k=>k.dep.isSome
def Zaz (κ:List Kd) (σ:List PV) (l:List Operand):Bool:=l.all fun x=> !(kOp κ x).hangs|| !(vOp σ x).isU
def Zat {R:Type} (P:Program) (o:Oper) (κ:List Kd) (E:Eff R):Prop:=
 ∀ (w0:World) (F0:Nat→Prop) (X0:List Nat) (κ':List Kd) (σ:List PV) (a:Act) (w:World) (F:Nat→Prop) (fp:Nat→List Nat) (kk:PV→Option R) (r:R) (K:Act→World→Prop) (Q:Exit→Act→World→Prop),
  St w0 F0 X0 κ σ a.tmps w F fp→E.κ κ=some κ'→Zaz κ σ o.op.operands.toList=true→E.dyn (o.op.operands.toList.map (dv κ σ)) kk=some r→
  (∀(x:PV) (v:Value) (w':World) (F':Nat→Prop) (fp':Nat→List Nat),St w0 F0 X0 κ' (σ.set E.tgt x) (a.put o.dst v).tmps w' F' fp'→kk x=some r→K (a.put o.dst v) w')→o.wp P a w K Q
def Zcv (κ:List Kd) (σ:List PV) (x:Operand):Prop:=(kOp κ x).hangs=true→vOp σ x≠.undef
theorem Zg {κ:List Kd} {σ:List PV} {l:List Operand} (h:Zaz κ σ l=true) {x:Operand} (hx:x∈l):Zcv κ σ x:=fun hh=>by
 have:=List.all_eq_true.1 h x hx
 rw[hh] at this
 intro e
 rw[e] at this
 simp[PV.isU] at this
theorem ZvZ {P:Program} {o:Oper} {a:Act} {w w1:World} {v:Value} {K:Act→World→Prop} {Q:Exit→Act→World→Prop} (hr:(execOp a.eval o).run P w=.ok (.value v) w1) (h:K (a.put o.dst v) w1):o.wp P a w K Q:=by
 unfold Oper.wp
 rw[hr]
 exact h
theorem Zqt {P:Program} {o:Oper} {a:Act} {w w1:World} {K:Act→World→Prop} {Q:Exit→Act→World→Prop} (hr:(execOp a.eval o).run P w=.ok .skip w1) (h:K (a.put o.dst undef) w1):o.wp P a w K Q:=by
 unfold Oper.wp
 rw[hr]
 exact h
section
variable {w0 :World} {F0:Nat→Prop} {X0:List Nat} {κ κ':List Kd} {σ σ':List PV} {τ τ':Array Value} {w w1:World} {F F1:Nat→Prop} {fp fp':Nat→List Nat}
theorem rdS {a:Act} (h:St w0 F0 X0 κ σ a.tmps w F fp) {x:Operand} (hx:(sv κ x).isV=true):VR w F (dv κ σ x).v (a.eval x):=rdV h hx
theorem List.nodup_flatten_set' {fps:List (List Nat)} (i:Nat) (h:fps.flatten.Nodup):(fps.set i []).flatten.Nodup:=by
 induction fps generalizing i with
 |nil=>exact h
 | cons l r ih=>
  cases i with
  |zero=>simp at h⊢;exact (List.nodup_append.1 h).2.1
  | succ i=>
   simp at h⊢
   obtain ⟨h1,h2,h3⟩:=List.nodup_append.1 h
   refine List.nodup_append.2 ⟨h1,ih i h2,fun a ha b hb=>h3 a ha b ?_⟩
   have:∀(fps:List (List Nat)) (i:Nat),b∈(fps.set i []).flatten→b∈fps.flatten:=by
    intro fps
    induction fps with
    |nil=>intro i h;exact h
    | cons l r ih=>
     intro i h
     cases i with
     |zero=>simp only[List.set_cons_zero,List.flatten_cons,List.nil_append] at h;simp only[List.flatten_cons,List.mem_append];exact .inr h
     | succ i=>
      simp only[List.set_cons_succ,List.flatten_cons,List.mem_append] at h⊢
      rcases h with h|h
      ·exact .inl h
      ·exact .inr (ih i h)
   exact this r i hb
theorem ZcT {fps:List (List Nat)} {i b:Nat} (h:b∈(fps.set i []).flatten):b∈fps.flatten:=by
 induction fps generalizing i with
 |nil=>exact h
 | cons l r ih=>
  cases i with
  |zero=>simp only[List.set_cons_zero,List.flatten_cons,List.nil_append] at h;simp only[List.flatten_cons,List.mem_append];exact .inr h
  | succ i=>
   simp only[List.set_cons_succ,List.flatten_cons,List.mem_append] at h⊢
   rcases h with h|h
   ·exact .inl h
   ·exact .inr (ih h)
theorem Zbj {fps:List (List Nat)} {i b:Nat} {l:List Nat} (hn:fps.flatten.Nodup) (hi:fps[i]?=some l) (hb:b∈l):b∉(fps.set i []).flatten:=by
 induction fps generalizing i with
 |nil=>simp at hi
 | cons l' r ih=>
  simp only[List.flatten_cons] at hn
  obtain ⟨h1,h2,h3⟩:=List.nodup_append.1 hn
  cases i with
  | zero=>
   simp at hi;subst hi
   simp only[List.set_cons_zero,List.flatten_cons,List.nil_append]
   intro hc;exact h3 b hb b hc rfl
  | succ i=>
   simp only[List.set_cons_succ,List.flatten_cons,List.mem_append]
   rintro (hc|hc)
   ·have hbr:b∈r.flatten:=List.mem_flatten.2 ⟨l,List.mem_of_getElem? (by simpa using hi),hb⟩
    exact h3 b hc b hbr rfl
   ·exact ih h2 (by simpa using hi) hc
end
section
variable {w0 :World} {F0:Nat→Prop} {X0:List Nat} {κ κ' κ1:List Kd} {σ σ':List PV} {τ τ':Array Value} {w w1:World} {F F1:Nat→Prop} {fp fp':Nat→List Nat}
theorem ZbV.vr {app:Bool} {e:TypeId} {sz:Nat} {l:List PV} {v:Value} {lb:List Nat} (h:ZbV w F app e sz l v lb) (hb:∀b∈lb,F1 b) (hF:∀b,F b→F1 b):VR w F1 (.lst l) v:=by
 rcases h with ⟨rfl,rfl,rfl⟩|⟨g,cap,cur,fr,rfl,rfl,h3,h4,h5,h6,h7,h8,h9⟩
 ·exact .lst [] none 0 0 (fun _=>Go.undef) (by simp) (by simp[maxLen]) (fun h=>absurd rfl h) (fun i x h=>by simp at h) (fun i x h=>by simp at h)
 ·have hex:∀i,∃u:Value,∀x,l[i]?=some x→x.width=sz∧x≠.undef∧VR w F x u∧∀(j:Nat) (c:Value),u.cells[j]?=some c→cur[i * sz+j]?=some c:=by
   intro i
   cases hx:l[i]? with
   |none=>exact ⟨Go.undef,fun x h=>by cases h⟩
   | some x=>
    obtain ⟨e1,e2,u,e3,e4⟩:=h9 i x hx
    exact ⟨u,fun y hy=>by cases hy;exact ⟨e1,e2,e3,e4⟩⟩
  have hst:Stays w F w F1:=⟨hF,fun _ _=>rfl⟩
  refine .lst l _ cap sz (fun i=>Classical.choose (hex i)) h6 h7 (fun _=>⟨g,0,rfl,hb g (by simp),fun i hi j u hj=> ?_⟩) (fun i x hx=> ?_) (fun i x hx=> ?_)
  ·obtain ⟨x,hx⟩:∃x,l[i]?=some x:=⟨l[i],List.getElem?_eq_getElem hi⟩
   obtain ⟨_,_,_,e4⟩:=Classical.choose_spec (hex i) x hx
   rw[cell_of_row w g _ cur e fr h3,Nat.zero_add]
   exact e4 j u hj
  ·obtain ⟨e1,e2,e3,_⟩:=Classical.choose_spec (hex i) x hx
   exact ⟨e1,by rw[←(e3.cells e2).1];exact e1⟩
  ·exact (Classical.choose_spec (hex i) x hx).2.2.1.keep hst
def GhV (g:Gh) (σ:List PV) (τ:Array Value) (w:World) (x:PV) (v:Value):Prop:=
 match g.i with
 |none=>tv τ g.s=v∧vl σ g.s=x
 | some i=>(∃(b:Nat) (xs:List PV),tv τ g.s=.pointer (some ⟨b,0,none⟩)∧w.cell? ⟨b,i,none⟩=some v∧vl σ g.s=.agg xs∧xs[i]?=some x)∨
  (∃(t:Bool) (cs:Array Value) (xs:List PV),tv τ g.s=(if t then .tuple cs else .agg cs)∧cs[i]?=some v∧vl σ g.s=(if t then .tup xs else .agg xs)∧xs[i]?=some x∧i<tgB)∨
  (∃(cs:Array Value) (xs:List PV),tv τ g.s=.tuple cs∧(ZdV cs.toList)[i - tgB]?=some v∧vl σ g.s=.tup xs∧(Zdv xs)[i - tgB]?=some x∧tgB≤i)
def Zma (g:Gh) (σ:List PV) (τ:Array Value) (w:World) (F1:Nat→Prop) (own:List Nat):Prop:=
 ∃(x:PV) (v:Value) (l:List PV) (lb:List Nat),GhV g σ τ w x v∧x=.lst l∧ZbV w F1 g.app g.e g.sz l v lb∧lb.Nodup∧(if g.fz then VR w F1 x v∧(∀b∈lb,F1 b) else ∀b∈lb,b∈own)
theorem Zma.mono {g:Gh} {own own':List Nat} (h:Zma g σ τ w F own) (hF:∀b,F b→F1 b) (ho:∀b∈own,b∈own'):Zma g σ τ w F1 own':=by
 obtain ⟨x,v,l,lb,h1,h2,h3,h4,h5⟩:=h
 have hst:Stays w F w F1:=⟨hF,fun _ _=>rfl⟩
 refine ⟨x,v,l,lb,h1,h2,h3.keep hst fun _ _=>rfl,h4, ?_⟩
 cases hfz:g.fz
 ·rw[hfz] at h5;simp only[Bool.false_eq_true,if_false] at h5⊢;exact fun b hb=>ho b (h5 b hb)
 ·rw[hfz] at h5;simp only[if_true] at h5⊢;exact ⟨h5.1.keep hst,fun b hb=>hF b (h5.2 b hb)⟩
theorem GrpR.flat_nodup_at {one:Bool} {ks:List CK} {xs:List PV} {vs:List Value} {fps:List (List Nat)} (hn:fps.flatten.Nodup) {i:Nat} {lb:List Nat} (hi:fps[i]?=some lb):lb.Nodup:=by
 induction fps generalizing i with
 |nil=>simp at hi
 | cons a r ih=>
  simp only[List.flatten_cons] at hn
  obtain ⟨h1,h2,_⟩:=List.nodup_append.1 hn
  cases i with
  |zero=>simp at hi;subst hi;exact h1
  |succ i=>exact ih h2 (by simpa using hi)
theorem GrpR.weak {one:Bool} {ks:List CK} {xs:List PV} {vs:List Value} {fps:List (List Nat)} (h:GrpR w F one ks xs vs fps) {i:Nat} {c:CK} {x:PV} {v:Value} (hx:xs[i]?=some x) (hv:vs[i]?=some v) (hc:CR w F c x v []):
 GrpR w F one (ks.set i c) xs vs (fps.set i []):=by
 obtain ⟨_,_,_,_,_,_,_,ho⟩:=h.at i x hx
 have:=h.set i hc ho
 have e1:xs.set i x=xs:=by
  apply List.ext_getElem?
  intro j
  rw[List.getElem?_set]
  by_cases e:i=j
  ·subst e;obtain ⟨hlt,rfl⟩:=List.getElem?_eq_some_iff.1 hx;simp[hlt]
  ·simp[e]
 have e2:vs.set i v=vs:=by
  apply List.ext_getElem?
  intro j
  rw[List.getElem?_set]
  by_cases e:i=j
  ·subst e;obtain ⟨hlt,rfl⟩:=List.getElem?_eq_some_iff.1 hv;simp[hlt]
  ·simp[e]
 rw[e1,e2] at this
 exact this
theorem Gh.cut_ok (g:Gh):∀k,g.cut.fn g.s k=true→k.dep≠none:=fun k h=>by rw[Cut.fn_dep h];simp
theorem GrpR.ks_at {one:Bool} {ks:List CK} {xs:List PV} {vs:List Value} {fps:List (List Nat)} (h:GrpR w F one ks xs vs fps) {i:Nat} {c:CK} (hi:ks[i]?=some c):∃x v fp,xs[i]?=some x∧vs[i]?=some v∧fps[i]?=some fp∧CR w F c x v fp:=by
 have hl:=h.lens
 have hlt:=(List.getElem?_eq_some_iff.1 hi).1
 obtain ⟨x,hx⟩:∃x,xs[i]?=some x:=⟨xs[i]'(by omega),List.getElem?_eq_getElem _⟩
 obtain ⟨k,v,fp,h1,h2,h3,h4,_⟩:=h.at i x hx
 rw[hi] at h1
 cases h1
 exact ⟨x,v,fp,hx,h2,h3,h4⟩
theorem Gh.sound (h:St w0 F0 X0 κ σ τ w F fp) {g:Gh} {tgt:Nat} (hg:g.act tgt κ=some κ1):
 ∃F1 fp1,St w0 F0 X0 κ1 σ τ w F1 fp1∧(∀b,F b→F1 b)∧(∀b∈fp tgt,b∈fp1 tgt)∧Zma g σ τ w F1 (fp1 tgt):=by
 unfold Gh.act at hg
 split at hg
 ·cases hg
 rename_i hst
 split at hg
 case isFalse=>cases hg
 rename_i hs
 obtain ⟨ks,hk,rfl⟩:=Option.map_eq_some_iff.1 hg
 obtain ⟨l,hn,hl,hsr⟩:=h.sr g.s
 unfold Gh.kind at hk
 split at hk
 ·
  rename_i c e1 e2
  rw[e1] at hsr
  split at hk
  case isFalse=>cases hk
  rename_i hc
  subst hc
  cases hk
  obtain ⟨ls,ex,hrow⟩:=hsr
  cases hfz:g.fz
  ·refine ⟨F,_,h.ghost (l:=[]) (fps:=[]) (G:=l) (d:=tgt) (ks:=.ck g.ck) (g.cut.fn g.s) hst hs (fun _ h=>h) (fun _ h=>.inl h) List.nodup_nil (by simp) (by simp only[Gh.ck,hfz];rfl) (by simp) (fun b hb=>⟨hl b hb,(h.pr _ b (hl b hb)).2.1⟩) rfl g.cut_ok (fun _ k hk hc=> ?_),fun _ h=>h,fun b hb=> ?_, ?_⟩
   ·have:=Zax hk;simp[Gh.cut,e2,Cut.fn,this] at hc
   ·have n1:¬tgt=g.s:=fun e=>hst e.symm
    simp only[n1,if_false,if_true];exact List.mem_append_left _ hb
   ·have n1:¬tgt=g.s:=fun e=>hst e.symm
    exact ⟨_,tv τ g.s,ls,l,by simp[GhV,e2,ex],rfl,hrow,hn,by simp only[hfz,n1,if_false,if_true,Bool.false_eq_true];exact fun b hb=>List.mem_append_right _ hb⟩
  ·have hF:∀b,F b→(fun b=>F b∨b∈l) b:=fun b hb=>.inl hb
   have hvr:=hrow.vr (F1:=fun b=>F b∨b∈l) (fun b hb=>.inr hb) hF
   refine ⟨fun b=>F b∨b∈l,_,h.ghost (l:=[]) (fps:=[]) (G:=[]) (d:=tgt) (ks:=.ck g.ck) (g.cut.fn g.s) hst hs hF (fun b hb=>by rcases hb with hb|hb;exact .inl hb;exact .inr (hl b hb)) List.nodup_nil (by simp) (by simp only[Gh.ck,hfz,if_true];exact ⟨by rw[ex];exact hvr,rfl⟩) (by simp) (by simp) rfl g.cut_ok (fun _ k hk hc=> ?_),hF,fun b hb=> ?_, ?_⟩
   ·have:=Zax hk;simp[Gh.cut,e2,Cut.fn,this] at hc
   ·have n1:¬tgt=g.s:=fun e=>hst e.symm
    simp only[n1,if_false,if_true];exact List.mem_append_left _ hb
   ·exact ⟨_,tv τ g.s,ls,l,by simp[GhV,e2,ex],rfl,hrow.keep ⟨hF,fun _ _=>rfl⟩ fun _ _=>rfl,hn,by simp only[hfz,if_true];exact ⟨hvr,fun b hb=>.inr hb⟩⟩
 ·
  rename_i T ks0 i e1 e2
  rw[e1] at hsr
  split at hk
  case isFalse=>cases hk
  rename_i hki
  cases hk
  obtain ⟨b0,cs,xs,fps,ev,ex,hheap,hgrp,rfl⟩:=hsr
  obtain ⟨x,v,lb,hx,hv,hfi,ls,rfl,hrow⟩:=hgrp.ks_at hki
  have hnf:fps.flatten.Nodup:=(List.nodup_cons.1 hn).2
  have hb0:b0∉fps.flatten:=(List.nodup_cons.1 hn).1
  have hlb:∀b∈lb,b∈fps.flatten:=fun b hb=>List.mem_flatten.2 ⟨lb,List.mem_of_getElem? hfi,hb⟩
  have hnl:lb.Nodup:=GrpR.flat_nodup_at (one:=true) (ks:=ks0) (xs:=xs) (vs:=cs.toList) hnf hfi
  have hn':(b0::(fps.set i []).flatten).Nodup:=List.nodup_cons.2 ⟨fun hc=>hb0 (ZcT hc),List.nodup_flatten_set' i hnf⟩
  have hcv:cs[i]?=some v:=by simpa using hv
  have hgv:GhV g σ τ w (.lst ls) v:=by
   simp only[GhV,e2]
   left
   exact ⟨b0,xs,ev,by rw[cell_of_row w b0 i cs T (0,0) hheap];exact hcv,ex,hx⟩
  have n1:¬tgt=g.s:=fun e=>hst e.symm
  have hkeepf:(kd κ g.s).isBox=true→∀k:Kd,k.bdep=some g.s→g.cut.fn g.s k=false→(Kd.box T (ks0.set i g.ck)).isBox=true:=fun _ _ _ _=>rfl
  have hin:∀b∈b0::(fps.set i []).flatten,b∈fp g.s∧b∉lb:=fun b hb=>by
   rcases List.mem_cons.1 hb with rfl|hb
   ·exact ⟨hl _ (by simp),fun hc=>hb0 (hlb _ hc)⟩
   ·exact ⟨hl b (List.mem_cons_of_mem _ (ZcT hb)),fun hc=>Zbj hnf hfi hc hb⟩
  cases hfz:g.fz
  ·have hg':=hgrp.weak (c:=g.ck) hx hv (by simp only[Gh.ck,hfz];rfl)
   refine ⟨F,_,h.ghost (l:=b0::(fps.set i []).flatten) (fps:=b0::(fps.set i []).flatten) (G:=lb) (d:=tgt) (ks:=.box T (ks0.set i g.ck)) (g.cut.fn g.s) hst hs (fun _ h=>h) (fun _ h=>.inl h) hn' (fun _ h=>h)
    ⟨b0,cs,xs,fps.set i [],ev,ex,hheap,hg',rfl⟩ (fun b hb=>⟨(hin b hb).1,(hin b hb).2,(h.pr _ b (hin b hb).1).2.1⟩) (fun b hb=>⟨hl b (List.mem_cons_of_mem _ (hlb b hb)),(h.pr _ b (hl b (List.mem_cons_of_mem _ (hlb b hb)))).2.1⟩) rfl g.cut_ok hkeepf,fun _ h=>h,fun b hb=> ?_, ?_⟩
   ·simp only[n1,if_false,if_true];exact List.mem_append_left _ hb
   ·exact ⟨_,v,ls,lb,hgv,rfl,hrow,hnl,by simp only[hfz,n1,if_false,if_true,Bool.false_eq_true];exact fun b hb=>List.mem_append_right _ hb⟩
  ·have hF:∀b,F b→(fun b=>F b∨b∈lb) b:=fun b hb=>.inl hb
   have hst':Stays w F w (fun b=>F b∨b∈lb):=⟨hF,fun _ _=>rfl⟩
   have hvr:=hrow.vr (F1:=fun b=>F b∨b∈lb) (fun b hb=>.inr hb) hF
   have hg':=(hgrp.keep hst' fun _ _=>rfl).weak (c:=g.ck) hx hv (by simp only[Gh.ck,hfz,if_true];exact ⟨hvr,rfl⟩)
   refine ⟨fun b=>F b∨b∈lb,_,h.ghost (l:=b0::(fps.set i []).flatten) (fps:=b0::(fps.set i []).flatten) (G:=[]) (d:=tgt) (ks:=.box T (ks0.set i g.ck)) (g.cut.fn g.s) hst hs hF (fun b hb=>by rcases hb with hb|hb;exact .inl hb;exact .inr (hl b (List.mem_cons_of_mem _ (hlb b hb)))) hn' (fun _ h=>h)
    ⟨b0,cs,xs,fps.set i [],ev,ex,hheap,hg',rfl⟩ (fun b hb=>⟨(hin b hb).1,by simp,fun hc=>by rcases hc with hc|hc;exact (h.pr _ b (hin b hb).1).2.1 hc;exact (hin b hb).2 hc⟩) (by simp) rfl g.cut_ok hkeepf,hF,fun b hb=> ?_, ?_⟩
   ·simp only[n1,if_false,if_true];exact List.mem_append_left _ hb
   ·exact ⟨_,v,ls,lb,hgv,rfl,hrow.keep hst' fun _ _=>rfl,hnl,by simp only[hfz,if_true];exact ⟨hvr,fun b hb=>.inr hb⟩⟩
 ·
  rename_i t ks0 i e1 e2
  rw[e1] at hsr
  split at hk
  case isFalse=>cases hk
  rename_i hki0
  obtain ⟨hki,hiB⟩:=hki0
  cases hk
  obtain ⟨cs,xs,fps,ev,ex,hgrp,rfl⟩:=hsr
  obtain ⟨x,v,lb,hx,hv,hfi,ls,rfl,hrow⟩:=hgrp.ks_at hki
  have hlb:∀b∈lb,b∈fps.flatten:=fun b hb=>List.mem_flatten.2 ⟨lb,List.mem_of_getElem? hfi,hb⟩
  have hnl:lb.Nodup:=GrpR.flat_nodup_at (one:= !t) (ks:=ks0) (xs:=xs) (vs:=cs.toList) hn hfi
  have hn':(fps.set i []).flatten.Nodup:=List.nodup_flatten_set' i hn
  have hcv:cs[i]?=some v:=by simpa using hv
  have hgv:GhV g σ τ w (.lst ls) v:=by
   simp only[GhV,e2]
   exact .inr (.inl ⟨t,cs,xs,ev,hcv,ex,hx,hiB⟩)
  have n1:¬tgt=g.s:=fun e=>hst e.symm
  have hkeepf:(kd κ g.s).isBox=true→∀k:Kd,k.bdep=some g.s→g.cut.fn g.s k=false→(Kd.grp t (ks0.set i g.ck)).isBox=true:=fun hb=>by rw[e1] at hb;cases hb
  have hin:∀b∈(fps.set i []).flatten,b∈fp g.s∧b∉lb:=fun b hb=>
   ⟨hl b (ZcT hb),fun hc=>Zbj hn hfi hc hb⟩
  cases hfz:g.fz
  ·have hg':=hgrp.weak (c:=g.ck) hx hv (by simp only[Gh.ck,hfz];rfl)
   refine ⟨F,_,h.ghost (l:=(fps.set i []).flatten) (fps:=(fps.set i []).flatten) (G:=lb) (d:=tgt) (ks:=.grp t (ks0.set i g.ck)) (g.cut.fn g.s) hst hs (fun _ h=>h) (fun _ h=>.inl h) hn' (fun _ h=>h)
    ⟨cs,xs,fps.set i [],ev,ex,hg',rfl⟩ (fun b hb=>⟨(hin b hb).1,(hin b hb).2,(h.pr _ b (hin b hb).1).2.1⟩) (fun b hb=>⟨hl b (hlb b hb),(h.pr _ b (hl b (hlb b hb))).2.1⟩) rfl g.cut_ok hkeepf,fun _ h=>h,fun b hb=> ?_, ?_⟩
   ·simp only[n1,if_false,if_true];exact List.mem_append_left _ hb
   ·exact ⟨_,v,ls,lb,hgv,rfl,hrow,hnl,by simp only[hfz,n1,if_false,if_true,Bool.false_eq_true];exact fun b hb=>List.mem_append_right _ hb⟩
  ·have hF:∀b,F b→(fun b=>F b∨b∈lb) b:=fun b hb=>.inl hb
   have hst':Stays w F w (fun b=>F b∨b∈lb):=⟨hF,fun _ _=>rfl⟩
   have hvr:=hrow.vr (F1:=fun b=>F b∨b∈lb) (fun b hb=>.inr hb) hF
   have hg':=(hgrp.keep hst' fun _ _=>rfl).weak (c:=g.ck) hx hv (by simp only[Gh.ck,hfz,if_true];exact ⟨hvr,rfl⟩)
   refine ⟨fun b=>F b∨b∈lb,_,h.ghost (l:=(fps.set i []).flatten) (fps:=(fps.set i []).flatten) (G:=[]) (d:=tgt) (ks:=.grp t (ks0.set i g.ck)) (g.cut.fn g.s) hst hs hF (fun b hb=>by rcases hb with hb|hb;exact .inl hb;exact .inr (hl b (hlb b hb))) hn' (fun _ h=>h)
    ⟨cs,xs,fps.set i [],ev,ex,hg',rfl⟩ (fun b hb=>⟨(hin b hb).1,by simp,fun hc=>by rcases hc with hc|hc;exact (h.pr _ b (hin b hb).1).2.1 hc;exact (hin b hb).2 hc⟩) (by simp) rfl g.cut_ok hkeepf,hF,fun b hb=> ?_, ?_⟩
   ·simp only[n1,if_false,if_true];exact List.mem_append_left _ hb
   ·exact ⟨_,v,ls,lb,hgv,rfl,hrow.keep hst' fun _ _=>rfl,hnl,by simp only[hfz,if_true];exact ⟨hvr,fun b hb=>.inr hb⟩⟩
 ·
  rename_i sh ks0 i0 e1 e2
  obtain ⟨i,hii⟩:∃i,i0 - tgB=i:=⟨_,rfl⟩
  rw[e1] at hsr
  split at hk
  case isFalse=>cases hk
  rename_i hki0
  obtain ⟨hki,hiB⟩:=hki0
  rw[hii] at hki
  cases hk
  rw[hii]
  obtain ⟨cs,xs,fps,ev,ex,hsh,hgrp,rfl⟩:=hsr
  obtain ⟨x,v,lb,hx,hv,hfi,ls,rfl,hrow⟩:=hgrp.ks_at hki
  have hlb:∀b∈lb,b∈fps.flatten:=fun b hb=>List.mem_flatten.2 ⟨lb,List.mem_of_getElem? hfi,hb⟩
  have hnl:lb.Nodup:=GrpR.flat_nodup_at (one:=true) (ks:=ks0) (xs:=Zdv xs) (vs:=ZdV cs.toList) hn hfi
  have hn':(fps.set i []).flatten.Nodup:=List.nodup_flatten_set' i hn
  have hgv:GhV g σ τ w (.lst ls) v:=by
   simp only[GhV,e2]
   exact .inr (.inr ⟨cs,xs,ev,by rw[hii];exact hv,ex,by rw[hii];exact hx,hiB⟩)
  have n1:¬tgt=g.s:=fun e=>hst e.symm
  have hkeepf:(kd κ g.s).isBox=true→∀k:Kd,k.bdep=some g.s→g.cut.fn g.s k=false→(Kd.tgr sh (ks0.set i g.ck)).isBox=true:=fun hb=>by rw[e1] at hb;cases hb
  have hin:∀b∈(fps.set i []).flatten,b∈fp g.s∧b∉lb:=fun b hb=>
   ⟨hl b (ZcT hb),fun hc=>Zbj hn hfi hc hb⟩
  cases hfz:g.fz
  ·have hg':=hgrp.weak (c:=g.ck) hx hv (by simp only[Gh.ck,hfz];rfl)
   refine ⟨F,_,h.ghost (l:=(fps.set i []).flatten) (fps:=(fps.set i []).flatten) (G:=lb) (d:=tgt) (ks:=.tgr sh (ks0.set i g.ck)) (g.cut.fn g.s) hst hs (fun _ h=>h) (fun _ h=>.inl h) hn' (fun _ h=>h)
    ⟨cs,xs,fps.set i [],ev,ex,hsh,hg',rfl⟩ (fun b hb=>⟨(hin b hb).1,(hin b hb).2,(h.pr _ b (hin b hb).1).2.1⟩) (fun b hb=>⟨hl b (hlb b hb),(h.pr _ b (hl b (hlb b hb))).2.1⟩) rfl g.cut_ok hkeepf,fun _ h=>h,fun b hb=> ?_, ?_⟩
   ·simp only[n1,if_false,if_true];exact List.mem_append_left _ hb
   ·exact ⟨_,v,ls,lb,hgv,rfl,hrow,hnl,by simp only[hfz,n1,if_false,if_true,Bool.false_eq_true];exact fun b hb=>List.mem_append_right _ hb⟩
  ·have hF:∀b,F b→(fun b=>F b∨b∈lb) b:=fun b hb=>.inl hb
   have hst':Stays w F w (fun b=>F b∨b∈lb):=⟨hF,fun _ _=>rfl⟩
   have hvr:=hrow.vr (F1:=fun b=>F b∨b∈lb) (fun b hb=>.inr hb) hF
   have hg':=(hgrp.keep hst' fun _ _=>rfl).weak (c:=g.ck) hx hv (by simp only[Gh.ck,hfz,if_true];exact ⟨hvr,rfl⟩)
   refine ⟨fun b=>F b∨b∈lb,_,h.ghost (l:=(fps.set i []).flatten) (fps:=(fps.set i []).flatten) (G:=[]) (d:=tgt) (ks:=.tgr sh (ks0.set i g.ck)) (g.cut.fn g.s) hst hs hF (fun b hb=>by rcases hb with hb|hb;exact .inl hb;exact .inr (hl b (hlb b hb))) hn' (fun _ h=>h)
    ⟨cs,xs,fps.set i [],ev,ex,hsh,hg',rfl⟩ (fun b hb=>⟨(hin b hb).1,by simp,fun hc=>by rcases hc with hc|hc;exact (h.pr _ b (hin b hb).1).2.1 hc;exact (hin b hb).2 hc⟩) (by simp) rfl g.cut_ok hkeepf,hF,fun b hb=> ?_, ?_⟩
   ·simp only[n1,if_false,if_true];exact List.mem_append_left _ hb
   ·exact ⟨_,v,ls,lb,hgv,rfl,hrow.keep hst' fun _ _=>rfl,hnl,by simp only[hfz,if_true];exact ⟨hvr,fun b hb=>.inr hb⟩⟩
 ·cases hk
theorem Zex {tgt:Nat}:∀(gs:List Gh) (κ κ1:List Kd) (F:Nat→Prop) (fp:Nat→List Nat),St w0 F0 X0 κ σ τ w F fp→ZcL tgt gs κ=some κ1→
 ∃F1 fp1,St w0 F0 X0 κ1 σ τ w F1 fp1∧(∀b,F b→F1 b)∧(∀b∈fp tgt,b∈fp1 tgt)∧∀g∈gs,Zma g σ τ w F1 (fp1 tgt)
 | [],κ,κ1,F,fp,h,hg=>by
  cases hg
  exact ⟨F,fp,h,fun _ h=>h,fun _ h=>h,by simp⟩
 | g::r,κ,κ1,F,fp,h,hg=>by
  unfold ZcL at hg
  obtain ⟨κm,h1,h2⟩:=Option.bind_eq_some_iff.1 hg
  obtain ⟨Fm,fpm,hm,hF,hfp,hgv⟩:=Gh.sound h h1
  obtain ⟨F1,fp1,hst,hF1,hfp1,hall⟩:=Zex r κm κ1 Fm fpm hm h2
  refine ⟨F1,fp1,hst,fun b hb=>hF1 b (hF b hb),fun b hb=>hfp1 b (hfp b hb),fun g' hg'=> ?_⟩
  rcases List.mem_cons.1 hg' with rfl|hg'
  ·exact hgv.mono hF1 hfp1
  ·exact hall g' hg'
end
theorem Zdz {R:Type} {P:Program} {o:Oper} {κ:List Kd} {E:Eff R} (hdst:o.dst=some E.tgt) (hput:E.put=true)
 (H :∀(w0:World) (F0:Nat→Prop) (X0:List Nat) (κ1:List Kd) (σ:List PV) (a:Act) (w:World) (F F1:Nat→Prop) (fp fp1:Nat→List Nat) (kk:PV→Option R) (r:R),
  St w0 F0 X0 κ σ a.tmps w F fp→St w0 F0 X0 κ1 σ a.tmps w F1 fp1→E.tgt<κ.length→ZcL E.tgt E.gh κ=some κ1→(∀b,F b→F1 b)→(∀g∈E.gh,Zma g σ a.tmps w F1 (fp1 E.tgt))→
  Zaz κ σ o.op.operands.toList=true→E.dyn (o.op.operands.toList.map (dv κ σ)) kk=some r→
  ∃ (x:PV) (v:Value) (w':World) (F':Nat→Prop) (l:List Nat),(execOp a.eval o).run P w=.ok (.value v) w'∧kk x=some r∧
   w'.os=w.os∧w'.tape=w.tape∧w'.output=w.output∧w.heap.size≤w'.heap.size∧(∀b,b<w.heap.size→(b∉fp1 E.tgt∨E.gh=[])→w'.heap[b]?=w.heap[b]?)∧
   (∀b,F1 b→F' b)∧(∀b,F' b→F1 b∨w.heap.size≤b∨b∈fp1 E.tgt)∧(∀b,F' b→b<w'.heap.size)∧
   l.Nodup∧SR w' F' E.k x v l∧(∀b∈l,(w.heap.size≤b∨b∈fp1 E.tgt)∧b<w'.heap.size∧¬F' b)∧
   (x≠.undef→Al (a.tmps.setIfInBounds E.tgt v) w' E.k x v)∧(∀q,E.k.bdep=some q→q≠E.tgt∧(kd κ1 q).isBox=true)):Zat P o κ E:=by
 intro w0 F0 X0 κ' σ a w F fp kk r K Q h hκ hlv hd hK
 unfold Eff.κ at hκ
 split at hκ
 case isFalse=>cases hκ
 rename_i htgt
 obtain ⟨κ1,h1,h2⟩:=Option.map_eq_some_iff.1 hκ
 have h3:Zds (noCln E.md κ1) E.tgt E.k=κ':=by simpa[hput] using h2
 subst h3
 obtain ⟨F1,fp1,hst,hF,hfp,hall⟩:=Zex E.gh κ κ1 F fp h h1
 obtain ⟨x,v,w',F',l,hrun,hkk,e1,e2,e3,e4,e5,e6,e7,e8,e9,e10,e11,e12,e13⟩:=H w0 F0 X0 κ1 σ a w F F1 fp fp1 kk r h hst htgt h1 hF hall hlv hd
 have hlen:κ1.length=κ.length:=by rw[hst.lk,h.lk]
 have:=(hst.noCln E.md).put (fpd:=l) (by rw[ZA,hlen];exact htgt) e1 e2 e3 e4 (fun b hb hn=>e5 b hb (.inl hn)) e6 e7 e8 e9 (fun _ h=>h) e10 e11 e12 (fun q hq=>by rw[ZeT];exact e13 q hq) (fun s hc b hb=>e5 b hb (.inr (by
  cases hmd:E.md with
  |true=>rw[hmd,Zc5] at hc;cases hc
  | false=>
   unfold Eff.md at hmd
   rw[hput] at hmd
   cases hg:E.gh with
   |nil=>rfl
   |cons _ _=>rw[hg] at hmd;simp[mdB] at hmd)))
 refine ZvZ hrun (hK x v w' F' (fun t=>if t=E.tgt then l else fp1 t) ?_ hkk)
 rw[hdst]
 exact this
theorem Z9 {R:Type} {P:Program} {o:Oper} {κ:List Kd} {E:Eff R} (hdst:o.dst=some E.tgt) (hput:E.put=true) (hgh:E.gh=[])
 (H :∀(w0:World) (F0:Nat→Prop) (X0:List Nat) (σ:List PV) (a:Act) (w:World) (F:Nat→Prop) (fp:Nat→List Nat) (kk:PV→Option R) (r:R),
  St w0 F0 X0 κ σ a.tmps w F fp→E.tgt<κ.length→Zaz κ σ o.op.operands.toList=true→E.dyn (o.op.operands.toList.map (dv κ σ)) kk=some r→
  ∃ (x:PV) (v:Value) (w':World) (F':Nat→Prop) (l:List Nat),(execOp a.eval o).run P w=.ok (.value v) w'∧kk x=some r∧Adds w F w' F'∧
   l.Nodup∧SR w' F' E.k x v l∧(∀b∈l,w.heap.size≤b∧b<w'.heap.size∧¬F' b)∧
   (x≠.undef→Al (a.tmps.setIfInBounds E.tgt v) w' E.k x v)∧(∀q,E.k.bdep=some q→q≠E.tgt∧(kd κ q).isBox=true)):Zat P o κ E:=by
 refine Zdz hdst hput fun w0 F0 X0 κ1 σ a w F F1 fp fp1 kk r h h1 ht hg hF hall hlv hd=> ?_
 rw[hgh] at hg
 cases hg
 obtain ⟨x,v,w',F',l,hrun,hkk,hA,e9,e10,e11,e12,e13⟩:=H w0 F0 X0 σ a w F1 fp1 kk r h1 ht hlv hd
 exact ⟨x,v,w',F',l,hrun,hkk,hA.os,hA.tape,hA.output,hA.size,fun b hb _=>hA.block b hb,hA.sub,fun b hb=>by rcases hA.new b hb with h|h;exact .inl h;exact .inr (.inl h),hA.lt,e9,e10,fun b hb=>⟨.inl (e11 b hb).1,(e11 b hb).2⟩,e12,e13⟩
theorem Za2 {R:Type} {P:Program} {o:Oper} {κ:List Kd} {E:Eff R} (hdst:o.dst=some E.tgt) (hput:E.put=true) (hgh:E.gh=[]) (hk:E.k=.ck .val)
 (H:∀(w0:World) (F0:Nat→Prop) (X0:List Nat) (σ:List PV) (a:Act) (w:World) (F:Nat→Prop) (fp:Nat→List Nat) (kk:PV→Option R) (r:R),
  St w0 F0 X0 κ σ a.tmps w F fp→E.tgt<κ.length→Zaz κ σ o.op.operands.toList=true→E.dyn (o.op.operands.toList.map (dv κ σ)) kk=some r→
  ∃(x:PV) (v:Value),(execOp a.eval o).run P w=.ok (.value v) w∧kk x=some r∧VR w F x v):Zat P o κ E:=by
 refine Z9 hdst hput hgh fun w0 F0 X0 σ a w F fp kk r h ht hlv hd=> ?_
 obtain ⟨x,v,hrun,hkk,hv⟩:=H w0 F0 X0 σ a w F fp kk r h ht hlv hd
 refine ⟨x,v,w,F,[],hrun,hkk,Adds.refl w h.fl,List.nodup_nil, ?_,by simp, ?_, ?_⟩<;>rw[hk]
 ·exact ⟨hv,rfl⟩
 ·exact fun _=>trivial
 ·simp[Kd.bdep]
theorem Zko {R:Type} {P:Program} {o:Oper} {κ:List Kd} {E:Eff R} (hdst:o.dst=none) (hput:E.put=false)
 (H :∀(w0:World) (F0:Nat→Prop) (X0:List Nat) (κ1:List Kd) (σ:List PV) (a:Act) (w:World) (F F1:Nat→Prop) (fp fp1:Nat→List Nat) (kk:PV→Option R) (r:R),
  St w0 F0 X0 κ σ a.tmps w F fp→St w0 F0 X0 κ1 σ a.tmps w F1 fp1→E.tgt<κ.length→ZcL E.tgt E.gh κ=some κ1→(∀b,F b→F1 b)→(∀b∈fp E.tgt,b∈fp1 E.tgt)→(∀g∈E.gh,Zma g σ a.tmps w F1 (fp1 E.tgt))→
  Zaz κ σ o.op.operands.toList=true→E.dyn (o.op.operands.toList.map (dv κ σ)) kk=some r→
  ∃ (x:PV) (w':World) (l:List Nat),(execOp a.eval o).run P w=.ok .skip w'∧kk x=some r∧
   w'.os=w.os∧w'.tape=w.tape∧w'.output=w.output∧w'.heap.size=w.heap.size∧(∀b,b<w.heap.size→b∉fp1 E.tgt→w'.heap[b]?=w.heap[b]?)∧
   l.Nodup∧SR w' F1 E.k x (tv a.tmps E.tgt) l∧(∀b∈l,b∈fp1 E.tgt)∧E.k.dep=none∧
   ((kd κ1 E.tgt).isBox=true→E.k.isBox=true∧∀k y u,k.bdep=some E.tgt→E.cut.fn E.tgt k=false→Al a.tmps w k y u→Al a.tmps w' k y u)):Zat P o κ E:=by
 intro w0 F0 X0 κ' σ a w F fp kk r K Q h hκ hlv hd hK
 unfold Eff.κ at hκ
 split at hκ
 case isFalse=>cases hκ
 rename_i htgt
 obtain ⟨κ1,h1,h2⟩:=Option.map_eq_some_iff.1 hκ
 have hmd:E.md=true:=by unfold Eff.md;rw[hput];rfl
 have h3:ZiM (noCln true κ1) E.tgt E.cut E.k=κ':=by simpa[hput,hmd] using h2
 subst h3
 obtain ⟨F1,fp1,hst,hF,hfp,hall⟩:=Zex E.gh κ κ1 F fp h h1
 obtain ⟨x,w',l,hrun,hkk,e1,e2,e3,e4,e5,e6,e7,e8,e9,e10⟩:=H w0 F0 X0 κ1 σ a w F F1 fp fp1 kk r h hst htgt h1 hF hfp hall hlv hd
 have hlen:κ1.length=κ.length:=by rw[hst.lk,h.lk]
 have hst':Stays w F1 w' F1:=⟨fun _ h=>h,fun b hb=>e5 b (hst.fl b hb) fun hc=>(hst.pr _ b hc).2.1 hb⟩
 have:=(hst.noCln true).mod (ks:=E.k) (xs:=x) (l:=l) (fps:=l) (E.cut.fn E.tgt) (by rw[ZA,hlen];exact htgt) e1 e2 e3 (by rw[e4];exact Nat.le_refl _) e5 (fun _ h=>h) (fun _ h=>.inl h) (fun b hb=>by rw[e4];exact hst.fl b hb) e6 (fun _ h=>h) e7 (fun b hb=>⟨.inl (e8 b hb),by rw[e4];exact (hst.pr _ b (e8 b hb)).1,(hst.pr _ b (e8 b hb)).2.1⟩) (fun _=>Zdf e9 _ _) (ZvW e9) (fun k hk=>by rw[Cut.fn_dep hk];simp) (Zc5 κ1) (fun k hk hc hb=>let q:=e10 (by rw[ZeT] at hb;exact hb);⟨q.1,fun x v=>q.2 k x v hk hc⟩)
 refine Zqt hrun (hK x undef w' F1 (fun t=>if t=E.tgt then l else fp1 t) ?_ hkk)
 rw[hdst]
 exact this
def Zp {R:Type} (d:Nat) (k:Kd) (dyn:List DV→(PV→Option R)→Option R):Eff R:={gh:=[],tgt:=d,put:=true,k:=k,cut:=.no,dyn:=dyn}
def Zb4 {R:Type} (f:DV→Option PV):List DV→(PV→Option R)→Option R
 |[x],kk=>(f x).bind kk
 |_,_=>none
def ZcD {R:Type} (f:DV→DV→Option PV):List DV→(PV→Option R)→Option R
 |[x,y],kk=>(f x y).bind kk
 |_,_=>none
def dyn3 {R:Type} (f:DV→DV→DV→Option PV):List DV→(PV→Option R)→Option R
 |[x,y,z],kk=>(f x y z).bind kk
 |_,_=>none
def Zhl {R:Type}:List DV→(PV→Option R)→Option R
 |[x],kk=>kk x.v
 |_,_=>none
def dynP {R:Type}:List DV→(PV→Option R)→Option R
 |[x],kk=>kk x.pv
 |_,_=>none
def dynC {R:Type} (off:Nat):List DV→(PV→Option R)→Option R
 |[x],kk=>(x.pv.cells[off]?).bind kk
 |_,_=>none
def dynU {R:Type}:List DV→(PV→Option R)→Option R:=fun _ kk=>kk .undef
def Zmb {R:Type}:List DV→(PV→Option R)→Option R:=fun _ kk=>kk (.bool true)
def Kd.cell (k:Kd) (off:Nat):CK:=
 match k with
 |.box _ ks=>(ks[off]?).getD .none
 |_=>.none
def Zlq {R:Type} (asg:Bool) (d:Nat) (x:SV):Option (Eff R):=
 match x.k with
 |.ck .val=>some (Zp d (.ck .val) Zhl)
 |.ck .nil=>some (Zp d (.ck .nil) Zhl)
 |.ck .none=>some (Zp d (.ck .none) dynU)
 |.ipt=>some (Zp d .ipt Zhl)
 |.clo f=>some (Zp d (.clo f) Zhl)
 |.cln f=>if d=ZoQ then none else some (Zp d (.cln f) Zhl)
 | .ck (.own app e sz)=>
  match x.slot with
  | some s=>
   if s=d then none else
   if asg then some {gh:=[⟨s,none,false,app,e,sz⟩],tgt:=d,put:=true,k:=.ck (.own app e sz),cut:=.no,dyn:=Zhl}
   else some (Zp d (.ali (.slot s)) Zmb)
  |none=>none
 | .box _ _|.grp _ _|.mp _ _|.tgr _ _=>
  match x.slot with
  |some s=>if s=d then none else some (Zp d (.ali (.slot s)) Zmb)
  |none=>none
 |.tip=>some (Zp d .tip Zhl)
 | .ali (.slot q)=>
  if q=d then none else
  match asg,x.pk with
  |true,.ck (.own app e sz)=>some {gh:=[⟨q,none,false,app,e,sz⟩],tgt:=d,put:=true,k:=.ck (.own app e sz),cut:=.no,dyn:=dynP}
  |_,_=>some (Zp d (.ali (.slot q)) Zmb)
 | .ali (.cell q off)=>
  if q=d then none else
  match asg,x.pk.cell off with
  |true,.own app e sz=>some {gh:=[⟨q,some off,false,app,e,sz⟩],tgt:=d,put:=true,k:=.ck (.own app e sz),cut:=.no,dyn:=dynC off}
  |_,_=>if x.pk.isBox then some (Zp d (.ali (.cell q off)) Zmb) else none
 | .elm p sz off=>if p.of=d then none else match p with
  |.slot q=>some (Zp d (.elm (.slot q) sz off) Zhl)
  |.cell q o=>if x.pk.isBox then some (Zp d (.elm (.cell q o) sz off) Zhl) else none
 |.bxf q off=>if q=d then none else if x.pk.isBox then some (Zp d (.bxf q off) Zhl) else none
 |.mbx _=>none
def asB :PV→Option Bool
 |.bool b=>some b
 |_=>none
def ZoU {R:Type} (d:Nat) (c a b:SV):Option (Eff R):=
 if c.isV&&a.isV&&b.isV then some (Zp d (.ck .val) (dyn3 fun c a b=>(asB c.v).bind fun t=>some (if t then a.v else b.v))) else none
def Zr9 {R:Type} (T:Tab) (d:Nat) (op:BinOp) (t:TypeId) (x y:SV):Option (Eff R):=
 match T.lookup t with
 |some i=>if x.isV&&y.isV then some (Zp d (.ck .val) (ZcD fun x y=>Zd op i.desc x.v y.v)) else none
 |none=>none
def Zv0 {R:Type} (d:Nat) (op:UnOp) (x:SV):Option (Eff R):=
 if x.isV then some (Zp d (.ck .val) (Zb4 fun x=>unV op x.v)) else none
def Zaj :PV→PV→Option PV
 |.str s,.int _ i=>if 0≤i then (s[i.toNat]?).map fun b=>.int .u8 b.toNat else none
 |_,_=>none
def Zmc {R:Type} (T:Tab) (d:Nat) (t:TypeId) (x i:SV):Option (Eff R):=
 match T.lookup t with
 |some ti=>if ti.desc=.str∧(x.isV&&i.isV)=true then some (Zp d (.ck .val) (ZcD fun x i=>Zaj x.v i.v)) else none
 |none=>none
section
variable {R :Type} {P:Program} {o:Oper} {κ:List Kd} {E:Eff R}
variable {w0 :World} {F0:Nat→Prop} {X0:List Nat} {σ:List PV} {a:Act} {w:World} {F:Nat→Prop} {fp:Nat→List Nat}
theorem St.at (h:St w0 F0 X0 κ σ a.tmps w F fp) (x:Operand) (hx:x≠.global (match x with|.global g=>g|_=>0)) (hf:∀f,x≠.func f):∃l,l.Nodup∧SR w F (sv κ x).k (dv κ σ x).v (a.eval x) l:=by
 cases x with
 |tmp t=>obtain ⟨l,h1,h2,h3⟩:=h.sr t;exact ⟨l,h1,h3⟩
 |const v=>exact ⟨[],List.nodup_nil,Zl9 v⟩
 |global g=>exact absurd rfl hx
 |func f=>exact absurd rfl (hf f)
theorem St.at' (h:St w0 F0 X0 κ σ a.tmps w F fp) (x:Operand) (hx:(sv κ x).k≠.ck .none):∃l,l.Nodup∧SR w F (sv κ x).k (dv κ σ x).v (a.eval x) l:=by
 cases x with
 |tmp t=>obtain ⟨l,h1,h2,h3⟩:=h.sr t;exact ⟨l,h1,h3⟩
 |const v=>exact ⟨[],List.nodup_nil,Zl9 v⟩
 |global g=>exact absurd rfl hx
 |func f=>exact ⟨[],List.nodup_nil, #[],[],rfl,rfl,rfl,by simp,rfl⟩
theorem St.al' (h:St w0 F0 X0 κ σ a.tmps w F fp) (x:Operand) (hl:Zcv κ σ x):Al a.tmps w (sv κ x).k (dv κ σ x).v (a.eval x):=by
 cases x with
 | tmp t=>
  cases hd:(kd κ t).dep with
  |none=>exact Zdf hd _ _
  |some q=>exact h.al t (hl (by show (kd κ t).hangs=true;unfold Kd.hangs;split;rfl;rw[hd];rfl))
 |const v=>simp only[sv,kOp];exact trivial
 |global g=>exact trivial
 |func f=>exact trivial
theorem Za3 {x:Operand} {s:Nat} (h:(sv κ x).slot=some s):x=.tmp s:=by
 cases x<;>simp[sv] at h
 rw[h]
theorem Zhm {asg:Bool} {x:Operand} (hop:o.op=(if asg then .assign x else .move x)) (ρ:Operand→Value) (w:World):(execOp ρ o).run P w=.ok (.value (ρ x)) w:=by
 cases asg<;>simp at hop<;>simp[execOp,hop]
theorem Zey {asg:Bool} {x:Operand} (hop:o.op=(if asg then .assign x else .move x)):o.op.operands.toList=[x]:=by
 cases asg<;>simp at hop<;>simp[Op.operands,hop]
theorem ZjC {asg:Bool} {x:Operand} {d:Nat} {k:Kd} (hop:o.op=(if asg then .assign x else .move x)) (hd:o.dst=some d) (hk:(sv κ x).k=k) (hn:k≠.ck .none)
 (h0:∀(w:World) (F:Nat→Prop) (x:PV) (v:Value) (l:List Nat),SR w F k x v l→l=[]) (hdep:k.dep=none):Zat P o κ (Zp (R:=R) d k Zhl):=by
 refine Z9 hd rfl rfl fun w0 F0 X0 σ a w F fp kk r h ht hlv hdy=> ?_
 rw[Zey hop] at hdy
 obtain ⟨l,hnd,hsr⟩:=h.at' x (by rw[hk];exact hn)
 rw[hk] at hsr
 obtain rfl:=h0 _ _ _ _ _ hsr
 exact ⟨(dv κ σ x).v,a.eval x,w,F,[],Zhm hop _ _,hdy,Adds.refl w h.fl,List.nodup_nil,hsr,by simp,fun _=>Zdf hdep _ _,fun q hq=>by have h1:=Zax hq;change k.dep=some q at h1;rw[hdep] at h1;cases h1⟩
theorem ZcM {asg:Bool} {x:Operand} {d:Nat} {k:Kd} {dyn:List DV→(PV→Option R)→Option R} (hop:o.op=(if asg then .assign x else .move x)) (hd:o.dst=some d)
 (hfree:∀(w:World) (F:Nat→Prop) (x:PV) (v:Value),SR w F k x v []) (hdep:k.dep≠some d)
 (hdyn:∀(w0:World) (F0:Nat→Prop) (X0:List Nat) (σ:List PV) (a:Act) (w:World) (F:Nat→Prop) (fp:Nat→List Nat) (kk:PV→Option R) (r:R),St w0 F0 X0 κ σ a.tmps w F fp→Zcv κ σ x→dyn [dv κ σ x] kk=some r→
  ∃y,kk y=some r∧Al a.tmps w k y (a.eval x)∧∀q,k.bdep=some q→(kd κ q).isBox=true):Zat P o κ (Zp (R:=R) d k dyn):=by
 refine Z9 hd rfl rfl fun w0 F0 X0 σ a w F fp kk r h ht hlv hdy=> ?_
 rw[Zey hop] at hdy
 obtain ⟨y,hkk,hal,hb⟩:=hdyn w0 F0 X0 σ a w F fp kk r h (Zg hlv (by rw[Zey hop];simp)) hdy
 refine ⟨y,a.eval x,w,F,[],Zhm hop _ _,hkk,Adds.refl w h.fl,List.nodup_nil,hfree _ _ _ _,by simp, ?_,fun q hq=>⟨?_,hb q hq⟩⟩
 ·exact fun _=>Al.keep h hal (fun q hq=>by rw[Zcl,if_neg];rintro ⟨rfl,_⟩;exact hdep hq) (fun q hq=>⟨hb q hq,fun _ _=>rfl⟩) (fun _=>⟨Nat.le_refl _,fun _ _=>rfl⟩) ⟨[],hfree _ _ _ _⟩ (fun _ _=>rfl)
 ·rintro rfl;exact hdep (Zax hq)
theorem ZoV {asg:Bool} {x:Operand} {d:Nat} {g:Gh} {dyn:List DV→(PV→Option R)→Option R} (hop:o.op=(if asg then .assign x else .move x)) (hd:o.dst=some d) (hfz:g.fz=false)
 (hdyn:∀(w0:World) (F0:Nat→Prop) (X0:List Nat) (σ:List PV) (a:Act) (w:World) (F:Nat→Prop) (fp:Nat→List Nat) (kk:PV→Option R) (r:R) (y:PV) (v:Value),St w0 F0 X0 κ σ a.tmps w F fp→Zcv κ σ x→dyn [dv κ σ x] kk=some r→
  GhV g σ a.tmps w y v→v=a.eval x∧kk y=some r):
 Zat P o κ ({gh:=[g],tgt:=d,put:=true,k:=.ck (.own g.app g.e g.sz),cut:=.no,dyn:=dyn}:Eff R):=by
 refine Zdz hd rfl fun w0 F0 X0 κ1 σ a w F F1 fp fp1 kk r h h1 ht hg hF hall hlv hdy=> ?_
 rw[Zey hop] at hdy
 obtain ⟨y,v,l,lb,hgv,rfl,hrow,hnd,hown⟩:=hall g (by simp)
 obtain ⟨rfl,hkk⟩:=hdyn w0 F0 X0 σ a w F fp kk r _ _ h (Zg hlv (by rw[Zey hop];simp)) hdy hgv
 simp only[hfz,Bool.false_eq_true,if_false] at hown
 exact ⟨_,a.eval x,w,F1,lb,Zhm hop _ _,hkk,rfl,rfl,rfl,Nat.le_refl _,fun _ _ _=>rfl,fun _ h=>h,fun _ h=>.inl h,h1.fl,hnd,⟨l,rfl,hrow⟩,fun b hb=>⟨.inr (hown b hb),(h1.pr _ b (hown b hb)).1,(h1.pr _ b (hown b hb)).2.1⟩,fun _=>trivial,fun q hq=>by simp[Kd.bdep] at hq⟩
theorem Zmd {asg:Bool} {x:Operand} {d:Nat} (hop:o.op=(if asg then .assign x else .move x)) (hd:o.dst=some d) (hE:Zlq asg d (sv κ x)=some E):Zat P o κ E:=by
 unfold Zlq at hE
 split at hE
 ·rename_i hk;cases hE
  exact ZjC hop hd hk (by simp) (fun _ _ _ _ _ h=>h.2) rfl
 ·rename_i hk;cases hE
  exact ZjC hop hd hk (by simp) (fun _ _ _ _ _ h=>h.2.2) rfl
 ·rename_i hk;cases hE
  refine Z9 hd rfl rfl fun w0 F0 X0 σ a w F fp kk r h ht hlv hdy=> ?_
  exact ⟨.undef,a.eval x,w,F,[],Zhm hop _ _,hdy,Adds.refl w h.fl,List.nodup_nil,rfl,by simp,fun _=>trivial,fun q hq=>by simp[Zp,Kd.bdep] at hq⟩
 ·rename_i hk;cases hE
  exact ZjC hop hd hk (by simp) (fun _ _ _ _ _ h=>h.2) rfl
 ·rename_i f hk;cases hE
  exact ZjC hop hd hk (by simp) (fun _ _ _ _ _ h=>by obtain ⟨_,_,_,_,_,_,h6⟩:=h;exact h6) rfl
 ·rename_i f hk
  split at hE
  case isTrue=>cases hE
  rename_i hdc
  cases hE
  have hk':kOp κ x=.cln f:=hk
  refine Z9 hd rfl rfl fun w0 F0 X0 σ a w F fp kk r h ht hlv hdy=> ?_
  rw[Zey hop] at hdy
  obtain ⟨l,hnd,hsr⟩:=h.at' x (by rw[hk];simp)
  rw[hk] at hsr
  obtain ⟨_,rfl⟩:=id hsr
  have hal:=h.al' x (Zg hlv (by rw[Zey hop];simp))
  rw[hk] at hal
  exact ⟨(dv κ σ x).v,a.eval x,w,F,[],Zhm hop _ _,hdy,Adds.refl w h.fl,List.nodup_nil,hsr,by simp,fun _=>hal,fun q hq=>by simp[Zp,Kd.bdep] at hq⟩
 ·rename_i app e sz hk
  split at hE
  case h_2=>cases hE
  rename_i s hs
  obtain rfl:=Za3 hs
  split at hE
  case isTrue=>cases hE
  rename_i hsd
  split at hE
  ·cases hE
   refine ZoV hop hd rfl fun w0 F0 X0 σ a w F fp kk r y v h hl hdy hgv=> ?_
   obtain ⟨e1,e2⟩:=hgv
   exact ⟨e1.symm,by rw[←e2];exact hdy⟩
  ·cases hE
   refine ZcM hop hd (fun _ _ _ _=>rfl) (fun e=>hsd (by simpa[Kd.dep,Place.of] using e)) fun w0 F0 X0 σ a w F fp kk r h hl hdy=>⟨.bool true,hdy,rfl,fun q hq=>by simp[Kd.bdep] at hq⟩
 ·rename_i hk
  split at hE
  case h_2=>cases hE
  rename_i s hs
  obtain rfl:=Za3 hs
  split at hE
  case isTrue=>cases hE
  rename_i hsd
  cases hE
  refine ZcM hop hd (fun _ _ _ _=>rfl) (fun e=>hsd (by simpa[Kd.dep,Place.of] using e)) fun w0 F0 X0 σ a w F fp kk r h hl hdy=>⟨.bool true,hdy,rfl,fun q hq=>by simp[Kd.bdep] at hq⟩
 ·rename_i hk
  split at hE
  case h_2=>cases hE
  rename_i s hs
  obtain rfl:=Za3 hs
  split at hE
  case isTrue=>cases hE
  rename_i hsd
  cases hE
  refine ZcM hop hd (fun _ _ _ _=>rfl) (fun e=>hsd (by simpa[Kd.dep,Place.of] using e)) fun w0 F0 X0 σ a w F fp kk r h hl hdy=>⟨.bool true,hdy,rfl,fun q hq=>by simp[Kd.bdep] at hq⟩
 ·rename_i hk
  split at hE
  case h_2=>cases hE
  rename_i s hs
  obtain rfl:=Za3 hs
  split at hE
  case isTrue=>cases hE
  rename_i hsd
  cases hE
  refine ZcM hop hd (fun _ _ _ _=>rfl) (fun e=>hsd (by simpa[Kd.dep,Place.of] using e)) fun w0 F0 X0 σ a w F fp kk r h hl hdy=>⟨.bool true,hdy,rfl,fun q hq=>by simp[Kd.bdep] at hq⟩
 ·rename_i hk
  split at hE
  case h_2=>cases hE
  rename_i s hs
  obtain rfl:=Za3 hs
  split at hE
  case isTrue=>cases hE
  rename_i hsd
  cases hE
  refine ZcM hop hd (fun _ _ _ _=>rfl) (fun e=>hsd (by simpa[Kd.dep,Place.of] using e)) fun w0 F0 X0 σ a w F fp kk r h hl hdy=>⟨.bool true,hdy,rfl,fun q hq=>by simp[Kd.bdep] at hq⟩
 ·rename_i hk;cases hE
  exact ZjC hop hd hk (by simp) (fun _ _ _ _ _ h=>h.2) rfl
 ·rename_i q hk
  split at hE
  case isTrue=>cases hE
  rename_i hqd
  split at hE
  ·rename_i app e sz hasg hpk
   cases hE
   refine ZoV hop hd rfl fun w0 F0 X0 σ a w F fp kk r y v h hl hdy hgv=> ?_
   obtain ⟨e1,e2⟩:=hgv
   have hal:=h.al' x hl
   rw[hk] at hal
   have e3:tv a.tmps q=a.eval x:=hal
   have hk':kOp κ x=.ali (.slot q):=hk
   refine ⟨e1.symm.trans e3, ?_⟩
   rw[←e2]
   simpa[dynP,dv,hk',Kd.dep,Place.of] using hdy
  ·cases hE
   refine ZcM hop hd (fun _ _ _ _=>rfl) (fun e=>hqd (by simpa[Kd.dep,Place.of] using e)) fun w0 F0 X0 σ a w F fp kk r h hl hdy=>⟨.bool true,hdy, ?_,fun q hq=>by simp[Kd.bdep] at hq⟩
   have hal:=h.al' x hl
   rw[hk] at hal
   exact hal
 ·rename_i q off hk
  split at hE
  case isTrue=>cases hE
  rename_i hqd
  have hk':kOp κ x=.ali (.cell q off):=hk
  split at hE
  ·rename_i app e sz hasg hpk
   cases hE
   refine ZoV hop hd rfl fun w0 F0 X0 σ a w F fp kk r y v h hl hdy hgv=> ?_
   have hal:=h.al' x hl
   rw[hk] at hal
   obtain ⟨b,hb1,hb2⟩:=hal
   have hdy':(vl σ q).cells[off]?.bind kk=some r:=by simpa[dynC,dv,hk',Kd.dep,Place.of] using hdy
   rcases hgv with ⟨b',xs,g1,g2,g3,g4⟩|⟨t,cs,xs,g1,g2,g3,g4,_⟩|⟨cs,xs,g1,_⟩
   ·simp only at g1 g3
    rw[hb1] at g1
    simp at g1
    subst g1
    rw[hb2] at g2
    rw[g3] at hdy'
    simp only[PV.cells,g4,Option.bind_some] at hdy'
    exact ⟨(Option.some.inj g2).symm,hdy'⟩
   ·simp only at g1
    rw[hb1] at g1
    cases t<;>simp at g1
   ·simp only at g1
    rw[hb1] at g1
    cases g1
  ·split at hE
   case isFalse=>cases hE
   rename_i hbox
   cases hE
   refine ZcM hop hd (fun _ _ _ _=>rfl) (fun e=>hqd (by simpa[Kd.dep,Place.of] using e)) fun w0 F0 X0 σ a w F fp kk r h hl hdy=>⟨.bool true,hdy, ?_,fun q' hq=> ?_⟩
   ·have hal:=h.al' x hl
    rw[hk] at hal
    exact hal
   ·simp only[Kd.bdep,Option.some.injEq] at hq
    subst hq
    simpa[sv,hk',Kd.dep,Place.of] using hbox
 ·rename_i p sz off hk
  have hk':kOp κ x=.elm p sz off:=hk
  split at hE
  case isTrue=>cases hE
  rename_i hqd
  split at hE
  ·rename_i q
   cases hE
   refine ZcM hop hd (fun _ _ _ _=>rfl) (fun e=>hqd (by simpa[Kd.dep,Place.of] using e)) fun w0 F0 X0 σ a w F fp kk r h hl hdy=>⟨_,hdy, ?_,fun q' hq=>by simp[Kd.bdep] at hq⟩
   have hal:=h.al' x hl
   rw[hk] at hal
   exact hal
  ·rename_i q oo
   split at hE
   case isFalse=>cases hE
   rename_i hbox
   cases hE
   refine ZcM hop hd (fun _ _ _ _=>rfl) (fun e=>hqd (by simpa[Kd.dep,Place.of] using e)) fun w0 F0 X0 σ a w F fp kk r h hl hdy=>⟨_,hdy, ?_,fun q' hq=> ?_⟩
   ·have hal:=h.al' x hl
    rw[hk] at hal
    exact hal
   ·simp only[Kd.bdep,Option.some.injEq] at hq
    subst hq
    simpa[sv,hk',Kd.dep,Place.of] using hbox
 ·rename_i q off hk
  have hk':kOp κ x=.bxf q off:=hk
  split at hE
  case isTrue=>cases hE
  rename_i hqd
  split at hE
  case isFalse=>cases hE
  rename_i hbox
  cases hE
  refine ZcM hop hd (fun _ _ _ _=>rfl) (fun e=>hqd (by simpa[Kd.dep] using e)) fun w0 F0 X0 σ a w F fp kk r h hl hdy=>⟨_,hdy, ?_,fun q' hq=> ?_⟩
  ·have hal:=h.al' x hl
   rw[hk] at hal
   exact hal
  ·simp only[Kd.bdep,Option.some.injEq] at hq
   subst hq
   simpa[sv,hk',Kd.dep,Place.of] using hbox
 ·cases hE
end
section
variable {R :Type} {P:Program} {T:Tab} {o:Oper} {κ:List Kd} {E:Eff R}
theorem Zv1 {x:PV} {b:Bool} (h:asB x=some b):x=.bool b:=by cases x<;>simp[asB] at h;rw[h]
theorem Zsa {c x y:Operand} {d:Nat} (hop:o.op=.pick c x y) (hd:o.dst=some d) (hE:ZoU d (sv κ c) (sv κ x) (sv κ y)=some E):Zat P o κ E:=by
 unfold ZoU at hE
 split at hE
 case isFalse=>cases hE
 rename_i hv
 cases hE
 simp only[Bool.and_eq_true] at hv
 obtain ⟨⟨h1,h2⟩,h3⟩:=hv
 refine Za2 hd rfl rfl rfl fun w0 F0 X0 σ a w F fp kk r h ht hlv hdy=> ?_
 have hdy':(((asB (dv κ σ c).v).bind fun t=>some (if t then (dv κ σ x).v else (dv κ σ y).v)).bind kk)=some r:=by simpa[hop,Op.operands,Zp,dyn3] using hdy
 obtain ⟨z,hz,hkk⟩:=Option.bind_eq_some_iff.1 hdy'
 obtain ⟨t,ht1,ht2⟩:=Option.bind_eq_some_iff.1 hz
 have hc:=rdS h h1
 rw[Zv1 ht1] at hc
 have hcb:=hc.bool_eq
 cases ht2
 refine ⟨_,if t then a.eval x else a.eval y, ?_,hkk, ?_⟩
 ·cases t<;>simp[execOp,hop,hcb,asBool]
 ·cases t
  ·exact rdS h h3
  ·exact rdS h h2
theorem Zut (hT:TabOk P T) {op:BinOp} {t ty:TypeId} {x y:Operand} {d:Nat} (hop:o.op=.binOp op t x y ty) (hd:o.dst=some d) (hE:Zr9 T d op t (sv κ x) (sv κ y)=some E):Zat P o κ E:=by
 unfold Zr9 at hE
 split at hE
 case h_2=>cases hE
 rename_i i hi
 obtain ⟨ht⟩:=hT.ty hi
 split at hE
 case isFalse=>cases hE
 rename_i hv
 cases hE
 simp only[Bool.and_eq_true] at hv
 refine Za2 hd rfl rfl rfl fun w0 F0 X0 σ a w F fp kk r h htt hlv hdy=> ?_
 have hdy':((Zd op i.desc (dv κ σ x).v (dv κ σ y).v).bind kk)=some r:=by simpa[hop,Op.operands,Zp,ZcD] using hdy
 obtain ⟨z,hz,hkk⟩:=Option.bind_eq_some_iff.1 hdy'
 obtain ⟨rr,hr1,hr2,hr3⟩:=ZwX (P:=P) (t:=t) (u:=a.eval x) (v:=a.eval y) (w:=w) hz (rdS h hv.1) (rdS h hv.2) (fun e=>by
  rw[ht.hd] at e
  have:=ht.hdesc
  cases hdd:ht.desc<;>rw[hdd] at e<;>simp[Zf3] at e
  rw[←hdd];exact this)
 refine ⟨z,rr, ?_,hkk,hr2⟩
 have hg:=Zew (P:=P) op t x y (a.eval x) (a.eval y) w hr3
 simp[execOp,hop,hg,hr1]
theorem Zv2 {op:UnOp} {t:TypeId} {x:Operand} {d:Nat} (hop:o.op=.unOp op t x) (hd:o.dst=some d) (hE:Zv0 d op (sv κ x)=some E):Zat P o κ E:=by
 unfold Zv0 at hE
 split at hE
 case isFalse=>cases hE
 rename_i hv
 cases hE
 refine Za2 hd rfl rfl rfl fun w0 F0 X0 σ a w F fp kk r h htt hlv hdy=> ?_
 have hdy':((unV op (dv κ σ x).v).bind kk)=some r:=by simpa[hop,Op.operands,Zp,Zb4] using hdy
 obtain ⟨z,hz,hkk⟩:=Option.bind_eq_some_iff.1 hdy'
 obtain ⟨rr,hr1,hr2⟩:=unV_ok (P:=P) (u:=a.eval x) (w:=w) hz (rdS h hv)
 exact ⟨z,rr,by simp[execOp,hop,hr1],hkk,hr2⟩
theorem Zqu (hT:TabOk P T) {t:TypeId} {x i:Operand} {d:Nat} (hop:o.op=.index t x i) (hd:o.dst=some d) (hE:Zmc T d t (sv κ x) (sv κ i)=some E):Zat P o κ E:=by
 unfold Zmc at hE
 split at hE
 case h_2=>cases hE
 rename_i ti hi
 obtain ⟨ht⟩:=hT.ty hi
 split at hE
 case isFalse=>cases hE
 rename_i hv
 cases hE
 simp only[Bool.and_eq_true] at hv
 refine Za2 hd rfl rfl rfl fun w0 F0 X0 σ a w F fp kk r h htt hlv hdy=> ?_
 have hdy':((Zaj (dv κ σ x).v (dv κ σ i).v).bind kk)=some r:=by simpa[hop,Op.operands,Zp,ZcD] using hdy
 obtain ⟨z,hz,hkk⟩:=Option.bind_eq_some_iff.1 hdy'
 have hx:=rdS h hv.2.1
 have hii:=rdS h hv.2.2
 unfold Zaj at hz
 split at hz
 case h_2=>cases hz
 rename_i s k n e1 e2
 rw[e1] at hx
 rw[e2] at hii
 have hx:=hx.str_eq
 have hii:=hii.int_eq
 split at hz
 case isFalse=>cases hz
 rename_i hn
 obtain ⟨b,hb,rfl⟩:=Option.map_eq_some_iff.1 hz
 have hds:P.underlying t=some .string:=by
  have e:=hv.1
  rw[ht.hd] at e
  have:=ht.hdesc
  cases hdd:ht.desc<;>rw[hdd] at e<;>simp[Zf3] at e
  rw[←hdd];exact this
 have hbb:(⟨s.toArray⟩:ByteArray)[n.toNat]?=some b:=by
  obtain ⟨hlt,rfl⟩:=List.getElem?_eq_some_iff.1 hb
  have hlt':n.toNat<(⟨s.toArray⟩:ByteArray).size:=by simpa[ByteArray.size] using hlt
  rw[ByteArray.getElem?_lt' _ _ hlt']
  rfl
 refine ⟨.int .u8 b.toNat,.int .u8 b.toNat, ?_,hkk,.int _ _⟩
 simp[execOp,hop,Instr.index,hx,hii,asIntOf,underlying,hds,hn,hbb]
theorem Zme {t:TypeId} {e:TypeId} {A:Option Addr} {n c:Nat} {ty:TypeId} (h:P.underlying t=some (.slice e)) (w:World):(Builtin.len_ #[t] ty #[.slice A n c]).run P w=.ok (.int .i64 n) w:=by
 simp[Builtin.len_,underlying,h,goInt]
theorem ZoW {t:TypeId} {s:List UInt8} {ty:TypeId} (h:P.underlying t=some .string) (w:World):(Builtin.len_ #[t] ty #[.string ⟨s.toArray⟩]).run P w=.ok (.int .i64 s.length) w:=by
 rw[run_len_string w t ty _ h]
 simp[ByteArray.size,goInt]
theorem ZbE {b:Builtin} {args:Array Operand} {ts:Array TypeId} (hop:o.op=.call {callee:=.builtin b,args:=args,argTypes:=ts}) (ρ:Operand→Value) (w:World):
 ∃cs,(execOp ρ o).run P w=(builtin b ts o.type cs (args.map ρ)).run P w:=by
 refine ⟨args.map fun|.const _=>true|_=>false, ?_⟩
 simp only[execOp,hop,resolve,invoke,Sem.run_bind,Sem.run_pure,Result.andThen]
 rfl
theorem VR.lst_eq {w:World} {F:Nat→Prop} {l:List PV} {v:Value} (h:VR w F (.lst l) v):∃A c,v=.slice A l.length c:=by cases h;exact ⟨_,_,rfl⟩
theorem ZbV.slice_eq {w:World} {F:Nat→Prop} {app:Bool} {e:TypeId} {sz:Nat} {l:List PV} {v:Value} {lb:List Nat} (h:ZbV w F app e sz l v lb):∃A c,v=.slice A l.length c:=by
 rcases h with ⟨rfl,rfl,_⟩|⟨g,cap,cur,fr,rfl,_⟩
 ·exact ⟨_,_,rfl⟩
 ·exact ⟨_,_,rfl⟩
def Zqv (κ:List Kd) (σ:List PV) (x:Operand):Option (List PV):=
 let s:=sv κ x
 let d:=dv κ σ x
 if s.isV then (match d.v with|.lst l=>some l|_=>none)
 else match s.k with
  |.ck (.own _ _ _)=>match d.v with|.lst l=>some l|_=>none
  | .ali (.slot _)=>match s.pk with
   |.ck (.own _ _ _)=>match d.pv with|.lst l=>some l|_=>none
   |_=>none
  | .ali (.cell _ off)=>match s.pk.cell off with
   |.own _ _ _=>(d.pv.cells[off]?).bind fun y=>match y with|.lst l=>some l|_=>none
   |_=>none
  |_=>none
end
section
variable {R :Type} {P:Program} {T:Tab} {o:Oper} {κ:List Kd} {E:Eff R}
variable {w0 :World} {F0:Nat→Prop} {X0:List Nat} {σ:List PV} {a:Act} {w:World} {F:Nat→Prop} {fp:Nat→List Nat}
def ZbH (s:SV):Option (Option (Bool×TypeId×Nat)):=
 if s.isV then some none
 else match s.k with
  |.ck (.own a e sz)=>some (some (a,e,sz))
  | .ali (.slot _)=>match s.pk with
   |.ck (.own a e sz)=>some (some (a,e,sz))
   |_=>none
  | .ali (.cell _ off)=>match s.pk.cell off with
   |.own a e sz=>some (some (a,e,sz))
   |_=>none
  |_=>none
def Zcm (s:SV):Option (Nat×Option Nat):=
 match s.k with
 |.ck (.own _ _ _)=>s.slot.map fun t=>(t,none)
 |.ali (.slot q)=>some (q,none)
 |.ali (.cell q off)=>some (q,some off)
 |_=>none
theorem ZhW {k:Kd} {off:Nat} {a:Bool} {e:TypeId} {sz:Nat} (h:k.cell off=.own a e sz):∃T ks,k=.box T ks∧ks[off]?=some (.own a e sz):=by
 unfold Kd.cell at h
 split at h
 ·rename_i T ks
  cases hk:ks[off]?<;>rw[hk] at h<;>simp at h
  exact ⟨T,ks,rfl,by rw[h] at hk;exact hk⟩
 ·cases h
theorem Zd8 (h:St w0 F0 X0 κ σ a.tmps w F fp) {x:Operand} (hlx:Zcv κ σ x) {l:List PV} {app:Bool} {e:TypeId} {sz:Nat} (hl:Zqv κ σ x=some l) (hk:ZbH (sv κ x)=some (some (app,e,sz))):
 ∃(q:Nat) (i:Option Nat) (lb:List Nat),Zcm (sv κ x)=some (q,i)∧ZbV w F app e sz l (a.eval x) lb∧lb.Nodup∧(∀b∈lb,b∈fp q):=by
 unfold Zqv at hl
 unfold ZbH at hk
 dsimp only at hl
 split at hk
 case isTrue=>cases hk
 rename_i hv
 rw[if_neg hv] at hl
 split at hk
 ·rename_i a' e' sz' hkk
  cases hk
  rw[hkk] at hl
  dsimp only at hl
  cases x with
  | tmp t=>
   obtain ⟨lb,hn,hsub,hsr⟩:=h.sr t
   have hk':kd κ t=.ck (.own app e sz):=hkk
   rw[hk'] at hsr
   obtain ⟨l',e1,hrow⟩:=hsr
   have e1':(dv κ σ (.tmp t)).v=.lst l':=e1
   rw[e1'] at hl
   cases hl
   refine ⟨t,none,lb, ?_,hrow,hn,hsub⟩
   unfold Zcm;rw[hkk];rfl
  |const v=>simp only[sv,kOp,Kd.ck.injEq] at hkk;unfold ckOf at hkk;split at hkk<;>cases hkk
  |global g=>simp[sv,kOp] at hkk
  |func f=>simp[sv,kOp] at hkk
 ·rename_i q hkk
  split at hk
  case h_2=>cases hk
  rename_i a' e' sz' hpk
  cases hk
  have hk':kOp κ x=.ali (.slot q):=hkk
  have hq:kd κ q=.ck (.own app e sz):=by simpa[sv,hk',Kd.dep,Place.of] using hpk
  rw[hkk] at hl
  dsimp only at hl
  rw[hpk] at hl
  dsimp only at hl
  obtain ⟨lb,hn,hsub,hsr⟩:=h.sr q
  rw[hq] at hsr
  obtain ⟨l',e1,hrow⟩:=hsr
  have e2:(dv κ σ x).pv=.lst l':=by simpa[dv,hk',Kd.dep,Place.of] using e1
  rw[e2] at hl
  cases hl
  have hal:=h.al' x hlx
  rw[hkk] at hal
  have e3:tv a.tmps q=a.eval x:=hal
  rw[e3] at hrow
  refine ⟨q,none,lb, ?_,hrow,hn,hsub⟩
  unfold Zcm;rw[hkk]
 ·rename_i q off hkk
  split at hk
  case h_2=>cases hk
  rename_i a' e' sz' hpk
  cases hk
  have hk':kOp κ x=.ali (.cell q off):=hkk
  rw[hkk] at hl
  dsimp only at hl
  rw[hpk] at hl
  dsimp only at hl
  obtain ⟨TT,ks,hbox,hks⟩:=ZhW hpk
  have hq:kd κ q=.box TT ks:=by simpa[sv,hk',Kd.dep,Place.of] using hbox
  obtain ⟨lb,hn,hsub,hsr⟩:=h.sr q
  rw[hq] at hsr
  obtain ⟨b0,cs,xs,fps,ev,ex,hheap,hgrp,rfl⟩:=hsr
  obtain ⟨y,v,lb',hx,hv',hfi,hcr⟩:=hgrp.ks_at hks
  obtain ⟨l',rfl,hrow⟩:=hcr
  have e2:(dv κ σ x).pv=.agg xs:=by simpa[dv,hk',Kd.dep,Place.of] using ex
  rw[e2] at hl
  simp only[PV.cells,hx,Option.bind_some] at hl
  cases hl
  have hal:=h.al' x hlx
  rw[hkk] at hal
  obtain ⟨b,hb1,hb2⟩:=hal
  rw[ev] at hb1
  simp at hb1
  subst hb1
  rw[cell_of_row w b0 off cs TT (0,0) hheap] at hb2
  have e3:v=a.eval x:=by
   have:cs[off]?=some v:=by simpa using hv'
   rw[this] at hb2
   exact Option.some.inj hb2
  rw[e3] at hrow
  refine ⟨q,some off,lb', ?_,hrow,GrpR.flat_nodup_at (one:=true) (ks:=ks) (xs:=xs) (vs:=cs.toList) (List.nodup_cons.1 hn).2 hfi,fun b hb=>hsub b (List.mem_cons_of_mem _ (List.mem_flatten.2 ⟨lb',List.mem_of_getElem? hfi,hb⟩))⟩
  unfold Zcm;rw[hkk]
 ·cases hk
theorem Zn7 (h:St w0 F0 X0 κ σ a.tmps w F fp) {x:Operand} (hlx:Zcv κ σ x) {l:List PV} (hl:Zqv κ σ x=some l):∃A c,a.eval x=.slice A l.length c:=by
 by_cases hv:(sv κ x).isV=true
 ·have hx:=rdS h hv
  unfold Zqv at hl
  dsimp only at hl
  rw[if_pos hv] at hl
  split at hl
  ·rename_i l' e1;cases hl;rw[e1] at hx;exact hx.lst_eq
  ·cases hl
 ·have hk:∃k,ZbH (sv κ x)=some (some k):=by
   unfold Zqv at hl
   unfold ZbH
   dsimp only at hl
   rw[if_neg hv] at hl⊢
   split at hl
   ·exact ⟨_,rfl⟩
   ·split at hl
    ·exact ⟨_,rfl⟩
    ·cases hl
   ·split at hl
    ·exact ⟨_,rfl⟩
    ·cases hl
   ·cases hl
  obtain ⟨⟨app,e,sz⟩,hk⟩:=hk
  obtain ⟨q,i,lb,h1,h2,h3,h4⟩:=Zd8 h hlx hl hk
  exact h2.slice_eq
def Zi (s:SV) (d:DV):Option (List PV):=
 if s.isV then (match d.v with|.lst l=>some l|_=>none)
 else match s.k with
  |.ck (.own _ _ _)=>match d.v with|.lst l=>some l|_=>none
  | .ali (.slot _)=>match s.pk with
   |.ck (.own _ _ _)=>match d.pv with|.lst l=>some l|_=>none
   |_=>none
  | .ali (.cell _ off)=>match s.pk.cell off with
   |.own _ _ _=>(d.pv.cells[off]?).bind fun y=>match y with|.lst l=>some l|_=>none
   |_=>none
  |_=>none
def ZaK :PV→Option PV
 |.str s=>some (.int .i64 s.length)
 |_=>none
def ZoX (T:Tab) (d:Nat) (t:TypeId) (x:SV):Option (Eff R):=
 match T.lookup t with
 | some ti=>
  match ti.desc with
  |.str=>if x.isV then some (Zp d (.ck .val) (Zb4 fun y=>ZaK y.v)) else none
  |.slice _=>if (ZbH x).isSome then some (Zp d (.ck .val) (Zb4 fun y=>(Zi x y).map fun l=>.int .i64 l.length)) else none
  |_=>none
 |none=>none
theorem Zuu (hT:TabOk P T) {t:TypeId} {x f:Operand} {d:Nat} (hop:o.op=.call {callee:=.builtin .len,args:= #[x],argTypes:= #[t]}) (hd:o.dst=some d) (hE:ZoX T d t (sv κ x)=some E):Zat P o κ E:=by
 unfold ZoX at hE
 split at hE
 case h_2=>cases hE
 rename_i ti hi
 obtain ⟨ht⟩:=hT.ty hi
 have hdd:=ht.hd
 have hu:=ht.hdesc
 split at hE
 ·rename_i hds
  split at hE
  case isFalse=>cases hE
  rename_i hv
  cases hE
  refine Za2 hd rfl rfl rfl fun w0 F0 X0 σ a w F fp kk r h htt hlv hdy=> ?_
  have hdy':((ZaK (dv κ σ x).v).bind kk)=some r:=by simpa[hop,Op.operands,Call.operands,Zp,Zb4] using hdy
  obtain ⟨z,hz,hkk⟩:=Option.bind_eq_some_iff.1 hdy'
  have hx:=rdS h hv
  unfold ZaK at hz
  split at hz
  case h_2=>cases hz
  rename_i s e1
  cases hz
  rw[e1] at hx
  have hx:=hx.str_eq
  have hus:P.underlying t=some .string:=by
   rw[hds] at hdd
   cases hd2:ht.desc<;>rw[hd2] at hdd<;>simp[Zf3] at hdd
   rw[←hd2];exact hu
  refine ⟨_,.int .i64 s.length, ?_,hkk,.int _ _⟩
  obtain ⟨cs,hcs⟩:=ZbE (P:=P) hop a.eval w
  rw[hcs]
  simp[builtin,hx,ZoW hus]
 ·rename_i ee hds
  split at hE
  case isFalse=>cases hE
  cases hE
  refine Za2 hd rfl rfl rfl fun w0 F0 X0 σ a w F fp kk r h htt hlv hdy=> ?_
  have hdy':(((Zi (sv κ x) (dv κ σ x)).map fun l=>PV.int .i64 l.length).bind kk)=some r:=by simpa[hop,Op.operands,Call.operands,Zp,Zb4] using hdy
  obtain ⟨z,hz,hkk⟩:=Option.bind_eq_some_iff.1 hdy'
  obtain ⟨l,hl,rfl⟩:=Option.map_eq_some_iff.1 hz
  obtain ⟨A,c,hx⟩:=Zn7 h (x:=x) (Zg hlv (by rw[hop];simp[Op.operands,Call.operands])) (l:=l) hl
  have hus:∃e,P.underlying t=some (.slice e):=by
   rw[hds] at hdd
   cases hd2:ht.desc<;>rw[hd2] at hdd<;>simp[Zf3] at hdd
   exact ⟨_,by rw[←hd2];exact hu⟩
  obtain ⟨e,hus⟩:=hus
  refine ⟨_,.int .i64 l.length, ?_,hkk,.int _ _⟩
  obtain ⟨cs,hcs⟩:=ZbE (P:=P) hop a.eval w
  rw[hcs]
  simp[builtin,hx,Zme hus]
 ·cases hE
end
def Zc (n:Nat):PV→Option (List PV)
 |.agg l=>if l.length=n then some l else none
 |.undef=>none
 |.tup _=>none
 |x=>if n=1 then some [x] else none
theorem Zcw {n:Nat} {x:PV} {l:List PV} (h:Zc n x=some l):l=x.cells∧l.length=n∧x.width=n∧x≠.undef:=by
 cases x<;>simp[Zc] at h<;>obtain ⟨rfl,rfl⟩:=h<;>simp[PV.cells,PV.width]
def Zsb {R:Type} (T:Tab) (d:Nat) (t:TypeId) (x:SV):Option (Eff R):=
 match T.lookup t with
 |some ti=>if x.isV then some (Zp d (.box t (List.replicate ti.size .val)) (Zb4 fun x=>(Zc ti.size x.v).map .agg)) else none
 |none=>none
def Zmf {R:Type} (T:Tab) (d:Nat) (t:TypeId):Option (Eff R):=
 match T.lookup t with
 |some ti=>some {gh:=[],tgt:=d,put:=true,k:=.box t (ti.zero.map ZC.ck),cut:=.no,dyn:=fun _ kk=>kk (.agg (ti.zero.map ZC.pv))}
 |none=>none
def SV.boxAt (a:SV):Option (Nat×List CK×Nat):=
 match a.k with
 |.box _ ks=>a.slot.map fun s=>(s,ks,0)
 |.bxf q off=>match a.pk with|.box _ ks=>some (q,ks,off)|_=>none
 |.ali (.slot q)=>match a.pk with|.box _ ks=>some (q,ks,0)|_=>none
 |_=>none
def ZdX (a:SV) (d:DV):List PV:=
 match a.k with
 |.box _ _=>d.v.cells
 |_=>d.pv.cells
def Zez (a:SV) (d:DV):Option (List PV):=
 match a.k with
 | .elm (.slot _) _ _=>match a.pk with
  |.ck (.own _ _ _)=>match d.pv with|.lst l=>some l|_=>none
  |_=>none
 | .elm (.cell _ off) _ _=>match a.pk.cell off with
  |.own _ _ _=>(d.pv.cells[off]?).bind fun y=>match y with|.lst l=>some l|_=>none
  |_=>none
 |_=>none
def ZgW (a:SV) (d:DV):Option PV:=
 match d.v with
 |.int _ i=>(Zez a d).bind fun l=>l[i.toNat]?
 |_=>none
def ZoY (a:SV):Option (Bool×TypeId×Nat):=
 match a.k with
 | .elm (.slot _) _ _=>match a.pk with
  |.ck (.own a e sz)=>some (a,e,sz)
  |_=>none
 | .elm (.cell _ off) _ _=>match a.pk.cell off with
  |.own a e sz=>some (a,e,sz)
  |_=>none
 |_=>none
def ckV :CK→Bool
 |.val|.nil=>true
 |_=>false
def Zb (agg:Bool) (off n:Nat) (l:List PV):Option PV:=
 if agg then (if off+n≤l.length then some (.agg ((l.drop off).take n)) else none) else l[off]?
def Zlr {R:Type} (T:Tab) (d:Nat) (t:TypeId) (a:SV):Option (Eff R):=
 match T.lookup t with
 |none=>none
 | some ti=>
  match a.boxAt with
  | some (q,ks,off)=>
   if ti.agg then
    if ((ks.drop off).take ti.size).all ckV then some (Zp d (.ck .val) (Zb4 fun x=>Zb true off ti.size (ZdX a x))) else none
   else match ks[off]? with
    |some .val=>some (Zp d (.ck .val) (Zb4 fun x=>Zb false off 1 (ZdX a x)))
    |some .nil=>some (Zp d (.ck .nil) (Zb4 fun x=>Zb false off 1 (ZdX a x)))
    |some (.own _ _ _)=>if q=d then none else some (Zp d (.ali (.cell q off)) Zmb)
    |_=>none
  | none=>
   match a.k with
   |.ipt=>some (Zp d (.ck .val) (Zb4 fun x=>Zb ti.agg 0 ti.size x.v.cells))
   |.elm _ sz off=>if (ZoY a).map (·.2.2)=some sz then some (Zp d (.ck .val) (Zb4 fun x=>(ZgW a x).bind fun y=>Zb ti.agg off ti.size y.cells)) else none
   |_=>none
def Zmg {R:Type} (T:Tab) (d:Nat) (t:TypeId) (f:Nat) (a:SV):Option (Eff R):=
 match T.lookup t with
 |none=>none
 | some ti=>
  match ti.flds[f]? with
  |none=>none
  | some (fo,ft)=>
   match T.lookup ft with
   |none=>none
   | some fi=>
    if fi.size=0∨ti.desc≠.struct then none else
    match a.boxAt with
    |some (q,ks,off)=>if q=d then none else some (Zp d (.bxf q (off+fo)) Zmb)
    | none=>
     match a.k with
     |.ipt=>some (Zp d .ipt (Zb4 fun x=>some (.agg (x.v.cells.drop fo))))
     |.elm (.slot q) sz off=>if q=d then none else some (Zp d (.elm (.slot q) sz (off+fo)) Zhl)
     |.elm (.cell q oo) sz off=>if q=d then none else if a.pk.isBox then some (Zp d (.elm (.cell q oo) sz (off+fo)) Zhl) else none
     |_=>none
def Zsc {R:Type} (d:Nat) (a:SV):Option (Eff R):=
 match a.boxAt with
 |some (q,ks,off)=>if q=d then none else some (Zp d (.bxf q off) Zmb)
 | none=>match a.k with
  |.ipt=>some (Zp d .ipt Zhl)
  |_=>none
def Zn (x i:PV):Option PV:=
 match x,i with
 |.lst l,.int _ n=>if 0≤n then l[n.toNat]? else none
 |_,_=>none
def Zdt (l:List PV):PV→Option PV
 |.int _ n=>if 0≤n∧n<l.length then some (.int .i64 (n.toNat:Nat)) else none
 |_=>none
def Zsd {R:Type} (T:Tab) (d:Nat) (t:TypeId) (x i:SV):Option (Eff R):=
 match T.lookup t with
 |none=>none
 | some ti=>
  match ti.desc with
  | .slice e=>
   match T.lookup e with
   |none=>none
   | some te=>
    if i.isV then
     if x.isV then some (Zp d .ipt (ZcD fun x i=>(Zn x.v i.v).bind fun y=>(Zc te.size y).map .agg))
     else match ZbH x,Zcm x with
      | some (some (_,_,sz)),some (q,none)=>if q=d∨sz≠te.size then none else
       some (Zp d (.elm (.slot q) sz 0) (ZcD fun y j=>(Zi x y).bind fun l=>Zdt l j.v))
      | some (some (_,_,sz)),some (q,some off)=>if q=d∨sz≠te.size then none else
       some (Zp d (.elm (.cell q off) sz 0) (ZcD fun y j=>(Zi x y).bind fun l=>Zdt l j.v))
      |_,_=>none
    else none
  |_=>none
section
variable {R :Type} {P:Program} {T:Tab} {o:Oper} {κ:List Kd} {E:Eff R}
variable {w0 :World} {F0:Nat→Prop} {X0:List Nat} {σ:List PV} {a:Act} {w:World} {F:Nat→Prop} {fp:Nat→List Nat}
theorem ZjD {one:Bool}:∀(xs:List PV) (vs:List Value),xs.length=vs.length→(∀(i:Nat) (y:PV),xs[i]?=some y→y.one=true∧VR w F y (vs.getD i Go.undef))→GrpR w F one (List.replicate xs.length .val) xs vs (List.replicate xs.length [])
 |[],[],_,_=>.nil
 | x::xs,v::vs,hl,h=>by
  simp only[List.length_cons,List.replicate_succ]
  refine .cons ⟨(h 0 x rfl).2,rfl⟩ (fun _=>(h 0 x rfl).1) (ZjD xs vs (by simpa using hl) fun i y hy=> ?_)
  simpa using h (i+1) y (by simpa using hy)
theorem ZbI (n:Nat):(List.replicate n ([]:List Nat)).flatten=[]:=by induction n<;>simp_all [List.replicate_succ]
theorem Zqw {one:Bool}:∀(zs:List ZC) (vs:List Value),vs.map Zf2=zs→GrpR w F one (zs.map ZC.ck) (zs.map ZC.pv) vs (List.replicate zs.length [])
 |[],[],_=>.nil
 | z::zs,v::vs,h=>by
  simp only[List.map_cons,List.cons.injEq] at h
  simp only[List.map_cons,List.length_cons,List.replicate_succ]
  obtain ⟨rfl,h2⟩:=h
  exact .cons (ZvX v) (fun _=>Zl8 _) (Zqw zs vs h2)
 |[],_::_,h=>by simp at h
 |_::_,[],h=>by simp at h
theorem ZjE {t:TypeId} {ti:TI} (ht:TyOk P t ti) (hagg:ti.agg=true) {b off:Nat} (cs:List Value) (hl:cs.length=ti.size) (h:∀(j:Nat) (v:Value),cs[j]?=some v→w.cell? ⟨b,off+j,none⟩=some v):
 (Instr.loadAt t (.pointer (some ⟨b,off,none⟩))).run P w=.ok (.agg cs.toArray) w:=by
 have h1:=ht.run_isAgg w
 have h2:=ht.run_sizeOf w
 have h3:=run_loadCells_list (P:=P) (w:=w) ⟨b,off,none⟩ cs (fun j v hj=>by rw[Addr.add_lit];exact h j v hj)
 rw[hl] at h3
 simp[Instr.loadAt,Instr.sureAddr,loadVar,h1,hagg,h2,h3]
theorem ZjF {t:TypeId} {ti:TI} (ht:TyOk P t ti) (hagg:ti.agg=false) {b off:Nat} {v:Value} (h:w.cell? ⟨b,off,none⟩=some v):(Instr.loadAt t (.pointer (some ⟨b,off,none⟩))).run P w=.ok v w:=by
 have h1:=ht.run_isAgg w
 simp[Instr.loadAt,Instr.sureAddr,loadVar,h1,hagg,load,Sem.run,h]
theorem ZhX {t:TypeId} {ti:TI} (ht:TyOk P t ti) {b base:Nat} {l:List PV} {z:PV} {off:Nat} (hz:Zb ti.agg off ti.size l=some z)
 (hc:∀(j:Nat) (y:PV),l[j]?=some y→(ti.agg=true→off≤j∧j<off+ti.size)→(ti.agg=false→j=off)→∃c,w.cell? ⟨b,base+j,none⟩=some c∧VR w F y c∧y.one=true):∃v,(Instr.loadAt t (.pointer (some ⟨b,base+off,none⟩))).run P w=.ok v w∧VR w F z v:=by
 unfold Zb at hz
 cases hagg:ti.agg
 ·rw[hagg] at hz
  simp only[Bool.false_eq_true,if_false] at hz
  obtain ⟨c,h1,h2,h3⟩:=hc off z hz (fun e=>by rw[hagg] at e;cases e) (fun _=>rfl)
  exact ⟨c,ZjF ht hagg h1,h2⟩
 ·rw [hagg] at hz
  simp only[if_true] at hz
  split at hz
  case isFalse=>cases hz
  rename_i hle
  cases hz
  have hex:∀j,∃c:Value,∀y,l[off+j]?=some y→j<ti.size→w.cell? ⟨b,base+(off+j),none⟩=some c∧VR w F y c∧y.one=true:=by
   intro j
   by_cases hj:j<ti.size
   ·cases hy:l[off+j]? with
    |none=>exact ⟨Go.undef,fun y h=>by cases h⟩
    | some y=>
     obtain ⟨c,h1,h2,h3⟩:=hc (off+j) y hy (fun _=>⟨by omega,by omega⟩) (fun e=>by rw[hagg] at e;cases e)
     exact ⟨c,fun y' hy' _=>by cases hy';exact ⟨h1,h2,h3⟩⟩
   ·exact ⟨Go.undef,fun y _ h=>absurd h hj⟩
  let f:Nat→Value:=fun j=>Classical.choose (hex j)
  have hf:∀j y,l[off+j]?=some y→j<ti.size→w.cell? ⟨b,base+(off+j),none⟩=some (f j)∧VR w F y (f j)∧y.one=true:=fun j y hy hj=>Classical.choose_spec (hex j) y hy hj
  have hlen:((List.range ti.size).map f).length=ti.size:=by simp
  refine ⟨.agg ((List.range ti.size).map f).toArray,ZjE ht hagg _ hlen (fun j v hj=> ?_),VR.of_cells (by simp;omega) fun i x hx=> ?_⟩
  ·have hjs:j<ti.size:=by have:=(List.getElem?_eq_some_iff.1 hj).1;simpa using this
   simp[hjs] at hj
   subst hj
   obtain ⟨y,hy⟩:∃y,l[off+j]?=some y:=⟨l[off+j]'(by omega),List.getElem?_eq_getElem _⟩
   rw[Nat.add_assoc]
   exact (hf j y hy hjs).1
  ·have hi:i<ti.size:=by have:=(List.getElem?_eq_some_iff.1 hx).1;simp at this;omega
   have hx':l[off+i]?=some x:=by
    rw[List.getElem?_take,if_pos hi,List.getElem?_drop] at hx
    exact hx
   obtain ⟨_,h2,h3⟩:=hf i x hx' hi
   refine ⟨h3, ?_⟩
   have:(((List.range ti.size).map f).toArray).getD i Go.undef=f i:=by simp[Array.getD,hi]
   rw[this]
   exact h2
theorem ZeA (h:St w0 F0 X0 κ σ a.tmps w F fp) {x:Operand} (hlx:Zcv κ σ x) {q off:Nat} {ks:List CK} (hb:(sv κ x).boxAt=some (q,ks,off)):
 ∃ (b:Nat) (cs:Array Value) (T:TypeId) (xs:List PV) (fps:List (List Nat)) (l:List Nat),kd κ q=.box T ks∧vl σ q=.agg xs∧ZdX (sv κ x) (dv κ σ x)=xs∧tv a.tmps q=.pointer (some ⟨b,0,none⟩)∧a.eval x=.pointer (some ⟨b,off,none⟩)∧
  w.heap[b]?=some (.cells cs T (0,0))∧GrpR w F true ks xs cs.toList fps∧(b::fps.flatten).Nodup∧(∀c∈b::fps.flatten,c∈fp q):=by
 have key:∀q T ks,kd κ q=.box T ks→∃(b:Nat) (cs:Array Value) (xs:List PV) (fps:List (List Nat)),vl σ q=.agg xs∧tv a.tmps q=.pointer (some ⟨b,0,none⟩)∧w.heap[b]?=some (.cells cs T (0,0))∧GrpR w F true ks xs cs.toList fps∧(b::fps.flatten).Nodup∧(∀c∈b::fps.flatten,c∈fp q):=by
  intro q T ks hk
  obtain ⟨l,hn,hs,hsr⟩:=h.sr q
  rw[hk] at hsr
  obtain ⟨b,cs,xs,fps,e1,e2,e3,e4,rfl⟩:=hsr
  exact ⟨b,cs,xs,fps,e2,e1,e3,e4,hn,hs⟩
 unfold SV.boxAt at hb
 split at hb
 ·rename_i T ks' hk
  obtain ⟨s,hs,e⟩:=Option.map_eq_some_iff.1 hb
  cases e
  obtain rfl:=Za3 hs
  have hk':kd κ q=.box T ks:=hk
  obtain ⟨b,cs,xs,fps,e1,e2,e3,e4,e5,e6⟩:=key q T ks hk'
  refine ⟨b,cs,T,xs,fps,[],hk',e1, ?_,e2,e2,e3,e4,e5,e6⟩
  have:(dv κ σ (.tmp q)).v=.agg xs:=e1
  unfold ZdX;rw[hk];dsimp only;rw[this];rfl
 ·rename_i q' off' hk
  split at hb
  case h_2=>cases hb
  rename_i T ks' hpk
  cases hb
  have hk':kOp κ x=.bxf q off:=hk
  have hq:kd κ q=.box T ks:=by simpa[sv,hk',Kd.dep] using hpk
  obtain ⟨b,cs,xs,fps,e1,e2,e3,e4,e5,e6⟩:=key q T ks hq
  have hal:=h.al' x hlx
  rw[hk] at hal
  obtain ⟨b',h1,h2⟩:=hal
  rw[e2] at h1
  simp at h1
  subst h1
  refine ⟨b,cs,T,xs,fps,[],hq,e1, ?_,e2,h2,e3,e4,e5,e6⟩
  have:(dv κ σ x).pv=.agg xs:=by simpa[dv,hk',Kd.dep] using e1
  unfold ZdX;rw[hk];dsimp only;rw[this];rfl
 ·rename_i q' hk
  split at hb
  case h_2=>cases hb
  rename_i T ks' hpk
  cases hb
  have hk':kOp κ x=.ali (.slot q):=hk
  have hq:kd κ q=.box T ks:=by simpa[sv,hk',Kd.dep,Place.of] using hpk
  obtain ⟨b,cs,xs,fps,e1,e2,e3,e4,e5,e6⟩:=key q T ks hq
  have hal:=h.al' x hlx
  rw[hk] at hal
  have e7:tv a.tmps q=a.eval x:=hal
  refine ⟨b,cs,T,xs,fps,[],hq,e1, ?_,e2,by rw[←e7];exact e2,e3,e4,e5,e6⟩
  have:(dv κ σ x).pv=.agg xs:=by simpa[dv,hk',Kd.dep,Place.of] using e1
  unfold ZdX;rw[hk];dsimp only;rw[this];rfl
 ·cases hb
theorem Zuv (hT:TabOk P T) {t:TypeId} {x:Operand} {d:Nat} (hop:o.op=.box t x) (hd:o.dst=some d) (hE:Zsb T d t (sv κ x)=some E):Zat P o κ E:=by
 unfold Zsb at hE
 split at hE
 case h_2=>cases hE
 rename_i ti hi
 split at hE
 case isFalse=>cases hE
 rename_i hv
 cases hE
 refine Z9 hd rfl rfl fun w0 F0 X0 σ a w F fp kk r h ht hlv hdy=> ?_
 have hdy':(((Zc ti.size (dv κ σ x).v).map PV.agg).bind kk)=some r:=by simpa[hop,Op.operands,Zp,Zb4] using hdy
 obtain ⟨z,hz,hkk⟩:=Option.bind_eq_some_iff.1 hdy'
 obtain ⟨l,hl,rfl⟩:=Option.map_eq_some_iff.1 hz
 obtain ⟨rfl,h1,h2,h3⟩:=Zcw hl
 have hx:=rdS h hv
 have hA:=(Adds.refl w h.fl).alloc (.cells (a.eval x).cells t)
 have hx':=hx.keep (hA.stays h.fl)
 obtain ⟨c1,c2⟩:=hx'.cells h3
 have hrun:(execOp a.eval o).run P w=.ok (.value (.pointer (some ⟨w.heap.size,0,none⟩))) (w.alloc (.cells (a.eval x).cells t)):=by
  simp[execOp,hop,Instr.box,newVar,newRow]
 have hlen:(dv κ σ x).v.cells.length=(a.eval x).cells.toList.length:=by rw[PV.length_cells];simpa using c1
 have hg:=ZjD (w:=w.alloc (.cells (a.eval x).cells t)) (F:=F) (one:=true) (dv κ σ x).v.cells (a.eval x).cells.toList hlen (fun i y hy=>by
  obtain ⟨e1,e2⟩:=c2 i y hy
  refine ⟨e1, ?_⟩
  have:(a.eval x).cells.toList.getD i Go.undef=(a.eval x).cells.getD i Go.undef:=by simp[List.getD,Array.getD_eq_getD_getElem?]
  rw[this];exact e2)
 rw[h1] at hg
 refine ⟨_,_,_,F,[w.heap.size],hrun,hkk,hA,by simp,⟨w.heap.size,(a.eval x).cells,_,_,rfl,rfl,heap_alloc_new w _,hg,by rw[ZbI]⟩,fun b hb=> ?_,fun _=>trivial,fun q hq=>by simp[Zp,Kd.bdep] at hq⟩
 simp at hb
 subst hb
 exact ⟨Nat.le_refl _,by simp,fun hc=>by have:=h.fl _ hc;omega⟩
theorem Zqx (hT:TabOk P T) {t:TypeId} {d:Nat} (hop:o.op=.alloc t) (hd:o.dst=some d) (hE:Zmf T d t=some E):Zat P o κ E:=by
 unfold Zmf at hE
 split at hE
 case h_2=>cases hE
 rename_i ti hi
 obtain ⟨ht⟩:=hT.ty hi
 cases hE
 refine Z9 hd rfl rfl fun w0 F0 X0 σ a w F fp kk r h htt hlv hdy=> ?_
 have hA:=(Adds.refl w h.fl).alloc (.cells ht.zv.cells t)
 have hz:=ht.run_zero w
 have hrun:(execOp a.eval o).run P w=.ok (.value (.pointer (some ⟨w.heap.size,0,none⟩))) (w.alloc (.cells ht.zv.cells t)):=by
  simp[execOp,hop,Instr.alloc,hz,newVar,newRow]
 have hg:=Zqw (w:=w.alloc (.cells ht.zv.cells t)) (F:=F) (one:=true) ti.zero ht.zv.cells.toList ht.hzero.symm
 refine ⟨_,_,_,F,[w.heap.size],hrun,hdy,hA,by simp,⟨w.heap.size,ht.zv.cells,_,_,rfl,rfl,heap_alloc_new w _,hg,by rw[ZbI]⟩,fun b hb=> ?_,fun _=>trivial,fun q hq=>by simp[Kd.bdep] at hq⟩
 simp at hb
 subst hb
 exact ⟨Nat.le_refl _,by simp,fun hc=>by have:=h.fl _ hc;omega⟩
end
section
variable {R :Type} {P:Program} {T:Tab} {o:Oper} {κ:List Kd} {E:Eff R}
variable {w0 :World} {F0:Nat→Prop} {X0:List Nat} {σ:List PV} {a:Act} {w:World} {F:Nat→Prop} {fp:Nat→List Nat}
theorem Zc6 {t:TypeId} {x:Operand} (hop:o.op=.load t x) {ρ:Operand→Value} {v:Value} (h:(Instr.loadAt t (ρ x)).run P w=.ok v w):(execOp ρ o).run P w=.ok (.value v) w:=by
 simp[execOp,hop,h]
theorem Zls (h:St w0 F0 X0 κ σ a.tmps w F fp) {x:Operand} (hlx:Zcv κ σ x) {p:Place} {sz off:Nat} {l:List PV} {app:Bool} {e:TypeId} {sz':Nat} (hk:(sv κ x).k=.elm p sz off) (hl:Zez (sv κ x) (dv κ σ x)=some l) (hK:ZoY (sv κ x)=some (app,e,sz')):
 ∃ (i n cap g:Nat) (cur:Array Value) (fr:Nat×Nat) (lb:List Nat),(dv κ σ x).v=.int .i64 i∧i<l.length∧a.eval x=.pointer (some ⟨g,i * sz+off,none⟩)∧w.heap[g]?=some (.cells cur e fr)∧(fr.2≤fr.1∨cur.size≤fr.1)∧(app=true→fr=(0,0))∧
  l.length≤cap∧cap≤maxLen∧cur.size=cap * sz'∧ZcK w F sz' l cur∧g∈fp p.of∧PlV a.tmps w p (.slice (some ⟨g,0,none⟩) l.length cap):=by
 have hal:=h.al' x hlx
 rw[hk] at hal
 obtain ⟨i,g,n,cap,e1,e2,e3,e4⟩:=hal
 have row:∀{v:Value} {lb:List Nat},ZbV w F app e sz' l v lb→(∀b∈lb,b∈fp p.of)→v=.slice (some ⟨g,0,none⟩) n cap→∃(n cap:Nat) (cur:Array Value) (fr:Nat×Nat) (lb:List Nat),i<l.length∧w.heap[g]?=some (.cells cur e fr)∧(fr.2≤fr.1∨cur.size≤fr.1)∧(app=true→fr=(0,0))∧l.length≤cap∧cap≤maxLen∧cur.size=cap * sz'∧ZcK w F sz' l cur∧g∈fp p.of∧PlV a.tmps w p (.slice (some ⟨g,0,none⟩) l.length cap):=by
  intro v lb hr hlb hv
  rcases hr with ⟨rfl,rfl,rfl⟩|⟨g',cap',cur,fr,rfl,rfl,h3,h4,h5,h6,h7,h8,h9⟩
  ·simp at hv
  ·simp at hv
   obtain ⟨rfl,rfl,rfl⟩:=hv
   exact ⟨l.length,cap',cur,fr,[g'],e2,h3,h5,h4,h6,h7,h8,h9,hlb g' (by simp),e3⟩
 unfold Zez at hl
 unfold ZoY at hK
 rw[hk] at hl hK
 cases p with
 | slot q=>
  dsimp only at hl hK
  have hk':kOp κ x=.elm (.slot q) sz off:=hk
  split at hK
  case h_2=>cases hK
  rename_i a' e' s' hpk
  cases hK
  rw[hpk] at hl
  dsimp only at hl
  have hq:kd κ q=.ck (.own app e sz'):=by simpa[sv,hk',Kd.dep,Place.of] using hpk
  obtain ⟨lb,hn,hsub,hsr⟩:=h.sr q
  rw[hq] at hsr
  obtain ⟨l',ex,hrow⟩:=hsr
  have e5:(dv κ σ x).pv=.lst l':=by simpa[dv,hk',Kd.dep,Place.of] using ex
  rw[e5] at hl
  cases hl
  obtain ⟨n',cap',cur,fr,lb',h1,h2,h3,h4,h5,h6,h7,h8,h9,h10⟩:=row hrow hsub e3
  exact ⟨i,n',cap',g,cur,fr,lb',e1,h1,e4,h2,h3,h4,h5,h6,h7,h8,h9,h10⟩
 | cell q oo=>
  dsimp only at hl hK
  have hk':kOp κ x=.elm (.cell q oo) sz off:=hk
  split at hK
  case h_2=>cases hK
  rename_i a' e' s' hpk
  cases hK
  rw[hpk] at hl
  dsimp only at hl
  obtain ⟨TT,ks,hbox,hks⟩:=ZhW hpk
  have hq:kd κ q=.box TT ks:=by simpa[sv,hk',Kd.dep,Place.of] using hbox
  obtain ⟨lb,hn,hsub,hsr⟩:=h.sr q
  rw[hq] at hsr
  obtain ⟨b0,cs,xs,fps,ev,ex,hheap,hgrp,rfl⟩:=hsr
  obtain ⟨y,v,lb',hx,hv',hfi,hcr⟩:=hgrp.ks_at hks
  obtain ⟨l',rfl,hrow⟩:=hcr
  have e5:(dv κ σ x).pv=.agg xs:=by simpa[dv,hk',Kd.dep,Place.of] using ex
  rw[e5] at hl
  simp only[PV.cells,hx,Option.bind_some] at hl
  cases hl
  obtain ⟨b,hb1,hb2⟩:=e3
  rw[ev] at hb1
  simp at hb1
  subst hb1
  have hb3:=hb2
  rw[cell_of_row w b0 oo cs TT (0,0) hheap] at hb2
  have e6:v=.slice (some ⟨g,0,none⟩) n cap:=by
   have:cs[oo]?=some v:=by simpa using hv'
   rw[this] at hb2
   exact Option.some.inj hb2
  have e3:PlV a.tmps w (.cell q oo) (.slice (some ⟨g,0,none⟩) n cap):=⟨b0,ev,hb3⟩
  obtain ⟨n',cap',cur,fr,lb'',h1,h2,h3,h4,h5,h6,h7,h8,h9,h10⟩:=row hrow (fun b hb=>hsub b (List.mem_cons_of_mem _ (List.mem_flatten.2 ⟨lb',List.mem_of_getElem? hfi,hb⟩))) e6
  exact ⟨i,n',cap',g,cur,fr,lb'',e1,h1,e4,h2,h3,h4,h5,h6,h7,h8,h9,h10⟩
theorem Zf4 {k:CK} {x:PV} {v:Value} {l:List Nat} (h:CR w F k x v l) (hk:ckV k=true):VR w F x v∧l=[]:=by
 cases k<;>simp[ckV] at hk
 ·exact h.vr (.inl rfl)
 ·exact h.vr (.inr rfl)
theorem Zmh (hT:TabOk P T) {t:TypeId} {x:Operand} {d:Nat} (hop:o.op=.load t x) (hd:o.dst=some d) (hE:Zlr T d t (sv κ x)=some E):Zat P o κ E:=by
 unfold Zlr at hE
 split at hE
 case h_1=>cases hE
 rename_i ti hi
 obtain ⟨ht⟩:=hT.ty hi
 split at hE
 ·rename_i q ks off hb
  split at hE
  ·rename_i hagg
   split at hE
   case isFalse=>cases hE
   rename_i hall
   cases hE
   refine Za2 hd rfl rfl rfl fun w0 F0 X0 σ a w F fp kk r h htt hlv hdy=> ?_
   have hdy':((Zb true off ti.size (ZdX (sv κ x) (dv κ σ x))).bind kk)=some r:=by simpa[hop,Op.operands,Zp,Zb4] using hdy
   obtain ⟨z,hz,hkk⟩:=Option.bind_eq_some_iff.1 hdy'
   obtain ⟨b,cs,TT,xs,fps,_,e1,e2,e3,e4,e5,e6,e7,e8,e9⟩:=ZeA h (Zg hlv (by rw[hop];exact .head _)) hb
   rw[e3] at hz
   rw[←hagg] at hz
   obtain ⟨v,h1,h2⟩:=ZhX (w:=w) (F:=F) (b:=b) (base:=0) ht hz (fun j y hy hj _=>by
    obtain ⟨hj1,hj2⟩:=hj hagg
    obtain ⟨k,c,f,g1,g2,g3,g4,g5⟩:=e7.at j y hy
    rw[Nat.zero_add,cell_of_row w b j cs TT (0,0) e6]
    have hk:ckV k=true:=by
     rw[List.all_eq_true] at hall
     refine hall k (List.mem_of_getElem? (i:=j - off) ?_)
     rw[List.getElem?_take,if_pos (by omega),List.getElem?_drop]
     rw[show off+(j - off)=j from by omega]
     exact g1
    exact ⟨c,by simpa using g2,(Zf4 g4 hk).1,g5 rfl⟩)
   refine ⟨z,v,Zc6 hop ?_,hkk,h2⟩
   rw[e5]
   simpa using h1
  ·rename_i hagg
   have hagg':ti.agg=false:=by simpa using hagg
   have key:∀(k:CK),ks[off]?=some k→ckV k=true→∀(w0:World) (F0:Nat→Prop) (X0:List Nat) (σ:List PV) (a:Act) (w:World) (F:Nat→Prop) (fp:Nat→List Nat) (kk:PV→Option R) (r:R),St w0 F0 X0 κ σ a.tmps w F fp→Zcv κ σ x→
    ((Zb false off 1 (ZdX (sv κ x) (dv κ σ x))).bind kk)=some r→∃z v,kk z=some r∧(execOp a.eval o).run P w=.ok (.value v) w∧CR w F k z v []:=by
    intro k hks hkv w0 F0 X0 σ a w F fp kk r h hlx hdy
    obtain ⟨z,hz,hkk⟩:=Option.bind_eq_some_iff.1 hdy
    obtain ⟨b,cs,TT,xs,fps,_,e1,e2,e3,e4,e5,e6,e7,e8,e9⟩:=ZeA h hlx hb
    rw[e3] at hz
    have hz':xs[off]?=some z:=by simpa[Zb] using hz
    obtain ⟨k',c,f,g1,g2,g3,g4,g5⟩:=e7.at off z hz'
    rw[hks] at g1
    cases g1
    obtain rfl:=(Zf4 g4 hkv).2
    refine ⟨z,c,hkk,Zc6 hop ?_,g4⟩
    rw[e5]
    exact ZjF ht hagg' (by rw[cell_of_row w b off cs TT (0,0) e6];simpa using g2)
   split at hE
   ·rename_i hks
    cases hE
    refine Z9 hd rfl rfl fun w0 F0 X0 σ a w F fp kk r h htt hlv hdy=> ?_
    obtain ⟨z,v,hkk,hrun,hcr⟩:=key _ hks rfl w0 F0 X0 σ a w F fp kk r h (Zg hlv (by rw[hop];exact .head _)) (by simpa[hop,Op.operands,Zp,Zb4] using hdy)
    exact ⟨z,v,w,F,[],hrun,hkk,Adds.refl w h.fl,List.nodup_nil,hcr,by simp,fun _=>trivial,fun q hq=>by simp[Zp,Kd.bdep] at hq⟩
   ·rename_i hks
    cases hE
    refine Z9 hd rfl rfl fun w0 F0 X0 σ a w F fp kk r h htt hlv hdy=> ?_
    obtain ⟨z,v,hkk,hrun,hcr⟩:=key _ hks rfl w0 F0 X0 σ a w F fp kk r h (Zg hlv (by rw[hop];exact .head _)) (by simpa[hop,Op.operands,Zp,Zb4] using hdy)
    exact ⟨z,v,w,F,[],hrun,hkk,Adds.refl w h.fl,List.nodup_nil,hcr,by simp,fun _=>trivial,fun q hq=>by simp[Zp,Kd.bdep] at hq⟩
   ·rename_i app e sz hks
    split at hE
    case isTrue=>cases hE
    rename_i hqd
    cases hE
    refine Z9 hd rfl rfl fun w0 F0 X0 σ a w F fp kk r h htt hlv hdy=> ?_
    have hdy':kk (.bool true)=some r:=by simpa[hop,Op.operands,Zp,Zmb] using hdy
    obtain ⟨b,cs,TT,xs,fps,_,e1,e2,e3,e4,e5,e6,e7,e8,e9⟩:=ZeA h (Zg hlv (by rw[hop];exact .head _)) hb
    obtain ⟨y,v,lb,g1,g2,g3,g4⟩:=e7.ks_at hks
    have hc:w.cell? ⟨b,off,none⟩=some v:=by rw[cell_of_row w b off cs TT (0,0) e6];simpa using g2
    refine ⟨.bool true,v,w,F,[],Zc6 hop (by rw[e5];exact ZjF ht hagg' hc),hdy',Adds.refl w h.fl,List.nodup_nil,rfl,by simp, ?_,fun q' hq=> ?_⟩
    ·refine fun _=>⟨b, ?_,hc⟩
     rw[Zcl,if_neg (by rintro ⟨e,_⟩;exact hqd e)]
     exact e4
    ·simp only[Zp,Kd.bdep,Option.some.injEq] at hq
     subst hq
     exact ⟨hqd,by rw[e1];rfl⟩
   ·cases hE
 ·split at hE
  ·rename_i hb hk
   cases hE
   refine Za2 hd rfl rfl rfl fun w0 F0 X0 σ a w F fp kk r h htt hlv hdy=> ?_
   have hdy':((Zb ti.agg 0 ti.size (dv κ σ x).v.cells).bind kk)=some r:=by simpa[hop,Op.operands,Zp,Zb4] using hdy
   obtain ⟨z,hz,hkk⟩:=Option.bind_eq_some_iff.1 hdy'
   obtain ⟨l,_,hsr⟩:=h.at' x (by rw[hk];simp)
   rw[hk] at hsr
   obtain ⟨b,off,xs,e1,e2,e3,e4⟩:=hsr.1 ((Zg hlv (by rw[hop];exact .head _)) (by show (kOp κ x).hangs=true;rw[show kOp κ x=.ipt from hk];rfl))
   rw[e2] at hz
   obtain ⟨v,h1,h2⟩:=ZhX (w:=w) (F:=F) (b:=b) (base:=off) ht hz (fun j y hy _ _=>by
    obtain ⟨g1,c,g2,g3⟩:=e4 j y hy
    exact ⟨c,g2,g3,g1⟩)
   refine ⟨z,v,Zc6 hop ?_,hkk,h2⟩
   rw[e1]
   simpa using h1
  ·rename_i p sz off hk
   split at hE
   case isFalse=>cases hE
   rename_i hK
   cases hE
   obtain ⟨⟨app,e,sz'⟩,hK1,hK2⟩:=Option.map_eq_some_iff.1 hK
   simp only at hK2
   subst hK2
   refine Za2 hd rfl rfl rfl fun w0 F0 X0 σ a w F fp kk r h htt hlv hdy=> ?_
   have hdy':(((ZgW (sv κ x) (dv κ σ x)).bind fun y=>Zb ti.agg off ti.size y.cells).bind kk)=some r:=by simpa[hop,Op.operands,Zp,Zb4] using hdy
   obtain ⟨z,hz,hkk⟩:=Option.bind_eq_some_iff.1 hdy'
   obtain ⟨y,hy,hz⟩:=Option.bind_eq_some_iff.1 hz
   unfold ZgW at hy
   split at hy
   case h_2=>cases hy
   rename_i kd' i hvi
   obtain ⟨l,hl,hli⟩:=Option.bind_eq_some_iff.1 hy
   obtain ⟨i',n,cap,g,cur,fr,lb,g1,g2,g3,g4,g5,g6,g7,g8,g9,g10,g11,g12⟩:=Zls h (Zg hlv (by rw[hop];exact .head _)) hk hl hK1
   rw[hvi] at g1
   cases g1
   have hli':l[i']?=some y:=by simpa using hli
   obtain ⟨k1,k2,u,k3,k4⟩:=g10 i' y hli'
   obtain ⟨c1,c2⟩:=k3.cells k2
   obtain ⟨v,h1,h2⟩:=ZhX (w:=w) (F:=F) (b:=g) (base:=i' * sz') ht hz (fun j y' hy' _ _=>by
    obtain ⟨m1,m2⟩:=c2 j y' hy'
    have hjl:j<u.cells.size:=by
     have:=(List.getElem?_eq_some_iff.1 hy').1
     rw[PV.length_cells] at this
     omega
    have hcj:u.cells[j]?=some (u.cells.getD j Go.undef):=by simp[Array.getD,hjl]
    refine ⟨u.cells.getD j Go.undef, ?_,m2,m1⟩
    rw[cell_of_row w g _ cur e fr g4]
    exact k4 j _ hcj)
   refine ⟨z,v,Zc6 hop ?_,hkk,h2⟩
   rw[g3]
   exact h1
  ·cases hE
theorem Zuw {t:TypeId} {ti:TI} (ht:TyOk P t ti) {f fo:Nat} {ft:TypeId} {fi:TI} (hs:ti.desc=.struct) (hf:ti.flds[f]?=some (fo,ft)) (hft:TyOk P ft fi) (hz:fi.size≠0) (b off:Nat) (w:World):
 (Instr.fieldAt t (.pointer (some ⟨b,off,none⟩)) f).run P w=.ok (.pointer (some ⟨b,off+fo,none⟩)) w:=by
 have h1:=ht.run_underlying w
 have h2:=ht.hd
 have h3:=ht.hflds
 have h4:=hft.run_sizeOf w
 rw[hs] at h2
 cases hdd:ht.desc<;>rw[hdd] at h2<;>simp[Zf3] at h2
 rename_i fs
 rw[hdd] at h3 h1
 simp only[Zr6] at h3
 rw[h3] at hf
 rw[List.getElem?_map] at hf
 obtain ⟨fld,hfl,he⟩:=Option.map_eq_some_iff.1 hf
 simp only[Prod.mk.injEq] at he
 obtain ⟨rfl,rfl⟩:=he
 have hfl':fs[f]?=some fld:=by simpa using hfl
 simp[Instr.fieldAt,h1,hfl',Instr.sureAddr,fieldPlace,h4,hz,Addr.add_lit]
theorem Zqy (hT:TabOk P T) {t:TypeId} {f:Nat} {x:Operand} {d:Nat} (hop:o.op=.fieldAddr t x f) (hd:o.dst=some d) (hE:Zmg T d t f (sv κ x)=some E):Zat P o κ E:=by
 unfold Zmg at hE
 split at hE
 case h_1=>cases hE
 rename_i ti hi
 obtain ⟨ht⟩:=hT.ty hi
 split at hE
 case h_1=>cases hE
 rename_i fo ft hf
 split at hE
 case h_1=>cases hE
 rename_i fi hfi
 obtain ⟨hft⟩:=hT.ty hfi
 split at hE
 case isTrue=>cases hE
 rename_i hc
 have hz:fi.size≠0:=fun e=>hc (.inl e)
 have hs:ti.desc=.struct:=Classical.byContradiction fun e=>hc (.inr e)
 have hrun:∀(ρ:Operand→Value) (b off:Nat) (w:World),ρ x=.pointer (some ⟨b,off,none⟩)→(execOp ρ o).run P w=.ok (.value (.pointer (some ⟨b,off+fo,none⟩))) w:=by
  intro ρ b off w hx
  have:=Zuw ht hs hf hft hz b off w
  simp[execOp,hop,hx,this]
 split at hE
 ·rename_i q ks off hb
  split at hE
  case isTrue=>cases hE
  rename_i hqd
  cases hE
  refine Z9 hd rfl rfl fun w0 F0 X0 σ a w F fp kk r h htt hlv hdy=> ?_
  have hdy':kk (.bool true)=some r:=by simpa[hop,Op.operands,Zp,Zmb] using hdy
  obtain ⟨b,cs,TT,xs,fps,_,e1,e2,e3,e4,e5,e6,e7,e8,e9⟩:=ZeA h (Zg hlv (by rw[hop];exact .head _)) hb
  refine ⟨.bool true,_,w,F,[],hrun _ b off w e5,hdy',Adds.refl w h.fl,List.nodup_nil,rfl,by simp, ?_,fun q' hq=> ?_⟩
  ·refine fun _=>⟨b, ?_,rfl⟩
   rw[Zcl,if_neg (by rintro ⟨e,_⟩;exact hqd e)]
   exact e4
  ·simp only[Zp,Kd.bdep,Option.some.injEq] at hq
   subst hq
   exact ⟨hqd,by rw[e1];rfl⟩
 ·split at hE
  ·rename_i hk
   cases hE
   refine Z9 hd rfl rfl fun w0 F0 X0 σ a w F fp kk r h htt hlv hdy=> ?_
   have hdy':kk (.agg ((dv κ σ x).v.cells.drop fo))=some r:=by simpa[hop,Op.operands,Zp,Zb4] using hdy
   obtain ⟨l,_,hsr⟩:=h.at' x (by rw[hk];simp)
   rw[hk] at hsr
   obtain ⟨b,off,xs,e1,e2,e3,e4⟩:=hsr.1 ((Zg hlv (by rw[hop];exact .head _)) (by show (kOp κ x).hangs=true;rw[show kOp κ x=.ipt from hk];rfl))
   rw[e2] at hdy'
   refine ⟨_,_,w,F,[],hrun _ b off w e1,hdy',Adds.refl w h.fl,List.nodup_nil,⟨fun _=>⟨b,off+fo,_,rfl,rfl,e3,fun j y hy=> ?_⟩,rfl⟩,by simp,fun _=>trivial,fun q hq=>by simp[Zp,Kd.bdep] at hq⟩
   have:=e4 (fo+j) y (by rw[List.getElem?_drop] at hy;exact hy)
   rw[Nat.add_assoc]
   exact this
  ·rename_i q sz off hk
   split at hE
   case isTrue=>cases hE
   rename_i hqd
   cases hE
   refine Z9 hd rfl rfl fun w0 F0 X0 σ a w F fp kk r h htt hlv hdy=> ?_
   have hdy':kk (dv κ σ x).v=some r:=by simpa[hop,Op.operands,Zp,Zhl] using hdy
   have hal:=h.al' x (Zg hlv (by rw[hop];exact .head _))
   rw[hk] at hal
   obtain ⟨i,b,n,cap,h1,h2,h3,h4⟩:=hal
   refine ⟨_,_,w,F,[],hrun _ b _ w h4,hdy',Adds.refl w h.fl,List.nodup_nil,rfl,by simp,fun _=>⟨i,b,n,cap,h1,h2, ?_,by rw[Nat.add_assoc]⟩,fun q' hq=>by simp[Zp,Kd.bdep] at hq⟩
   show tv _ q=_
   rw[Zcl,if_neg (by rintro ⟨e,_⟩;exact hqd e)]
   exact h3
  ·rename_i q oo sz off hk
   split at hE
   case isTrue=>cases hE
   rename_i hqd
   split at hE
   case isFalse=>cases hE
   rename_i hbox
   cases hE
   have hk':kOp κ x=.elm (.cell q oo) sz off:=hk
   refine Z9 hd rfl rfl fun w0 F0 X0 σ a w F fp kk r h htt hlv hdy=> ?_
   have hdy':kk (dv κ σ x).v=some r:=by simpa[hop,Op.operands,Zp,Zhl] using hdy
   have hal:=h.al' x (Zg hlv (by rw[hop];exact .head _))
   rw[hk] at hal
   obtain ⟨i,b,n,cap,h1,h2,⟨b',h3,h3'⟩,h4⟩:=hal
   refine ⟨_,_,w,F,[],hrun _ b _ w h4,hdy',Adds.refl w h.fl,List.nodup_nil,rfl,by simp,fun _=>⟨i,b,n,cap,h1,h2,⟨b', ?_,h3'⟩,by rw[Nat.add_assoc]⟩,fun q' hq=> ?_⟩
   ·rw[Zcl,if_neg (by rintro ⟨e,_⟩;exact hqd e)]
    exact h3
   ·simp only[Zp,Kd.bdep,Option.some.injEq] at hq
    subst hq
    exact ⟨hqd,by simpa[sv,hk',Kd.dep,Place.of] using hbox⟩
  ·cases hE
theorem Zux {x:Operand} {d:Nat} (hop:o.op=.nilCheck x) (hd:o.dst=some d) (hE:Zsc d (sv κ x)=some E):Zat P o κ E:=by
 have hrun:∀(ρ:Operand→Value) (b off:Nat) (w:World),ρ x=.pointer (some ⟨b,off,none⟩)→(execOp ρ o).run P w=.ok (.value (.pointer (some ⟨b,off,none⟩))) w:=by
  intro ρ b off w hx
  simp[execOp,hop,hx]
 unfold Zsc at hE
 split at hE
 ·rename_i q ks off hb
  split at hE
  case isTrue=>cases hE
  rename_i hqd
  cases hE
  refine Z9 hd rfl rfl fun w0 F0 X0 σ a w F fp kk r h htt hlv hdy=> ?_
  have hdy':kk (.bool true)=some r:=by simpa[hop,Op.operands,Zp,Zmb] using hdy
  obtain ⟨b,cs,TT,xs,fps,_,e1,e2,e3,e4,e5,e6,e7,e8,e9⟩:=ZeA h (Zg hlv (by rw[hop];exact .head _)) hb
  refine ⟨.bool true,_,w,F,[],hrun _ b off w e5,hdy',Adds.refl w h.fl,List.nodup_nil,rfl,by simp, ?_,fun q' hq=> ?_⟩
  ·refine fun _=>⟨b, ?_,rfl⟩
   rw[Zcl,if_neg (by rintro ⟨e,_⟩;exact hqd e)]
   exact e4
  ·simp only[Zp,Kd.bdep,Option.some.injEq] at hq
   subst hq
   exact ⟨hqd,by rw[e1];rfl⟩
 ·split at hE
  ·rename_i hk
   cases hE
   refine Z9 hd rfl rfl fun w0 F0 X0 σ a w F fp kk r h htt hlv hdy=> ?_
   have hdy':kk (dv κ σ x).v=some r:=by simpa[hop,Op.operands,Zp,Zhl] using hdy
   obtain ⟨l,_,hsr⟩:=h.at' x (by rw[hk];simp)
   rw[hk] at hsr
   obtain ⟨b,off,xs,e1,e2,e3,e4⟩:=hsr.1 ((Zg hlv (by rw[hop];exact .head _)) (by show (kOp κ x).hangs=true;rw[show kOp κ x=.ipt from hk];rfl))
   exact ⟨_,_,w,F,[],hrun _ b off w e1,hdy',Adds.refl w h.fl,List.nodup_nil,⟨fun _=>⟨b,off,xs,rfl,e2,e3,e4⟩,rfl⟩,by simp,fun _=>trivial,fun q hq=>by simp[Zp,Kd.bdep] at hq⟩
  ·cases hE
theorem ZtI {t e:TypeId} {te:TI} (hu:P.underlying t=some (.slice e)) (he:TyOk P e te) {b off n c:Nat} {k:IntKind} {i:Int} (h0:0≤i) (hn:i<n) (w:World):
 (Instr.indexAt t (.slice (some ⟨b,off,none⟩) n c) (.int k i)).run P w=.ok (.pointer (some ⟨b,off+i.toNat * te.size,none⟩)) w:=by
 have h1:=he.run_sizeOf w
 simp[Instr.indexAt,asIntOf,underlying,hu,h0,hn,h1,Addr.add_lit]
theorem Zuy (hT:TabOk P T) {t:TypeId} {x i:Operand} {d:Nat} (hop:o.op=.indexAddr t x i) (hd:o.dst=some d) (hE:Zsd T d t (sv κ x) (sv κ i)=some E):Zat P o κ E:=by
 unfold Zsd at hE
 split at hE
 case h_1=>cases hE
 rename_i ti hi
 obtain ⟨ht⟩:=hT.ty hi
 split at hE
 case h_2=>cases hE
 rename_i e hds
 have hus:P.underlying t=some (.slice e):=by
  have h2:=ht.hd
  rw[hds] at h2
  have h3:=ht.hdesc
  cases hdd:ht.desc<;>rw[hdd] at h2<;>simp[Zf3] at h2
  rw[hdd] at h3
  rw[h2]
  exact h3
 split at hE
 case h_1=>cases hE
 rename_i te hte
 obtain ⟨he⟩:=hT.ty hte
 split at hE
 case isFalse=>cases hE
 rename_i hiv
 split at hE
 ·rename_i hxv
  cases hE
  refine Z9 hd rfl rfl fun w0 F0 X0 σ a w F fp kk r h htt hlv hdy=> ?_
  have hdy':(((Zn (dv κ σ x).v (dv κ σ i).v).bind fun y=>(Zc te.size y).map PV.agg).bind kk)=some r:=by simpa[hop,Op.operands,Zp,ZcD] using hdy
  obtain ⟨z,hz,hkk⟩:=Option.bind_eq_some_iff.1 hdy'
  obtain ⟨y,hy,hz⟩:=Option.bind_eq_some_iff.1 hz
  obtain ⟨cl,hcl,rfl⟩:=Option.map_eq_some_iff.1 hz
  obtain ⟨rfl,hc1,hc2,hc3⟩:=Zcw hcl
  have hx:=rdS h hxv
  have hii:=rdS h hiv
  unfold Zn at hy
  split at hy
  case h_2=>cases hy
  rename_i l k n e1 e2
  split at hy
  case isFalse=>cases hy
  rename_i hn
  rw[e1] at hx
  rw[e2] at hii
  have hii:=hii.int_eq
  have hlt:=(List.getElem?_eq_some_iff.1 hy).1
  obtain ⟨_,A,c,sz,vs,m1,m2,m3,m4,m5⟩:∃(_:Unit) (A:Option Addr) (c sz:Nat) (vs:Nat→Value),(a.eval x=.slice A l.length c)∧l.length≤c∧(l≠[]→∃b off,A=some ⟨b,off,none⟩∧F b∧∀i,i<l.length→∀j u,(vs i).cells[j]?=some u→w.cell? ⟨b,off+i * sz+j,none⟩=some u)∧(∀(i:Nat) (x:PV),l[i]?=some x→x.width=sz∧(vs i).cells.size=sz)∧(∀(i:Nat) (x:PV),l[i]?=some x→VR w F x (vs i)):=by
   generalize a.eval x=v at hx
   cases hx with
   |lst _ A c sz vs h1 h2 h3 h4 h5=>exact ⟨(),A,c,sz,vs,rfl,h1,h3,h4,h5⟩
  obtain ⟨b,off,rfl,hFb,hcells⟩:=m3 (by rintro rfl;simp at hlt)
  have hsz:sz=te.size:=by rw[←(m4 _ y hy).1];exact hc2
  subst hsz
  have hrun:(execOp a.eval o).run P w=.ok (.value (.pointer (some ⟨b,off+n.toNat * te.size,none⟩))) w:=by
   have:=ZtI (P:=P) hus he (b:=b) (off:=off) (n:=l.length) (c:=c) (k:=k) (i:=n) hn (by omega) w
   simp[execOp,hop,m1,hii,this]
  obtain ⟨c1,c2⟩:=(m5 _ y hy).cells hc3
  refine ⟨_,_,w,F,[],hrun,hkk,Adds.refl w h.fl,List.nodup_nil,⟨fun _=>⟨b,off+n.toNat * te.size,_,rfl,rfl,hFb,fun j y' hy'=> ?_⟩,rfl⟩,by simp,fun _=>trivial,fun q hq=>by simp[Zp,Kd.bdep] at hq⟩
  obtain ⟨k1,k2⟩:=c2 j y' hy'
  have hjl:j<(vs n.toNat).cells.size:=by
   have:=(List.getElem?_eq_some_iff.1 hy').1
   rw[PV.length_cells] at this
   omega
  have hcj:(vs n.toNat).cells[j]?=some ((vs n.toNat).cells.getD j Go.undef):=by simp[Array.getD,hjl]
  exact ⟨k1,_,hcells _ hlt j _ hcj,k2⟩
 ·rename_i hxv
  have key:∀(p:Place) (app:Bool) (e':TypeId) (sz:Nat),ZbH (sv κ x)=some (some (app,e',sz))→sz=te.size→p.of≠d→
   (∀(w0:World) (F0:Nat→Prop) (X0:List Nat) (σ:List PV) (a:Act) (w:World) (F:Nat→Prop) (fp:Nat→List Nat),St w0 F0 X0 κ σ a.tmps w F fp→Zcv κ σ x→PlV a.tmps w p (a.eval x)∧∀q,(Kd.elm p sz 0).bdep=some q→(kd κ q).isBox=true)→
   Zat P o κ (Zp (R:=R) d (.elm p sz 0) (ZcD fun y j=>(Zi (sv κ x) y).bind fun l=>Zdt l j.v)):=by
   intro p app e' sz hK hsz hpd hpl
   subst hsz
   refine Z9 hd rfl rfl fun w0 F0 X0 σ a w F fp kk r h htt hlv hdy=> ?_
   have hdy':(((Zi (sv κ x) (dv κ σ x)).bind fun l=>Zdt l (dv κ σ i).v).bind kk)=some r:=by simpa[hop,Op.operands,Zp,ZcD] using hdy
   obtain ⟨z,hz,hkk⟩:=Option.bind_eq_some_iff.1 hdy'
   obtain ⟨l,hl,hz⟩:=Option.bind_eq_some_iff.1 hz
   unfold Zdt at hz
   split at hz
   case h_2=>cases hz
   rename_i k n e2
   split at hz
   case isFalse=>cases hz
   rename_i hn
   cases hz
   have hii:=rdS h hiv
   rw[e2] at hii
   have hii:=hii.int_eq
   obtain ⟨q,io,lb,r1,r2,r3,r4⟩:=Zd8 h (x:=x) (Zg hlv (by rw[hop];exact .head _)) (l:=l) hl hK
   rcases r2 with ⟨s1,s2,s3⟩|⟨g,cap,cur,fr,s1,s2,s3,s4,s5,s6,s7,s8,s9⟩
   ·subst s2;simp at hn;omega
   ·have hrun:(execOp a.eval o).run P w=.ok (.value (.pointer (some ⟨g,0+n.toNat * te.size,none⟩))) w:=by
     have:=ZtI (P:=P) hus he (b:=g) (off:=0) (n:=l.length) (c:=cap) (k:=k) (i:=n) hn.1 hn.2 w
     simp[execOp,hop,s1,hii,this]
    obtain ⟨hp1,hp2⟩:=hpl w0 F0 X0 σ a w F fp h (Zg hlv (by rw[hop];exact .head _))
    rw[s1] at hp1
    refine ⟨_,_,w,F,[],hrun,hkk,Adds.refl w h.fl,List.nodup_nil,rfl,by simp,fun _=>⟨n.toNat,g,l.length,cap,rfl,by omega, ?_,by simp⟩,fun q' hq=>⟨?_,hp2 q' hq⟩⟩
    ·cases p with
     |slot q=>show tv _ q=_;rw[Zcl,if_neg (by rintro ⟨e,_⟩;exact hpd e)];exact hp1
     | cell q oo=>
      obtain ⟨b,t1,t2⟩:=hp1
      exact ⟨b,by rw[Zcl,if_neg (by rintro ⟨e,_⟩;exact hpd e)];exact t1,t2⟩
    ·rintro rfl
     apply hpd
     have hq':=Zax hq
     simpa[Zp,Kd.dep] using hq'
  split at hE
  ·rename_i app e' sz q hK hA
   split at hE
   case isTrue=>cases hE
   rename_i hc
   cases hE
   refine key (.slot q) app e' sz hK (Classical.byContradiction fun e=>hc (.inr e)) (fun e=>hc (.inl e)) fun w0 F0 X0 σ a w F fp h hlx=>⟨?_,fun q hq=>by simp[Kd.bdep] at hq⟩
   unfold Zcm at hA
   split at hA
   ·obtain ⟨s,hs,e⟩:=Option.map_eq_some_iff.1 hA
    cases e
    obtain rfl:=Za3 hs
    rfl
   ·rename_i q' hk
    cases hA
    have hal:=h.al' x hlx
    rw[hk] at hal
    exact hal
   ·cases hA
   ·cases hA
  ·rename_i app e' sz q off hK hA
   split at hE
   case isTrue=>cases hE
   rename_i hc
   cases hE
   unfold Zcm at hA
   split at hA
   ·obtain ⟨s,hs,e⟩:=Option.map_eq_some_iff.1 hA;cases e
   ·cases hA
   ·rename_i q' off' hk
    cases hA
    refine key (.cell q off) app e' sz hK (Classical.byContradiction fun e=>hc (.inr e)) (fun e=>hc (.inl e)) fun w0 F0 X0 σ a w F fp h hlx=>⟨?_,fun q' hq=> ?_⟩
    ·have hal:=h.al' x hlx
     rw[hk] at hal
     exact hal
    ·simp only[Kd.bdep,Option.some.injEq] at hq
     subst hq
     unfold ZbH at hK
     rw[if_neg hxv,hk] at hK
     dsimp only at hK
     split at hK
     case h_2=>cases hK
     rename_i a' e'' s' hpk
     obtain ⟨TT,ks,hbox,_⟩:=ZhW hpk
     have hk':kOp κ x=.ali (.cell q off):=hk
     have hq:kd κ q=.box TT ks:=by simpa[sv,hk',Kd.dep,Place.of] using hbox
     rw[hq];rfl
   ·cases hA
  ·cases hE
end
def splice {α:Type} (l:List α) (off:Nat) (s:List α):List α:=l.take off++s++l.drop (off+s.length)
theorem ZcN {α:Type} {l:List α} {off:Nat} {s:List α} (h:off+s.length≤l.length):(splice l off s).length=l.length:=by
 simp[splice];omega
theorem ZcW {α:Type} {l:List α} {off:Nat} {s:List α} (h:off+s.length≤l.length) (j:Nat):(splice l off s)[j]?=if off≤j∧j<off+s.length then s[j - off]? else l[j]?:=by
 unfold splice
 rw[List.getElem?_append,List.getElem?_append]
 simp only[List.length_append,List.length_take]
 have:min off l.length=off:=by omega
 rw[this]
 by_cases h1:j<off
 ·rw[if_pos (by omega),if_pos h1,if_neg (by omega),List.getElem?_take,if_pos h1]
 ·by_cases h2:j<off+s.length
  ·rw[if_pos h2,if_neg h1,if_pos ⟨by omega,h2⟩]
  ·rw[if_neg h2,if_neg (by omega),List.getElem?_drop]
   congr 1
   omega
section
variable {w :World} {F:Nat→Prop}
theorem GrpR.append {one:Bool} {ks ks':List CK} {xs xs':List PV} {vs vs':List Value} {fps fps':List (List Nat)} (h:GrpR w F one ks xs vs fps) (h':GrpR w F one ks' xs' vs' fps'):GrpR w F one (ks++ks') (xs++xs') (vs++vs') (fps++fps'):=by
 induction h with
 |nil=>exact h'
 |cons h ho ht ih=>exact .cons h ho ih
theorem GrpR.take {one:Bool} {ks:List CK} {xs:List PV} {vs:List Value} {fps:List (List Nat)} (h:GrpR w F one ks xs vs fps) (n:Nat):GrpR w F one (ks.take n) (xs.take n) (vs.take n) (fps.take n):=by
 induction h generalizing n with
 |nil=>simp;exact .nil
 | cons h ho ht ih=>
  cases n with
  |zero=>exact .nil
  |succ n=>exact .cons h ho (ih n)
theorem GrpR.drop {one:Bool} {ks:List CK} {xs:List PV} {vs:List Value} {fps:List (List Nat)} (h:GrpR w F one ks xs vs fps) (n:Nat):GrpR w F one (ks.drop n) (xs.drop n) (vs.drop n) (fps.drop n):=by
 induction h generalizing n with
 |nil=>simp;exact .nil
 | cons h ho ht ih=>
  cases n with
  |zero=>exact .cons h ho ht
  |succ n=>exact ih n
theorem GrpR.splice {one:Bool} {ks ks':List CK} {xs xs':List PV} {vs vs':List Value} {fps fps':List (List Nat)} (h:GrpR w F one ks xs vs fps) (off:Nat) (h':GrpR w F one ks' xs' vs' fps'):
 GrpR w F one (splice ks off ks') (splice xs off xs') (splice vs off vs') (splice fps off fps'):=by
 have hl:=h'.lens
 unfold Go.Proofs.YtkgnjijonikchaaGreat.splice
 rw[hl.1,hl.2.1,hl.2.2]
 exact ((h.take off).append h').append (h.drop (off+xs'.length))
theorem ZfF {α:Type} (l:List (List α)) (n:Nat):∀x∈(l.take n).flatten,x∈l.flatten:=by
 intro x hx
 obtain ⟨a,ha,hxa⟩:=List.mem_flatten.1 hx
 exact List.mem_flatten.2 ⟨a,List.mem_of_mem_take ha,hxa⟩
theorem ZdA {α:Type} (l:List (List α)) (n:Nat):∀x∈(l.drop n).flatten,x∈l.flatten:=by
 intro x hx
 obtain ⟨a,ha,hxa⟩:=List.mem_flatten.1 hx
 exact List.mem_flatten.2 ⟨a,List.mem_of_mem_drop ha,hxa⟩
theorem ZjG {fps:List (List Nat)} {off:Nat} {mid:List (List Nat)} (hn:fps.flatten.Nodup) (hm:mid.flatten.Nodup) (hd:∀b∈mid.flatten,b∉fps.flatten):(splice fps off mid).flatten.Nodup:=by
 unfold splice
 rw[List.flatten_append,List.flatten_append]
 have hs:((fps.take off).flatten++(fps.drop off).flatten).Nodup:=by rw[←List.flatten_append,List.take_append_drop];exact hn
 obtain ⟨h1,h2,h3⟩:=List.nodup_append.1 hs
 have hdd:fps.drop (off+mid.length)=(fps.drop off).drop mid.length:=by rw[List.drop_drop]
 have h4:((fps.drop (off+mid.length)).flatten).Nodup:=by
  rw[hdd]
  have:((fps.drop off).take mid.length).flatten++((fps.drop off).drop mid.length).flatten=(fps.drop off).flatten:=by rw[←List.flatten_append,List.take_append_drop]
  rw[←this] at h2
  exact (List.nodup_append.1 h2).2.1
 refine List.nodup_append.2 ⟨List.nodup_append.2 ⟨h1,hm,fun a ha b hb e=>hd b hb (e▸ZfF _ _ a ha)⟩,h4,fun a ha b hb e=> ?_⟩
 subst e
 have hb':a∈(fps.drop off).flatten:=by rw[hdd] at hb;exact ZdA _ _ a hb
 rcases List.mem_append.1 ha with ha|ha
 ·exact h3 a ha a hb' rfl
 ·exact hd a ha (ZdA _ _ a hb')
theorem Zf5 {fps:List (List Nat)} {off b:Nat} {mid:List (List Nat)} (h:b∈(splice fps off mid).flatten):b∈fps.flatten∨b∈mid.flatten:=by
 unfold splice at h
 rw[List.flatten_append,List.flatten_append] at h
 rcases List.mem_append.1 h with h|h
 ·rcases List.mem_append.1 h with h|h
  ·exact .inl (ZfF _ _ b h)
  ·exact .inr h
 ·exact .inl (ZdA _ _ b h)
theorem ZeV (P:Program) (g o:Nat) (t:TypeId) (fr:Nat×Nat) (N:Nat) (hfr:fr.2≤fr.1∨N≤fr.1):∀(vs:List Value) (i:Nat) (cur:Array Value) (w:World),w.heap[g]?=some (.cells cur t fr)→cur.size=N→o+i+vs.length≤cur.size→(∀v∈vs,v.oneCell'=true)→
 (storeCells ⟨g,o,none⟩ vs i).run P w=.ok () (w.setRow g (splice cur.toList (o+i) vs).toArray)
 | [],i,cur,w,hg,_,_,_=>by
  have:splice cur.toList (o+i) []=cur.toList:=by simp[splice]
  rw[this]
  simp only[storeCells,Array.toArray_toList]
  rw[setRow_self w g cur t fr hg]
  rfl
 | v::rest,i,cur,w,hg,hN,hl,h1=>by
  have hi:o+i<cur.size:=by simp at hl;omega
  have hadd:(⟨g,o,none⟩:Addr).add i=⟨g,o+i,none⟩:=by unfold Addr.add;split<;>simp_all
  have hcell:w.cell? ⟨g,o+i,none⟩=some cur[o+i]:=by simp[World.cell?,hg,hi]
  have hfro:w.frozen? ⟨g,o+i,none⟩=false:=by
   simp only[World.frozen?,hg,Bool.and_eq_false_iff,decide_eq_false_iff_not]
   omega
  have hst:(store ((⟨g,o,none⟩:Addr).add i) v).run P w=.ok () (w.setRow g (cur.setIfInBounds (o+i) v)):=by
   rw[hadd,run_store P w _ v _ (h1 v (by simp)),hcell]
   simp[hfro,setCell_eq_setRow w g (o+i) cur t fr v hg]
  have ih:=ZeV P g o t fr N hfr rest (i+1) (cur.setIfInBounds (o+i) v) (w.setRow g (cur.setIfInBounds (o+i) v)) (setRow_heap w g cur _ t fr hg) (by simpa using hN) (by simp at hl⊢;omega) (fun x hx=>h1 x (by simp[hx]))
  simp only[storeCells,Sem.run_bind,hst,Result.andThen_ok,ih,setRow_setRow]
  congr 3
  have e:=list_seg_step cur.toList (o+i) v rest (by simp at hl⊢;omega)
  simpa[splice,Array.toList_setIfInBounds,Nat.add_assoc] using e
theorem Zf6 {P:Program} {t:TypeId} {ti:TI} (ht:TyOk P t ti) {g off:Nat} {e:TypeId} {fr:Nat×Nat} {cur:Array Value} {v:Value} (hg:w.heap[g]?=some (.cells cur e fr)) (hfr:fr.2≤fr.1∨cur.size≤fr.1) (hs:v.cells.size=ti.size) (hle:off+ti.size≤cur.size) (h1:∀u∈v.cells.toList,u.oneCell'=true):
 (Instr.storeAt t (.pointer (some ⟨g,off,none⟩)) v).run P w=.ok () (w.setRow g (splice cur.toList off v.cells.toList).toArray):=by
 have h2:=ht.run_sizeOf w
 have h3:=ZeV P g off e fr cur.size hfr v.cells.toList 0 cur w hg rfl (by simp;omega) h1
 simp[Instr.storeAt,Instr.sureAddr,storeVar,h2,hs,h3]
theorem Zf7 (w:World) (g:Nat) (cs:Array Value):(w.setRow g cs).heap.size=w.heap.size:=size_setRow w g cs
theorem VR.one' {x:PV} {v:Value} (h:VR w F x v) (ho:x.one=true):v.oneCell'=true:=by
 cases h<;>first|rfl|(simp[PV.one] at ho)
theorem VR.store {x:PV} {v:Value} (h:VR w F x v) (hu:x≠.undef):∀u∈v.cells.toList,u.oneCell'=true:=by
 intro u hu'
 obtain ⟨c1,c2⟩:=h.cells hu
 obtain ⟨i,hi⟩:=List.mem_iff_getElem?.1 hu'
 have hlt:=(List.getElem?_eq_some_iff.1 hi).1
 obtain ⟨y,hy⟩:∃y,x.cells[i]?=some y:=⟨x.cells[i]'(by rw[PV.length_cells,c1];simpa using hlt),List.getElem?_eq_getElem _⟩
 obtain ⟨h1,h2⟩:=c2 i y hy
 have:v.cells.getD i Go.undef=u:=by
  have:v.cells[i]?=some u:=by simpa using hi
  simp[Array.getD_eq_getD_getElem?,this]
 rw[this] at h2
 exact h2.one' h1
end
def SV.boxT (a:SV):TypeId:=
 match a.k with
 |.box T _=>T
 |_=>match a.pk with|.box T _=>T|_=>0
def Zlt (el:PV) (cs:List PV):PV:=
 match el with
 |.agg _=>.agg cs
 |_=>cs.headD .undef
def Zfm (a x:SV) (f:List PV→PV→PV→Option PV):DV→DV→Option PV:=fun da dx=>
 match da.v with
 |.int _ i=>(Zez a da).bind fun l=>(l[i.toNat]?).bind fun el=>(f el.cells el dx.v).map fun el'=>.lst (l.set i.toNat el')
 |_=>none
def ZbJ (off n:Nat):List PV→PV→PV→Option PV:=fun cs el x=>
 (Zc n x).bind fun cl=>if off+n≤cs.length then some (Zlt el (splice cs off cl)) else none
def Zv3 (p:Place) (a:SV) (f:DV→DV→Option PV):DV→DV→Option PV:=fun da dx=>
 match p with
 |.slot _=>f da dx
 |.cell _ oo=>(f da dx).map fun y=>.agg (da.pv.cells.set oo y)
def Zd6 (s:Nat):Nat→List CK→List Gh
 |_,[]=>[]
 |i,.own app e sz::r=>⟨s,some i,false,app,e,sz⟩::Zd6 s (i+1) r
 |i,_::r=>Zd6 s (i+1) r
theorem ZfG {s:Nat} {app:Bool} {e:TypeId} {sz:Nat}:∀(ks:List CK) (i j:Nat),ks[j]?=some (.own app e sz)→(⟨s,some (i+j),false,app,e,sz⟩:Gh)∈Zd6 s i ks
 |[],_,_,h=>by simp at h
 |k::r,i,0,h=>by simp at h;subst h;simp[Zd6]
 | k::r,i,j+1,h=>by
  have ih:=ZfG (s:=s) r (i+1) j (by simpa using h)
  rw[show i+1+j=i+(j+1) from by omega] at ih
  cases k<;>simp only[Zd6]<;>first|exact ih|exact List.mem_cons_of_mem _ ih
def ZkQ (cs:List PV) (off:Nat):PV→Option PV
 |.agg l=>some (.agg (splice cs off l))
 |_=>none
def Zhn {R : Type} (T:Tab) (t:TypeId) (a x:SV):Option (Eff R):=
 match T.lookup t with
 |none=>none
 | some ti =>
  match a.boxAt with
  | some (q, ks,off)=>
   if x.isV then
    if off + ti.size≤ks.length then
     some { gh:=[],tgt:=q,put:=false,k:=.box a.boxT (splice ks off (List.replicate ti.size .val)),cut:=.cells off ti.size,
            dyn:=ZcD fun da dx=>(Zc ti.size dx.v).map fun cl=>.agg (splice (ZdX a da) off cl)}
    else none
   else match x.k,x.slot with
    | .grp false ks',some s=>
     if s=q∨ks'.length≠ti.size∨¬off+ti.size≤ks.length∨(ks'.any fun k=>k=.none)=true then none else
     some { gh:=Zd6 s 0 ks',tgt:=q,put:=false,k:=.box a.boxT (splice ks off ks'),cut:=.cells off ti.size,
            dyn:=ZcD fun da dx=>ZkQ (ZdX a da) off dx.v}
    | _, _ => match ZbH x,Zcm x with
     | some (some (app,e,sz)),some (s,i)=>
      if s=q∨ti.size≠1∨ti.agg∨¬off<ks.length then none else
      some { gh:=[⟨s,i,false,app,e,sz⟩],tgt:=q,put:=false,k:=.box a.boxT (ks.set off (.own app e sz)),cut:=.cells off 1,
             dyn:=ZcD fun da dx=>(Zi x dx).map fun l=>.agg ((ZdX a da).set off (.lst l))}
     |_,_=>none
  | none=>
   match a.k,ZoY a with
   | .elm p sz off,some (app,e,sz')=>
    if sz=sz'∧x.isV=true then
     match p with
     |.slot q=>some {gh:=[],tgt:=q,put:=false,k:=.ck (.own app e sz),cut:=.no,dyn:=ZcD (Zfm a x (ZbJ off ti.size))}
     | .cell q oo=>match a.pk with
      |.box TT ks=>some {gh:=[],tgt:=q,put:=false,k:=.box TT ks,cut:=.no,dyn:=ZcD (Zv3 p a (Zfm a x (ZbJ off ti.size)))}
      |_=>none
    else none
   |_,_=>none
section
variable {R :Type} {P:Program} {T:Tab} {o:Oper} {κ κ1:List Kd} {E:Eff R}
variable {w0 :World} {F0:Nat→Prop} {X0:List Nat} {σ:List PV} {a:Act} {w:World} {F F1:Nat→Prop} {fp fp1:Nat→List Nat}
theorem ZbV.lb_eq {w w':World} {F F':Nat→Prop} {app app':Bool} {e e':TypeId} {sz sz':Nat} {l l':List PV} {v:Value} {lb lb':List Nat} (h:ZbV w F app e sz l v lb) (h':ZbV w' F' app' e' sz' l' v lb'):lb=lb':=by
 rcases h with ⟨h1,h2,rfl⟩|⟨g,cap,cur,fr,h1,rfl,_⟩<;>rcases h' with ⟨g1,g2,rfl⟩|⟨g',cap',cur',fr',g1,rfl,_⟩
 ·rfl
 ·rw[h1] at g1;simp at g1
 ·rw[h1] at g1;simp at g1
 ·rw[h1] at g1;simp at g1;rw[g1.1]
theorem Zf8 {t:TypeId} {x y:Operand} (hop:o.op=.store t x y) {ρ:Operand→Value} {w':World} (h:(Instr.storeAt t (ρ x) (ρ y)).run P w=.ok () w'):(execOp ρ o).run P w=.ok .skip w':=by
 simp[execOp,hop,h]
theorem Zkp {t:TypeId} {ti:TI} (ht:TyOk P t ti) {x y:Operand} (hop:o.op=.store t x y) {q off n:Nat} {ks ks':List CK} (h:St w0 F0 X0 κ σ a.tmps w F fp) (h1:St w0 F0 X0 κ1 σ a.tmps w F1 fp1) (hF:∀b,F b→F1 b) (hfp:∀b∈fp q,b∈fp1 q)
 (hlx:Zcv κ σ x) (hb:(sv κ x).boxAt=some (q,ks,off)) {xs':List PV} {fps':List (List Nat)} (hn:(a.eval y).cells.size=n) (hns:n=ti.size) (hle:off+n≤ks.length) (hg:GrpR w F1 true ks' xs' (a.eval y).cells.toList fps')
 (hone:∀u∈(a.eval y).cells.toList,u.oneCell'=true) (hsub:∀b∈fps'.flatten,b∈fp1 q) (hdj:∀b∈fps'.flatten,b∉fp q) (hnd:fps'.flatten.Nodup) (hT:∀T ks0,kd κ q=.box T ks0→(sv κ x).boxT=T):
 ∃ (w':World) (l:List Nat),(execOp a.eval o).run P w=.ok .skip w'∧
  w'.os=w.os∧w'.tape=w.tape∧w'.output=w.output∧w'.heap.size=w.heap.size∧(∀b,b<w.heap.size→b∉fp1 q→w'.heap[b]?=w.heap[b]?)∧
  l.Nodup∧SR w' F1 (.box (sv κ x).boxT (splice ks off ks')) (.agg (splice (ZdX (sv κ x) (dv κ σ x)) off xs')) (tv a.tmps q) l∧(∀b∈l,b∈fp1 q)∧
  (∀k y u,k.bdep=some q→(Cut.cells off n).fn q k=false→Al a.tmps w k y u→Al a.tmps w' k y u∧Kd.isBox (.box (sv κ x).boxT (splice ks off ks'))=true):=by
 obtain ⟨b,cs,TT,xs,fps,_,e1,e2,e3,e4,e5,e6,e7,e8,e9⟩:=ZeA h hlx hb
 have hlens:=e7.lens
 have hcs:cs.size=ks.length:=by have:=hlens.2.1;simp at this;omega
 have hrun:=Zf6 (P:=P) ht (g:=b) (off:=off) (v:=a.eval y) e6 (.inl (Nat.le_refl _)) (by omega) (by omega) hone
 have hst1:Stays w F w F1:=⟨hF,fun _ _=>rfl⟩
 have hbfp:b∈fp q:=e9 b (by simp)
 have hw:∀c,c≠b→(w.setRow b (splice cs.toList off (a.eval y).cells.toList).toArray).heap[c]?=w.heap[c]?:=fun c hc=>setRow_other w b c _ hc
 have hnF:∀c,F1 c→c≠b:=fun c hc e=>(h1.pr q b (hfp b hbfp)).2.1 (e▸hc)
 have hst2:Stays w F1 (w.setRow b (splice cs.toList off (a.eval y).cells.toList).toArray) F1:=⟨fun _ h=>h,fun c hc=>hw c (hnF c hc)⟩
 have g1:=(e7.keep hst1 fun _ _=>rfl).keep hst2 (fun c hc=>hw c (fun e=>(List.nodup_cons.1 e8).1 (e▸hc)))
 have g2:=hg.keep hst2 (fun c hc=>hw c (fun e=>hdj c hc (e▸hbfp)))
 have hlv:(a.eval y).cells.toList.length=n:=by simpa using hn
 refine ⟨w.setRow b (splice cs.toList off (a.eval y).cells.toList).toArray,b::(splice fps off fps').flatten,Zf8 hop (by rw[e5];exact hrun),rfl,rfl,rfl,Zf7 _ _ _,fun c hc hcn=>hw c (fun e=>hcn (e▸hfp b hbfp)),List.nodup_cons.2 ⟨fun hc=> ?_,ZjG (List.nodup_cons.1 e8).2 hnd fun c hc hc'=>hdj c hc (e9 c (List.mem_cons_of_mem _ hc'))⟩,
  ⟨b,(splice cs.toList off (a.eval y).cells.toList).toArray,_,_,e4,by rw[e3], ?_,by simpa using g1.splice off g2,rfl⟩,fun c hc=> ?_,fun k y' u hk hcut hal=>⟨?_,rfl⟩⟩
 ·rcases Zf5 hc with hc|hc
  ·exact (List.nodup_cons.1 e8).1 hc
  ·exact hdj b hc hbfp
 ·rw[hT TT ks e1]
  exact setRow_heap w b cs _ TT (0,0) e6
 ·rcases List.mem_cons.1 hc with rfl|hc
  ·exact hfp _ hbfp
  ·rcases Zf5 hc with hc|hc
   ·exact hfp c (e9 c (List.mem_cons_of_mem _ hc))
   ·exact hsub c hc
 ·have cell:∀oo (v:Value),¬(off≤oo∧oo<off+n)→(∃b',tv a.tmps q=.pointer (some ⟨b',0,none⟩)∧w.cell? ⟨b',oo,none⟩=some v)→∃b',tv a.tmps q=.pointer (some ⟨b',0,none⟩)∧(w.setRow b (splice cs.toList off (a.eval y).cells.toList).toArray).cell? ⟨b',oo,none⟩=some v:=by
   rintro oo v hoo ⟨b',hb1,hb2⟩
   refine ⟨b',hb1, ?_⟩
   rw[e4] at hb1
   simp at hb1
   subst hb1
   rw[cell_of_row w b oo cs TT (0,0) e6] at hb2
   rw[cell_of_row _ b oo _ TT (0,0) (setRow_heap w b cs _ TT (0,0) e6)]
   have hsp:=ZcW (l:=cs.toList) (off:=off) (s:=(a.eval y).cells.toList) (by rw[hlv];simp;omega) oo
   rw[hlv,if_neg hoo] at hsp
   simpa[hsp] using hb2
  cases k with
  | ali p=>
   cases p with
   |slot q'=>simp[Kd.bdep] at hk
   | cell q' oo=>
    simp only[Kd.bdep,Option.some.injEq] at hk
    subst hk
    exact cell oo u (by simpa[Cut.fn] using hcut) hal
  | elm p sz o'=>
   cases p with
   |slot q'=>simp[Kd.bdep] at hk
   | cell q' oo=>
    simp only[Kd.bdep,Option.some.injEq] at hk
    subst hk
    obtain ⟨i,b',m,cap,r1,r2,r3,r4⟩:=hal
    exact ⟨i,b',m,cap,r1,r2,cell oo _ (by simpa[Cut.fn] using hcut) r3,r4⟩
  | bxf q' o'=>
   obtain ⟨b',r1,r2⟩:=hal
   exact ⟨b',r1,r2⟩
  |ck c=>simp[Kd.bdep] at hk
  |box T ks=>simp[Kd.bdep] at hk
  |grp t ks=>simp[Kd.bdep] at hk
  |ipt=>simp[Kd.bdep] at hk
  |clo f=>simp[Kd.bdep] at hk
  |cln f=>simp[Kd.bdep] at hk
  |mp kt et=>simp[Kd.bdep] at hk
  |mbx s=>simp[Kd.bdep] at hk
  |tgr sh ks=>simp[Kd.bdep] at hk
  |tip=>simp[Kd.bdep] at hk
theorem ZoZ {x:Operand} {q off:Nat} {ks:List CK} (hb:(sv κ x).boxAt=some (q,ks,off)):∀T ks0,kd κ q=.box T ks0→(sv κ x).boxT=T:=by
 intro T ks0 hk
 unfold SV.boxAt at hb
 unfold SV.boxT
 split at hb
 ·rename_i T' ks' hkk
  obtain ⟨s,hs,e⟩:=Option.map_eq_some_iff.1 hb
  cases e
  obtain rfl:=Za3 hs
  have hk':kd κ q=.box T' ks:=hkk
  rw[hk] at hk'
  cases hk'
  first|rfl|(rw[hkk])
 ·rename_i q' off' hkk
  split at hb
  case h_2=>cases hb
  rename_i T' ks' hpk
  cases hb
  have hk':kOp κ x=.bxf q off:=hkk
  have hq:kd κ q=.box T' ks:=by simpa[sv,hk',Kd.dep] using hpk
  rw[hk] at hq
  cases hq
  first|rfl|(rw[hkk];done)|(rw[hkk];dsimp only;done)|(rw[hkk];dsimp only;rw[hpk])
 ·rename_i q' hkk
  split at hb
  case h_2=>cases hb
  rename_i T' ks' hpk
  cases hb
  have hk':kOp κ x=.ali (.slot q):=hkk
  have hq:kd κ q=.box T' ks:=by simpa[sv,hk',Kd.dep,Place.of] using hpk
  rw[hk] at hq
  cases hq
  first|rfl|(rw[hkk];done)|(rw[hkk];dsimp only;done)|(rw[hkk];dsimp only;rw[hpk])
 ·cases hb
theorem Zuz {t:TypeId} {ti:TI} (ht:TyOk P t ti) {x y:Operand} (hop:o.op=.store t x y) (hlx:Zcv κ σ x) {p:Place} {off:Nat} {l:List PV} {app:Bool} {e:TypeId} {sz:Nat} (h:St w0 F0 X0 κ σ a.tmps w F fp)
 (hk:(sv κ x).k=.elm p sz off) (hl:Zez (sv κ x) (dv κ σ x)=some l) (hK:ZoY (sv κ x)=some (app,e,sz)) (hy:(sv κ y).isV=true) {i:Nat} {k:IntKind} (hi:(dv κ σ x).v=.int k i) {el el':PV} (hel:l[i]?=some el) (hel':ZbJ off ti.size el.cells el (dv κ σ y).v=some el'):
 ∃ (w':World) (g cap:Nat) (cur':Array Value) (fr:Nat×Nat),(execOp a.eval o).run P w=.ok .skip w'∧w'.os=w.os∧w'.tape=w.tape∧w'.output=w.output∧w'.heap.size=w.heap.size∧g∈fp p.of∧(∀b,b≠g→w'.heap[b]?=w.heap[b]?)∧
  PlV a.tmps w p (.slice (some ⟨g,0,none⟩) l.length cap)∧ZbV w' F app e sz (l.set i el') (.slice (some ⟨g,0,none⟩) l.length cap) [g]:=by
 obtain ⟨i',n,cap,g,cur,fr,lb,g1,g2,g3,g4,g5,g6,g7,g8,g9,g10,g11,g12⟩:=Zls h hlx hk hl hK
 rw[hi] at g1
 simp only[PV.int.injEq] at g1
 have hii:i=i':=by omega
 subst hii
 unfold ZbJ at hel'
 obtain ⟨cl,hcl,hel'⟩:=Option.bind_eq_some_iff.1 hel'
 split at hel'
 case isFalse=>cases hel'
 rename_i hle
 cases hel'
 obtain ⟨rfl,c1,c2,c3⟩:=Zcw hcl
 have hv:=rdS h hy
 obtain ⟨v1,v2⟩:=hv.cells c3
 obtain ⟨k1,k2,u,k3,k4⟩:=g10 i el hel
 obtain ⟨u1,u2⟩:=k3.cells k2
 have hsz:el.cells.length=sz:=by rw[PV.length_cells];exact k1
 have hcap:(i+1) * sz≤cap * sz:=Nat.mul_le_mul_right _ (by omega)
 rw[Nat.succ_mul] at hcap
 have hrun:=Zf6 (P:=P) ht (g:=g) (off:=i * sz+off) (v:=a.eval y) g4 g5 (by omega) (by omega) (hv.store c3)
 have hvl:(a.eval y).cells.toList.length=ti.size:=by simp;omega
 have hspl:i * sz+off+(a.eval y).cells.toList.length≤cur.toList.length:=by simp only[Array.length_toList] at hvl⊢;omega
 have hst:Stays w F (w.setRow g (splice cur.toList (i * sz+off) (a.eval y).cells.toList).toArray) F:=⟨fun _ h=>h,fun c hc=>setRow_other w g c _ (fun e=>(h.pr _ g g11).2.1 (e▸hc))⟩
 refine ⟨w.setRow g (splice cur.toList (i * sz+off) (a.eval y).cells.toList).toArray,g,cap,(splice cur.toList (i * sz+off) (a.eval y).cells.toList).toArray,fr,Zf8 hop (by rw[g3];exact hrun),rfl,rfl,rfl,Zf7 _ _ _,g11,fun b hb=>setRow_other w g b _ hb,g12,.inr ⟨g,cap,_,fr,by simp,rfl,setRow_heap w g cur _ e fr g4,g6,by simpa[ZcN hspl] using g5,by simpa using g7,g8,by simp only[List.size_toArray];rw[ZcN hspl];simpa using g9,fun j z hz=> ?_⟩⟩
 rw[List.getElem?_set] at hz
 by_cases hj:i=j
 ·subst hj
  have hlt:i<l.length:=g2
  simp[hlt] at hz
  subst hz
  have hul:u.cells.toList.length=sz:=by simp;omega
  have hsu:off+(a.eval y).cells.toList.length≤u.cells.toList.length:=by omega
  have hcells:∀(j:Nat) (c:Value),(splice u.cells.toList off (a.eval y).cells.toList)[j]?=some c→(splice cur.toList (i * sz+off) (a.eval y).cells.toList)[i * sz+j]?=some c:=by
   intro j c hc
   rw[ZcW hspl]
   rw[ZcW hsu] at hc
   by_cases hin:off≤j∧j<off+(a.eval y).cells.toList.length
   ·rw[if_pos hin] at hc
    rw[if_pos (by omega)]
    rw[show i * sz+j - (i * sz+off)=j - off from by omega]
    exact hc
   ·rw[if_neg hin] at hc
    rw[if_neg (by omega)]
    have:=k4 j c (by simpa using hc)
    simpa using this
  have hread:∀(j:Nat) (z:PV),(splice el.cells off (dv κ σ y).v.cells)[j]?=some z→z.one=true∧VR (w.setRow g (splice cur.toList (i * sz+off) (a.eval y).cells.toList).toArray) F z ((splice u.cells.toList off (a.eval y).cells.toList).getD j Go.undef):=by
   intro j z hz
   rw[ZcW (by omega)] at hz
   have hget:(splice u.cells.toList off (a.eval y).cells.toList).getD j Go.undef=if off≤j∧j<off+(a.eval y).cells.toList.length then (a.eval y).cells.getD (j - off) Go.undef else u.cells.getD j Go.undef:=by
    rw[List.getD_eq_getElem?_getD,ZcW hsu]
    split<;>simp[Array.getD_eq_getD_getElem?]
   rw[hget]
   rw[PV.length_cells,v1] at hz
   have e1:(a.eval y).cells.toList.length=(a.eval y).cells.size:=by simp
   rw[e1]
   split at hz
   ·rename_i hin
    rw[if_pos hin]
    obtain ⟨r1,r2⟩:=v2 _ z hz
    exact ⟨r1,r2.keep hst⟩
   ·rename_i hin
    rw[if_neg hin]
    obtain ⟨r1,r2⟩:=u2 _ z hz
    exact ⟨r1,r2.keep hst⟩
  have hslen:(splice el.cells off (dv κ σ y).v.cells).length=sz:=by rw[ZcN (by omega)];exact hsz
  have hulen:(splice u.cells.toList off (a.eval y).cells.toList).length=sz:=by rw[ZcN hsu];exact hul
  by_cases hagg:∃l0,el=.agg l0
  ·obtain ⟨l0,rfl⟩:=hagg
   obtain ⟨cs0,rfl⟩:∃cs0,u=.agg cs0:=by cases k3;exact ⟨_,rfl⟩
   refine ⟨?_,by simp[Zlt],.agg (splice cs0.toList off (a.eval y).cells.toList).toArray, ?_,fun j c hc=> ?_⟩
   ·simpa[Zlt,PV.width] using hslen
   ·refine VR.of_cells (by simp only[List.size_toArray];rw[hslen];exact hulen.symm) fun j z hz=> ?_
    obtain ⟨r1,r2⟩:=hread j z hz
    refine ⟨r1, ?_⟩
    have:(splice cs0.toList off (a.eval y).cells.toList).toArray.getD j Go.undef=(splice cs0.toList off (a.eval y).cells.toList).getD j Go.undef:=by simp[Array.getD_eq_getD_getElem?,List.getD]
    rw[this]
    exact r2
   ·have:=hcells j c (by simpa[Value.cells] using hc)
    simpa using this
  ·have hreb:Zlt el (splice el.cells off (dv κ σ y).v.cells)=(splice el.cells off (dv κ σ y).v.cells).headD .undef:=by
    cases el<;>first|rfl|exact absurd ⟨_,rfl⟩ hagg
   have hsz1:sz=1:=by
    rw[←k1]
    cases el<;>first|rfl|exact absurd ⟨_,rfl⟩ hagg
   obtain ⟨z0,hz0⟩:∃z0,splice el.cells off (dv κ σ y).v.cells=[z0]:=by
    have:=hslen
    rw[hsz1] at this
    exact List.length_eq_one_iff.1 this
   obtain ⟨r1,r2⟩:=hread 0 z0 (by rw[hz0];rfl)
   have hone:=r2.oneCell r1
   rw[hreb,hz0,List.headD_cons]
   refine ⟨?_, ?_,(splice u.cells.toList off (a.eval y).cells.toList).getD 0 Go.undef,r2,fun j c hc=> ?_⟩
   ·rw[hsz1]
    cases z0<;>first|rfl|(simp[PV.one] at r1)
   ·rintro rfl
    simp[PV.one] at r1
   ·rw[hone] at hc
    have hj0:j=0:=by cases j<;>simp at hc⊢
    subst hj0
    have hlt0:0<(splice u.cells.toList off (a.eval y).cells.toList).length:=by rw[hulen,hsz1];exact Nat.one_pos
    have hc':(splice u.cells.toList off (a.eval y).cells.toList)[0]?=some c:=by
     simp only[List.getElem?_toArray,List.getElem?_cons_zero,Option.some.injEq] at hc
     rw[←hc,List.getD_eq_getElem?_getD,List.getElem?_eq_getElem hlt0]
     rfl
    have:=hcells 0 c hc'
    simpa using this
 ·simp[hj] at hz
  obtain ⟨m1,m2,u',m3,m4⟩:=g10 j z hz
  refine ⟨m1,m2,u',m3.keep hst,fun j' c hc=> ?_⟩
  have hc':=m4 j' c hc
  have hjs:j'<sz:=by
   have h1:=(m3.cells m2).1
   have:=(Array.getElem?_eq_some_iff.1 hc).1
   omega
  have hne:¬(i * sz+off≤j * sz+j'∧j * sz+j'<i * sz+off+(a.eval y).cells.toList.length):=by
   rintro ⟨t1,t2⟩
   rcases Nat.lt_or_ge i j with h1|h1
   ·have:(i+1) * sz≤j * sz:=Nat.mul_le_mul_right _ h1
    rw[Nat.succ_mul] at this
    omega
   ·have h2:j<i:=by omega
    have:(j+1) * sz≤i * sz:=Nat.mul_le_mul_right _ h2
    rw[Nat.succ_mul] at this
    omega
  have:=ZcW hspl (j * sz+j')
  rw[if_neg hne] at this
  simp only[List.getElem?_toArray,this]
  simpa using hc'
end
section
variable {R :Type} {P:Program} {T:Tab} {o:Oper} {κ κ1:List Kd} {E:Eff R}
variable {w0 :World} {F0:Nat→Prop} {X0:List Nat} {σ:List PV} {a:Act} {w:World} {F F1:Nat→Prop} {fp fp1:Nat→List Nat}
theorem ZeW {one:Bool} {ks:List CK} {xs:List PV} {vs:List Value} {fps:List (List Nat)} (h:GrpR w F one ks xs vs fps) {own:Nat→Prop}
 (H:∀(i:Nat) (app:Bool) (e:TypeId) (sz:Nat) (x:PV) (v:Value) (lb:List Nat),ks[i]?=some (.own app e sz)→xs[i]?=some x→vs[i]?=some v→CR w F (.own app e sz) x v lb→∀b∈lb,own b):∀b∈fps.flatten,own b:=by
 induction h with
 |nil=>simp
 | @cons k x v fp ks xs vs fps h ho ht ih=>
  intro b hb
  simp only[List.flatten_cons,List.mem_append] at hb
  rcases hb with hb|hb
  ·cases k with
   |none=>have h':fp=[]:=h;rw[h'] at hb;simp at hb
   |val=>rw[h.2] at hb;simp at hb
   |nil=>rw[h.2.2] at hb;simp at hb
   |own app e sz=>exact H 0 app e sz x v fp rfl rfl rfl h b hb
  ·exact ih (fun i app e sz x v lb h1 h2 h3 h4=>H (i+1) app e sz x v lb (by simpa using h1) (by simpa using h2) (by simpa using h3) h4) b hb
theorem Zho (hT:TabOk P T) {t:TypeId} {x y:Operand} (hop:o.op=.store t x y) (hd:o.dst=none) (hE:Zhn T t (sv κ x) (sv κ y)=some E):Zat P o κ E:=by
 unfold Zhn at hE
 split at hE
 case h_1=>cases hE
 rename_i ti hi
 obtain ⟨ht⟩:=hT.ty hi
 have hops:o.op.operands.toList=[x,y]:=by rw[hop];rfl
 split at hE
 ·rename_i q ks off hb
  split at hE
  ·rename_i hyv
   split at hE
   case isFalse=>cases hE
   rename_i hle
   cases hE
   refine Zko hd rfl fun w0 F0 X0 κ1 σ a w F F1 fp fp1 kk r h h1 htt hg hF hfp hall hlv hdy=> ?_
   cases hg
   have hdy':(((Zc ti.size (dv κ σ y).v).map fun cl=>PV.agg (splice (ZdX (sv κ x) (dv κ σ x)) off cl)).bind kk)=some r:=by rw[hops] at hdy;exact hdy
   obtain ⟨z,hz,hkk⟩:=Option.bind_eq_some_iff.1 hdy'
   obtain ⟨cl,hcl,rfl⟩:=Option.map_eq_some_iff.1 hz
   obtain ⟨rfl,c1,c2,c3⟩:=Zcw hcl
   have hv:=rdS h1 hyv
   obtain ⟨v1,v2⟩:=hv.cells c3
   have hgrp:=ZjD (w:=w) (F:=F1) (one:=true) (dv κ σ y).v.cells (a.eval y).cells.toList (by rw[PV.length_cells];simpa using v1) (fun i z hz=>by
    obtain ⟨e1,e2⟩:=v2 i z hz
    refine ⟨e1, ?_⟩
    have:(a.eval y).cells.toList.getD i Go.undef=(a.eval y).cells.getD i Go.undef:=by simp[List.getD,Array.getD_eq_getD_getElem?]
    rw[this];exact e2)
   rw[c1] at hgrp
   obtain ⟨w',l,r1,r2,r3,r4,r5,r6,r7,r8,r9,r10⟩:=Zkp (n:=ti.size) ht hop h1 h1 (fun _ h=>h) (fun _ h=>h) (Zg hlv (by rw[hop];exact .head _)) hb (by omega) rfl hle hgrp (hv.store c3) (by rw[ZbI];simp) (by rw[ZbI];simp) (by rw[ZbI];exact List.nodup_nil) (ZoZ hb)
   exact ⟨_,w',l,r1,hkk,r2,r3,r4,r5,r6,r7,r8,r9,rfl,fun _=>⟨rfl,fun k y u hk hc hal=>(r10 k y u hk hc hal).1⟩⟩
  ·rename_i hyv
   split at hE
   ·rename_i ks' s hyk hys
    split at hE
    case isTrue=>cases hE
    rename_i hc
    cases hE
    have hsq:s≠q:=fun e=>hc (.inl e)
    have hkl:ks'.length=ti.size:=Classical.byContradiction fun e=>hc (.inr (.inl e))
    have hle:off+ti.size≤ks.length:=Classical.byContradiction fun e=>hc (.inr (.inr (.inl e)))
    have hnone:∀k∈ks',k≠CK.none:=fun k hk e=>hc (.inr (.inr (.inr (List.any_eq_true.2 ⟨k,hk,by simp[e]⟩))))
    obtain rfl:=Za3 hys
    have hks:kd κ s=.grp false ks':=hyk
    refine Zko hd rfl fun w0 F0 X0 κ1 σ a w F F1 fp fp1 kk r h h1 htt hg hF hfp hall hlv hdy=> ?_
    have hdy':((ZkQ (ZdX (sv κ x) (dv κ σ x)) off (dv κ σ (.tmp s)).v).bind kk)=some r:=by rw[hops] at hdy;exact hdy
    obtain ⟨z,hz,hkk⟩:=Option.bind_eq_some_iff.1 hdy'
    obtain ⟨lb,hn,hsub,hsr⟩:=h.sr s
    rw[hks] at hsr
    obtain ⟨cs,xs,fps,ev,ex,hgrp,rfl⟩:=hsr
    simp only[Bool.false_eq_true,if_false] at ev ex
    have hdv:(dv κ σ (.tmp s)).v=.agg xs:=ex
    rw[hdv] at hz
    cases hz
    have hev:a.eval (.tmp s)=.agg cs:=ev
    have hst:Stays w F w F1:=⟨hF,fun _ _=>rfl⟩
    have hgrp1:=hgrp.keep hst fun _ _=>rfl
    have hlens:=hgrp.lens
    have hcs:cs.size=ti.size:=by have:=hlens.2.1;simp at this;omega
    have hgv:∀b∈fps.flatten,b∈fp1 q:=ZeW hgrp (own:=fun b=>b∈fp1 q) fun i app e sz x' v' lb' k1 k2 k3 k4 b hbb=>by
     have hm:=ZfG (s:=s) ks' 0 i k1
     rw[Nat.zero_add] at hm
     obtain ⟨y',v'',l',lb'',m1,m2,m3,m4,m5⟩:=hall _ hm
     simp only[Bool.false_eq_true,if_false] at m5
     have hvv:v''=v':=by
      rcases m1 with ⟨b',xs',t1,t2,t3,t4⟩|⟨tt,cs',xs',t1,t2,t3,t4,_⟩|⟨cs',xs',t1,_⟩
      ·simp only at t1;rw[ev] at t1;cases t1
      ·simp only at t1
       rw[ev] at t1
       cases tt<;>simp at t1
       subst t1
       have:cs[i]?=some v':=by simpa using k3
       rw[this] at t2
       exact (Option.some.inj t2).symm
      ·simp only at t1;rw[ev] at t1;cases t1
     subst hvv
     obtain ⟨l0,rfl,hr0⟩:=k4
     have:=hr0.lb_eq m3
     subst this
     exact m5 b hbb
    have hev':(a.eval (.tmp s)).cells.toList=cs.toList:=by rw[hev];rfl
    obtain ⟨w',l,r1,r2,r3,r4,r5,r6,r7,r8,r9,r10⟩:=Zkp (n:=ti.size) ht hop h h1 hF hfp (Zg hlv (by rw[hop];exact .head _)) hb (by rw[hev];exact hcs) rfl hle (ks':=ks') (xs':=xs) (fps':=fps) (by rw[hev'];have:=hgrp1;simpa using this)
     (by
      rw[hev']
      intro u hu
      obtain ⟨i,hi'⟩:=List.mem_iff_getElem?.1 hu
      have hlt:=(List.getElem?_eq_some_iff.1 hi').1
      obtain ⟨z,hz⟩:∃z,xs[i]?=some z:=⟨xs[i]'(by omega),List.getElem?_eq_getElem _⟩
      obtain ⟨k,v,f,m1,m2,m3,m4,m5⟩:=hgrp.at i z hz
      rw[hi'] at m2
      cases m2
      cases k with
      |none=>exact absurd rfl (hnone _ (List.mem_of_getElem? m1))
      |val=>exact m4.1.one' (m5 rfl)
      |nil=>rw[m4.2.1];rfl
      |own app e sz=>obtain ⟨l0,_,hr0⟩:=m4;obtain ⟨A,c,rfl⟩:=hr0.slice_eq;rfl)
     hgv (fun b hbb hbq=>h.dj s q b hsq (hsub b hbb) hbq) hn (ZoZ hb)
    exact ⟨_,w',l,r1,hkk,r2,r3,r4,r5,r6,r7,r8,r9,rfl,fun _=>⟨rfl,fun k y u hk hc hal=>(r10 k y u hk hc hal).1⟩⟩
   ·split at hE
    case h_2=>cases hE
    rename_i app e sz s i hK hA
    split at hE
    case isTrue=>cases hE
    rename_i hc
    cases hE
    have hsq:s≠q:=fun e=>hc (.inl e)
    have hts:ti.size=1:=Classical.byContradiction fun e=>hc (.inr (.inl e))
    have hlt:off<ks.length:=Classical.byContradiction fun e=>hc (.inr (.inr (.inr e)))
    refine Zko hd rfl fun w0 F0 X0 κ1 σ a w F F1 fp fp1 kk r h h1 htt hg hF hfp hall hlv hdy=> ?_
    have hdy':(((Zi (sv κ y) (dv κ σ y)).map fun l=>PV.agg ((ZdX (sv κ x) (dv κ σ x)).set off (.lst l))).bind kk)=some r:=by rw[hops] at hdy;exact hdy
    obtain ⟨z,hz,hkk⟩:=Option.bind_eq_some_iff.1 hdy'
    obtain ⟨l0,hl0,rfl⟩:=Option.map_eq_some_iff.1 hz
    obtain ⟨s',i',lb,q1,q2,q3,q4⟩:=Zd8 h (x:=y) (Zg hlv (by rw[hop];exact .tail _ (.head _))) (l:=l0) hl0 hK
    rw[hA] at q1
    cases q1
    obtain ⟨y',v',l',lb',m1,m2,m3,m4,m5⟩:=hall _ (List.mem_singleton.2 rfl)
    simp only[Bool.false_eq_true,if_false] at m5
    have hvv:v'=a.eval y:=by
     unfold Zcm at hA
     split at hA
     ·rename_i hk
      obtain ⟨s2,hs2,e2⟩:=Option.map_eq_some_iff.1 hA
      cases e2
      obtain rfl:=Za3 hs2
      exact m1.1.symm
     ·rename_i q' hk
      cases hA
      have hal:=h.al' y (Zg hlv (by rw[hop];exact .tail _ (.head _)))
      rw[hk] at hal
      exact m1.1.symm.trans hal
     ·rename_i q' off' hk
      cases hA
      have hal:=h.al' y (Zg hlv (by rw[hop];exact .tail _ (.head _)))
      rw[hk] at hal
      obtain ⟨b1,t1,t2⟩:=hal
      rcases m1 with ⟨b',xs',g1,g2,g3,g4⟩|⟨tt,cs',xs',g1,g2,g3,g4,_⟩|⟨cs',xs',g1,_⟩
      ·simp only at g1;rw[t1] at g1;simp at g1;subst g1;rw[t2] at g2;exact (Option.some.inj g2).symm
      ·simp only at g1;rw[t1] at g1;cases tt<;>simp at g1
      ·simp only at g1;rw[t1] at g1;cases g1
     ·cases hA
    rw[hvv] at m3
    have hlb:=q2.lb_eq m3
    subst hlb
    obtain ⟨A,c,hsl⟩:=q2.slice_eq
    have hst:Stays w F w F1:=⟨hF,fun _ _=>rfl⟩
    have hcells:(a.eval y).cells= #[a.eval y]:=by rw[hsl];rfl
    have hgrp:GrpR w F1 true [.own app e sz] [.lst l0] (a.eval y).cells.toList [lb]:=by
     rw[hcells]
     exact .cons ⟨l0,rfl,q2.keep hst fun _ _=>rfl⟩ (fun _=>rfl) .nil
    obtain ⟨w',l,r1,r2,r3,r4,r5,r6,r7,r8,r9,r10⟩:=Zkp (n:=1) ht hop h h1 hF hfp (Zg hlv (by rw[hop];exact .head _)) hb (by rw[hcells];rfl) hts.symm (by omega) hgrp (by rw[hcells,hsl];simp[Value.oneCell']) (by simpa using m5) (fun b hbb hbq=>h.dj s q b hsq (q4 b (by simpa using hbb)) hbq) (by simpa using q3) (ZoZ hb)
    have hbv:∃(b:Nat) (cs:Array Value) (TT:TypeId) (xs:List PV) (fps:List (List Nat)) (l:List Nat),ZdX (sv κ x) (dv κ σ x)=xs∧xs.length=ks.length:=by
     obtain ⟨b,cs,TT,xs,fps,ll,e1,e2,e3,e4,e5,e6,e7,e8,e9⟩:=ZeA h (Zg hlv (by rw[hop];exact .head _)) hb
     exact ⟨b,cs,TT,xs,fps,ll,e3,e7.lens.1.symm⟩
    obtain ⟨_,_,_,xs,_,_,e3,e4⟩:=hbv
    have sp:∀{α:Type} (l:List α) (z:α),off<l.length→splice l off [z]=l.set off z:=by
     intro α l z hz
     apply List.ext_getElem?
     intro j
     rw[ZcW (by simp only[List.length_singleton];omega),List.getElem?_set]
     by_cases hj:off=j
     ·subst hj;simp[hz]
     ·rw[if_neg (by simp;omega),if_neg hj]
    rw[sp ks _ hlt,e3,sp xs _ (by omega)] at r8
    rw[e3] at hkk
    refine ⟨_,w',l,r1,hkk,r2,r3,r4,r5,r6,r7,r8,r9,rfl,fun _=>⟨rfl,fun k y' u hk hcut hal=>(r10 k y' u hk hcut hal).1⟩⟩
 ·split at hE
  case h_2=>cases hE
  rename_i p sz off app e sz' hk hK
  split at hE
  case isFalse=>cases hE
  rename_i hc
  obtain ⟨rfl,hyv⟩:=hc
  have main:∀(w0:World) (F0:Nat→Prop) (X0:List Nat) (σ:List PV) (a:Act) (w:World) (F:Nat→Prop) (fp:Nat→List Nat) (z:PV),St w0 F0 X0 κ σ a.tmps w F fp→Zcv κ σ x→Zfm (sv κ x) (sv κ y) (ZbJ off ti.size) (dv κ σ x) (dv κ σ y)=some z→
   ∃ (l l':List PV) (w':World) (g cap:Nat),z=.lst l'∧(execOp a.eval o).run P w=.ok .skip w'∧w'.os=w.os∧w'.tape=w.tape∧w'.output=w.output∧w'.heap.size=w.heap.size∧g∈fp p.of∧(∀b,b≠g→w'.heap[b]?=w.heap[b]?)∧
    PlV a.tmps w p (.slice (some ⟨g,0,none⟩) l.length cap)∧l'.length=l.length∧ZbV w' F app e sz l' (.slice (some ⟨g,0,none⟩) l.length cap) [g]:=by
   intro w0 F0 X0 σ a w F fp z h hlx hz
   unfold Zfm at hz
   split at hz
   case h_2=>cases hz
   rename_i k i hvi
   obtain ⟨l,hl,hz⟩:=Option.bind_eq_some_iff.1 hz
   obtain ⟨el,hel,hz⟩:=Option.bind_eq_some_iff.1 hz
   obtain ⟨el',hel',rfl⟩:=Option.map_eq_some_iff.1 hz
   have hi0:(dv κ σ x).v=.int k (i.toNat:Int):=by
    obtain ⟨i',n,cap,g,cur,fr,lb,g1,_⟩:=Zls h hlx hk hl hK
    rw[hvi] at g1
    cases g1
    rw[hvi]
    simp
   obtain ⟨w',g,cap,cur',fr,r1,r2,r3,r4,r5,r6,r7,r8,r9⟩:=Zuz ht hop hlx h hk hl hK hyv hi0 hel hel'
   exact ⟨l,_,w',g,cap,rfl,r1,r2,r3,r4,r5,r6,r7,r8,by simp,r9⟩
  split at hE
  ·rename_i q
   cases hE
   refine Zko hd rfl fun w0 F0 X0 κ1 σ a w F F1 fp fp1 kk r h h1 htt hg hF hfp hall hlv hdy=> ?_
   cases hg
   have hdy':((Zfm (sv κ x) (sv κ y) (ZbJ off ti.size) (dv κ σ x) (dv κ σ y)).bind kk)=some r:=by rw[hops] at hdy;exact hdy
   obtain ⟨z,hz,hkk⟩:=Option.bind_eq_some_iff.1 hdy'
   obtain ⟨l,l',w',g,cap,rfl,r1,r2,r3,r4,r5,r6,r7,r8,r9,r10⟩:=main w0 F0 X0 σ a w F1 fp1 z h1 (Zg hlv (by rw[hop];exact .head _)) hz
   have e1:tv a.tmps q=.slice (some ⟨g,0,none⟩) l.length cap:=r8
   refine ⟨_,w',[g],r1,hkk,r2,r3,r4,r5,fun b _ hbn=>r7 b (fun e=>hbn (e▸r6)),by simp,⟨l',rfl, ?_⟩,by have:g∈fp1 q:=r6;simpa using this,rfl,fun hbx=> ?_⟩
   ·rw[e1];exact r10
   ·exfalso
    have hk':kOp κ x=.elm (.slot q) sz off:=hk
    unfold ZoY at hK
    rw[hk] at hK
    dsimp only at hK
    split at hK
    case h_2=>cases hK
    rename_i a' e' s' hpk
    have hq:kd κ q=.ck (.own a' e' s'):=by simpa[sv,hk',Kd.dep,Place.of] using hpk
    simp only at hbx
    rw[hq] at hbx
    cases hbx
  ·rename_i q oo
   split at hE
   case h_2=>cases hE
   rename_i TT ks hpk
   cases hE
   refine Zko hd rfl fun w0 F0 X0 κ1 σ a w F F1 fp fp1 kk r h h1 htt hg hF hfp hall hlv hdy=> ?_
   cases hg
   have hk':kOp κ x=.elm (.cell q oo) sz off:=hk
   have hq:kd κ q=.box TT ks:=by simpa[sv,hk',Kd.dep,Place.of] using hpk
   have hdy':(((Zfm (sv κ x) (sv κ y) (ZbJ off ti.size) (dv κ σ x) (dv κ σ y)).map fun y'=>PV.agg ((dv κ σ x).pv.cells.set oo y')).bind kk)=some r:=by rw[hops] at hdy;exact hdy
   obtain ⟨z,hz,hkk⟩:=Option.bind_eq_some_iff.1 hdy'
   obtain ⟨z',hz',rfl⟩:=Option.map_eq_some_iff.1 hz
   obtain ⟨l,l',w',g,cap,rfl,r1,r2,r3,r4,r5,r6,r7,r8,r9,r10⟩:=main w0 F0 X0 σ a w F1 fp1 z' h1 (Zg hlv (by rw[hop];exact .head _)) hz'
   obtain ⟨lb,hn,hsub,hsr⟩:=h1.sr q
   rw[hq] at hsr
   obtain ⟨b0,cs,xs,fps,ev,ex,hheap,hgrp,rfl⟩:=hsr
   have e2:(dv κ σ x).pv=.agg xs:=by simpa[dv,hk',Kd.dep,Place.of] using ex
   rw[e2] at hkk
   obtain ⟨b1,t1,t2⟩:=r8
   rw[ev] at t1
   simp at t1
   subst t1
   have t2':=t2
   rw[cell_of_row w b0 oo cs TT (0,0) hheap] at t2
   have hks:ks[oo]?=some (.own app e sz):=by
    unfold ZoY at hK
    rw[hk] at hK
    dsimp only at hK
    split at hK
    case h_2=>cases hK
    rename_i a' e' s' hpk'
    cases hK
    obtain ⟨T2,ks2,hb2,hk2⟩:=ZhW hpk'
    rw[hpk] at hb2
    cases hb2
    exact hk2
   obtain ⟨y0,v0,lb0,hx0,hv0,hf0,hcr0⟩:=hgrp.ks_at hks
   obtain ⟨l00,rfl,hrow0⟩:=hcr0
   have hv0':v0=.slice (some ⟨g,0,none⟩) l.length cap:=by
    have:cs[oo]?=some v0:=by simpa using hv0
    rw[this] at t2
    exact Option.some.inj t2
   subst hv0'
   have hlb0:lb0=[g]:=by
    rcases hrow0 with ⟨h1',_,_⟩|⟨g',_,_,_,h1',h2',_⟩
    ·simp at h1'
    ·simp at h1';rw[h2',h1'.1]
   subst hlb0
   have hgf:g∈fps.flatten:=List.mem_flatten.2 ⟨[g],List.mem_of_getElem? hf0,by simp⟩
   have hb0g:b0≠g:=fun e=>(List.nodup_cons.1 hn).1 (e▸hgf)
   have hst:Stays w F1 w' F1:=⟨fun _ h=>h,fun c hc=>r7 c (fun e=>(h1.pr _ g r6).2.1 (e▸hc))⟩
   have hgrp':GrpR w' F1 true ks (xs.set oo (.lst l')) cs.toList fps:=by
    have hw:=hgrp.weak (c:=.none) hx0 hv0 rfl
    have hw2:=hw.keep hst (fun c hc=>r7 c (fun e=>Zbj (List.nodup_cons.1 hn).2 hf0 (by simp) (e▸hc)))
    have hw3:=hw2.set oo (k:=.own app e sz) (x:=.lst l') (v:=.slice (some ⟨g,0,none⟩) l.length cap) (fp:=[g]) ⟨l',rfl,r10⟩ (fun _=>rfl)
    have s1:(ks.set oo CK.none).set oo (.own app e sz)=ks:=by
     rw[List.set_set]
     apply List.ext_getElem?
     intro j
     rw[List.getElem?_set]
     by_cases ej:oo=j
     ·subst ej;rw[hks];simp[(List.getElem?_eq_some_iff.1 hks).1]
     ·simp[ej]
    have s2:cs.toList.set oo (.slice (some ⟨g,0,none⟩) l.length cap)=cs.toList:=by
     apply List.ext_getElem?
     intro j
     rw[List.getElem?_set]
     by_cases ej:oo=j
     ·subst ej;have hlt:=(List.getElem?_eq_some_iff.1 hv0).1;rw[hv0];simpa using hlt
     ·simp[ej]
    have s3:(fps.set oo []).set oo [g]=fps:=by
     rw[List.set_set]
     apply List.ext_getElem?
     intro j
     rw[List.getElem?_set]
     by_cases ej:oo=j
     ·subst ej;rw[hf0];simp[(List.getElem?_eq_some_iff.1 hf0).1]
     ·simp[ej]
    rw[s1,s2,s3] at hw3
    exact hw3
   refine ⟨_,w',b0::fps.flatten,r1,hkk,r2,r3,r4,r5,fun b _ hbn=>r7 b (fun e=>hbn (e▸r6)),hn,⟨b0,cs,_,fps,ev,rfl,by rw[r7 b0 hb0g];exact hheap,hgrp',rfl⟩,hsub,rfl,fun _=>⟨rfl,fun k y' u hk hcut hal=> ?_⟩⟩
   have cell:∀o2 (v:Value),(∃b',tv a.tmps q=.pointer (some ⟨b',0,none⟩)∧w.cell? ⟨b',o2,none⟩=some v)→∃b',tv a.tmps q=.pointer (some ⟨b',0,none⟩)∧w'.cell? ⟨b',o2,none⟩=some v:=by
    rintro o2 v ⟨b',hb1,hb2⟩
    rw[ev] at hb1
    simp at hb1
    subst hb1
    exact ⟨b0,ev,(World.cell?_of_block (w:=w) (a:=⟨b0,o2,none⟩) (r7 b0 hb0g)).trans hb2⟩
   cases k with
   | ali p'=>
    cases p' with
    |slot q'=>simp[Kd.bdep] at hk
    |cell q' o2=>simp only[Kd.bdep,Option.some.injEq] at hk;subst hk;exact cell o2 u hal
   | elm p' sz'' o'=>
    cases p' with
    |slot q'=>simp[Kd.bdep] at hk
    | cell q' o2=>
     simp only[Kd.bdep,Option.some.injEq] at hk
     subst hk
     obtain ⟨i,b',m,cap',u1,u2,u3,u4⟩:=hal
     exact ⟨i,b',m,cap',u1,u2,cell o2 _ u3,u4⟩
   |bxf q' o'=>obtain ⟨b',u1,u2⟩:=hal;exact ⟨b',u1,u2⟩
   |ck c=>simp[Kd.bdep] at hk
   |box T ks=>simp[Kd.bdep] at hk
   |grp t ks=>simp[Kd.bdep] at hk
   |ipt=>simp[Kd.bdep] at hk
   |clo f=>simp[Kd.bdep] at hk
   |cln f=>simp[Kd.bdep] at hk
   |mp kt et=>simp[Kd.bdep] at hk
   |mbx s=>simp[Kd.bdep] at hk
   |tgr sh ks=>simp[Kd.bdep] at hk
   |tip=>simp[Kd.bdep] at hk
end
end Go.Proofs.YtkgnjijonikchaaGreat
