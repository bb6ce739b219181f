import Derived.Below
import Derived.Deep.Draws
import Derived.Great.BuildSlice
import Derived.Laws.IdiomStrings
import Derived.Laws.MakeOwn
import Derived.Laws.Slices
import Derived.Laws.Strings
import Derived.LoopN
import Derived.WalkKit
namespace Go.Proofs.YtjjobbamoeaogaaDoor
open Go.RowKit
set_option linter.unusedVariables false
set_option linter.unusedSimpArgs false
def GT :List (Nat×List Value):=[(0,[.string ⟨#[]⟩,.string ⟨#[]⟩,.string ⟨#[33]⟩,.string ⟨#[63]⟩]),(1,[.string ⟨#[]⟩,.string ⟨#[105,110]⟩,.string ⟨#[97,110,100]⟩,.string ⟨#[111,114]⟩,.string ⟨#[104,111,108,100]⟩,.string ⟨#[99,111,118,101,114]⟩])]
def DT :List (List (Option (TypeId×Nat))):=[[none,none,some (57,2),some (9,1)]]
def DE :List (TypeId×Nat):=[(39,0)]
def GA :List (TypeId×Nat×TypeId):=[(63,4,9),(65,6,9)]
def LG :List (TypeId×Nat):=[(25,87)]
def NS :List (TypeId×Nat):=[(39,7)]
def NB :List (TypeId×Nat):=[(23,73)]
def GOk (w:World) (F:Nat→Prop):Prop:=∀(g:Nat) (l:List Value),(g,l)∈GT→F g∧∃(T:TypeId) (fr:Nat×Nat) (cs:Array Value),w.heap[g]?=some (.cells cs T fr)∧cs.toList=l
structure FOk (w:World) (F:Nat→Prop):Prop where
 lt:∀b,F b→b<w.heap.size
 gk:GOk w F
instance {w :World} {F:Nat→Prop}:CoeFun (FOk w F) (fun _=>∀b,F b→b<w.heap.size):=⟨FOk.lt⟩
inductive PV where
 |undef
 |bool (b:Bool)
 |int (k:IntKind) (n:Int)
 |str (s:List UInt8)
 |lst (l:List PV)
 |agg (l:List PV)
 |tup (l:List PV)
 |map (l:List (PV×PV))
 |nl
 deriving Inhabited
def PV.cells :PV→List PV
 |.agg l=>l
 |x=>[x]
def PV.width :PV→Nat
 |.agg l=>l.length
 |_=>1
theorem PV.length_cells (x:PV):x.cells.length=x.width:=by cases x<;>rfl
def PV.one :PV→Bool
 |.agg _|.tup _|.undef=>false
 |_=>true
inductive VR (w:World) (F:Nat→Prop):PV→Value→Prop
 |undef:VR w F .undef Go.undef
 |bool (b:Bool):VR w F (.bool b) (.bool b)
 |int (k:IntKind) (n:Int):VR w F (.int k n) (.int k n)
 |str (s:List UInt8):VR w F (.str s) (.string ⟨s.toArray⟩)
 | lst (l:List PV) (A:Option Addr) (c sz:Nat) (vs:Nat→Value) (h1:l.length≤c) (h2:c≤maxLen)
  (h3:l≠[]→∃b off,A=some ⟨b,off,none⟩∧F b∧∀i,i<l.length→∀j u,(vs i).cells[j]?=some u→w.cell? ⟨b,off+i * sz+j,none⟩=some u)
  (h4:∀(i:Nat) (x:PV),l[i]?=some x→x.width=sz∧(vs i).cells.size=sz) (h5:∀(i:Nat) (x:PV),l[i]?=some x→VR w F x (vs i)):VR w F (.lst l) (.slice A l.length c)
 | map (l:List (PV×PV)) (b clock:Nat) (es:Array MapEntry) (hb:F b) (hw:w.heap[b]?=some (.map es clock)) (hl:l.length=es.size)
  (hk:∀(i:Nat) (p:PV×PV) (e:MapEntry),l[i]?=some p→es[i]?=some e→VR w F p.1 e.key) (hx:∀(i:Nat) (p:PV×PV) (e:MapEntry),l[i]?=some p→es[i]?=some e→VR w F p.2 e.val):VR w F (.map l) (.map (some b))
 |nl:VR w F .nl (.slice none 0 0)
 |agg (l:List PV) (cs:Array Value) (h1:l.length=cs.size) (h2:∀(i:Nat) (x:PV),l[i]?=some x→x.one=true) (h3:∀(i:Nat) (x:PV),l[i]?=some x→VR w F x (cs.getD i Go.undef)):VR w F (.agg l) (.agg cs)
structure Stays (w:World) (F:Nat→Prop) (w':World) (F':Nat→Prop):Prop where
 sub:∀b,F b→F' b
 same:∀b,F b→w'.heap[b]?=w.heap[b]?
theorem Stays.refl (w:World) (F:Nat→Prop):Stays w F w F:=⟨fun _ h=>h,fun _ _=>rfl⟩
theorem Stays.trans {w w1 w2:World} {F F1 F2:Nat→Prop} (h:Stays w F w1 F1) (k:Stays w1 F1 w2 F2):Stays w F w2 F2:=
 ⟨fun b hb=>k.sub b (h.sub b hb),fun b hb=>(k.same b (h.sub b hb)).trans (h.same b hb)⟩
theorem VR.keep {w w':World} {F F':Nat→Prop} {x:PV} {v:Value} (h:VR w F x v) (hs:Stays w F w' F'):VR w' F' x v:=by
 induction h with
 |undef=>exact .undef
 |bool b=>exact .bool b
 |int k n=>exact .int k n
 |str s=>exact .str s
 | lst l A c sz vs h1 h2 h3 h4 h5 ih=>
  refine .lst l A c sz vs h1 h2 (fun hl=> ?_) h4 ih
  obtain ⟨b,off,e,hb,hc⟩:=h3 hl
  exact ⟨b,off,e,hs.sub b hb,fun i hi j u hj=>(World.cell?_of_block (w:=w) (a:=⟨b,_,none⟩) (hs.same b hb)).trans (hc i hi j u hj)⟩
 |map l b clock es hb hw hl hk hx ihk ihx=>exact .map l b clock es (hs.sub b hb) ((hs.same b hb).trans hw) hl ihk ihx
 |nl=>exact .nl
 |agg l cs h1 h2 h3 ih=>exact .agg l cs h1 h2 ih
theorem VR.cells {w:World} {F:Nat→Prop} {x:PV} {v:Value} (h:VR w F x v) (hu:x≠.undef):x.width=v.cells.size∧∀(i:Nat) (y:PV),x.cells[i]?=some y→y.one=true∧VR w F y (v.cells.getD i Go.undef):=by
 cases h with
 |undef=>exact absurd rfl hu
 |bool b=>exact ⟨rfl,fun i y hy=>by cases i<;>simp[PV.cells] at hy;subst hy;exact ⟨rfl,.bool b⟩⟩
 |int k n=>exact ⟨rfl,fun i y hy=>by cases i<;>simp[PV.cells] at hy;subst hy;exact ⟨rfl,.int k n⟩⟩
 |str s=>exact ⟨rfl,fun i y hy=>by cases i<;>simp[PV.cells] at hy;subst hy;exact ⟨rfl,.str s⟩⟩
 |lst l A c sz vs h1 h2 h3 h4 h5=>exact ⟨rfl,fun i y hy=>by cases i<;>simp[PV.cells] at hy;subst hy;exact ⟨rfl,.lst l A c sz vs h1 h2 h3 h4 h5⟩⟩
 |map l b clock es hb hw hl hk hx=>exact ⟨rfl,fun i y hy=>by cases i<;>simp[PV.cells] at hy;subst hy;exact ⟨rfl,.map l b clock es hb hw hl hk hx⟩⟩
 |nl=>exact ⟨rfl,fun i y hy=>by cases i<;>simp[PV.cells] at hy;subst hy;exact ⟨rfl,.nl⟩⟩
 |agg l cs h1 h2 h3=>exact ⟨h1,fun i y hy=>⟨h2 i y hy,h3 i y hy⟩⟩
theorem VR.of_cells {w:World} {F:Nat→Prop} {l:List PV} {cs:Array Value} (h1:l.length=cs.size) (h2:∀(i:Nat) (x:PV),l[i]?=some x→x.one=true∧VR w F x (cs.getD i Go.undef)):VR w F (.agg l) (.agg cs):=
 .agg l cs h1 (fun i x h=>(h2 i x h).1) (fun i x h=>(h2 i x h).2)
theorem VR.int_eq {w:World} {F:Nat→Prop} {k:IntKind} {n:Int} {v:Value} (h:VR w F (.int k n) v):v=.int k n:=by cases h;rfl
theorem VR.bool_eq {w:World} {F:Nat→Prop} {b:Bool} {v:Value} (h:VR w F (.bool b) v):v=.bool b:=by cases h;rfl
theorem VR.str_eq {w:World} {F:Nat→Prop} {s:List UInt8} {v:Value} (h:VR w F (.str s) v):v=.string ⟨s.toArray⟩:=by cases h;rfl
theorem VR.oneCell {w:World} {F:Nat→Prop} {x:PV} {v:Value} (h:VR w F x v) (ho:x.one=true):v.cells= #[v]:=by
 cases h<;>first|rfl|(simp[PV.one] at ho)
inductive CK where
 |none
 |val
 |nil
 |own (app:Bool) (e:TypeId) (sz:Nat)
 deriving DecidableEq
inductive Place where
 |slot (q:Nat)
 |cell (q off:Nat)
 deriving DecidableEq
inductive Kd where
 |ck (c:CK)
 |box (T:TypeId) (ks:List CK)
 |grp (tup:Bool) (ks:List CK)
 |ali (p:Place)
 |elm (p:Place) (sz off:Nat)
 |bxf (q off:Nat)
 |ipt
 |clo (f:FuncId)
 |cln (f:FuncId)
 |mp (k e:TypeId)
 |tgr (sh:List (Option Nat)) (ks:List CK)
 |tip
 |mbx (s:Nat)
 |tl (q:Nat)
 |tt
 |gal (q n:Nat)
 deriving DecidableEq
def Zb3 (w:World) (F:Nat→Prop) (sz:Nat) (l:List PV) (cur:Array Value):Prop:=
 ∀(i:Nat) (x:PV),l[i]?=some x→x.width=sz∧x≠.undef∧∃u:Value,VR w F x u∧∀(j:Nat) (c:Value),u.cells[j]?=some c→cur[i * sz+j]?=some c
def Zfh (w:World) (F:Nat→Prop) (app:Bool) (e:TypeId) (sz:Nat) (l:List PV) (v:Value) (fp:List Nat):Prop:=
 (v=.slice none 0 0∧l=[]∧fp=[])∨
 ∃ (g cap:Nat) (cur:Array Value) (fr:Nat×Nat),v=.slice (some ⟨g,0,none⟩) l.length cap∧fp=[g]∧w.heap[g]?=some (.cells cur e fr)∧(app=true→fr=(0,0))∧(fr.2≤fr.1∨cur.size≤fr.1)∧
  l.length≤cap∧cap≤maxLen∧cur.size=cap * sz∧Zb3 w F sz l cur
abbrev DK :=Option (TypeId×Nat)
inductive DElR (w:World) (F:Nat→Prop):List DK→List PV→List Value→List (List Nat)→Prop
 |nil:DElR w F [] [] [] []
 |val {x:PV} {v:Value} {ks:List DK} {xs:List PV} {vs:List Value} {fps:List (List Nat)} (h:VR w F x v) (ho:x.one=true) (ht:DElR w F ks xs vs fps):DElR w F (none::ks) (x::xs) (v::vs) ([]::fps)
 |row {e:TypeId} {sz:Nat} {l:List PV} {v:Value} {lb:List Nat} {ks:List DK} {xs:List PV} {vs:List Value} {fps:List (List Nat)} (h:Zfh w F true e sz l v lb) (ht:DElR w F ks xs vs fps):DElR w F (some (e,sz)::ks) (.lst l::xs) (v::vs) (lb::fps)
def ElD (w:World) (F:Nat→Prop) (ks:List DK) (x:PV) (u:Value) (fps:List (List Nat)):Prop:=
 (∃(xs:List PV) (cs:Array Value),x=.agg xs∧u=.agg cs∧DElR w F ks xs cs.toList fps)∨(x.one=true∧u.cells= #[u]∧DElR w F ks [x] [u] fps)
def Za4 (w:World) (F:Nat→Prop) (e:TypeId) (ks:List DK) (l:List PV) (v:Value) (fp:List Nat):Prop:=
 (v=.slice none 0 0∧l=[]∧fp=[])∨
 ∃ (g cap:Nat) (cur:Array Value) (fpss:List (List (List Nat))),v=.slice (some ⟨g,0,none⟩) l.length cap∧fp=g::(fpss.map List.flatten).flatten∧w.heap[g]?=some (.cells cur e (0,0))∧
  l.length≤cap∧cap≤maxLen∧cur.size=cap * ks.length∧fpss.length=l.length∧
  ∀(i:Nat) (x:PV),l[i]?=some x→∃(u:Value) (fps:List (List Nat)),fpss[i]?=some fps∧ElD w F ks x u fps∧∀(j:Nat) (c:Value),u.cells[j]?=some c→cur[i * ks.length+j]?=some c
def dB :Nat:=1000000
def ZgB (sz:Nat):Option (List DK):=if sz<dB then none else DT[sz - dB]?
def Zal (w:World) (F:Nat→Prop) (app:Bool) (e:TypeId) (sz:Nat) (l:List PV) (v:Value) (fp:List Nat):Prop:=
 match ZgB sz with
 |none=>Zfh w F app e sz l v fp
 |some ks=>app=true∧Za4 w F e ks l v fp
theorem Zaa {sz:Nat} (h:sz<dB):ZgB sz=none:=by unfold ZgB;rw[if_pos h]
theorem Zr {w:World} {F:Nat→Prop} {app:Bool} {e:TypeId} {sz:Nat} {l:List PV} {v:Value} {fp:List Nat} (h:ZgB sz=none):Zal w F app e sz l v fp↔Zfh w F app e sz l v fp:=by
 unfold Zal;rw[h]
theorem Za5 {w:World} {F:Nat→Prop} {app:Bool} {e:TypeId} {sz:Nat} {ks:List DK} {l:List PV} {v:Value} {fp:List Nat} (h:ZgB sz=some ks):Zal w F app e sz l v fp↔app=true∧Za4 w F e ks l v fp:=by
 unfold Zal;rw[h]
theorem Zal.nil_ {w:World} {F:Nat→Prop} {e:TypeId} {sz:Nat}:Zal w F true e sz [] (.slice none 0 0) []:=by
 unfold Zal
 split
 ·exact .inl ⟨rfl,rfl,rfl⟩
 ·exact ⟨rfl,.inl ⟨rfl,rfl,rfl⟩⟩
def CR (w:World) (F:Nat→Prop):CK→PV→Value→List Nat→Prop
 |.none,_,_,fp=>fp=[]
 |.val,x,v,fp=>VR w F x v∧fp=[]
 |.nil,x,v,fp=>x=.lst []∧v=.slice none 0 0∧fp=[]
 |.own app e sz,x,v,fp=>∃l,x=.lst l∧Zal w F app e sz l v fp
inductive GrpR (w:World) (F:Nat→Prop) (one:Bool):List CK→List PV→List Value→List (List Nat)→Prop
 |nil:GrpR w F one [] [] [] []
 | cons {k:CK} {x:PV} {v:Value} {fp:List Nat} {ks:List CK} {xs:List PV} {vs:List Value} {fps:List (List Nat)}
  (h:CR w F k x v fp) (ho:one=true→x.one=true) (ht:GrpR w F one ks xs vs fps):GrpR w F one (k::ks) (x::xs) (v::vs) (fp::fps)
inductive MapR (w:World) (F:Nat→Prop):List (PV×PV)→List MapEntry→Prop
 |nil:MapR w F [] []
 |cons {k x:PV} {e:MapEntry} {l:List (PV×PV)} {es:List MapEntry} (hk:VR w F k e.key) (hx:VR w F x e.val) (ht:MapR w F l es):MapR w F ((k,x)::l) (e::es)
def ZkE (w:World) (F:Nat→Prop) (x:PV) (v:Value):Prop:=
 ∃(b off:Nat) (xs:List PV),v=.pointer (some ⟨b,off,none⟩)∧x=.agg xs∧F b∧∀(j:Nat) (y:PV),xs[j]?=some y→y.one=true∧∃c,w.cell? ⟨b,off+j,none⟩=some c∧VR w F y c
def ZkF :List (Option Nat)→List PV→List Value→Prop
 |[],[],[]=>True
 |none::sh,x::xs,v::vs=>x.one=true∧v.cells= #[v]∧ZkF sh xs vs
 |some n::sh,x::xs,v::vs=>(∃l c,x=.agg l∧v=.agg c∧l.length=n∧c.size=n)∧ZkF sh xs vs
 |_,_,_=>False
def ZcL (xs:List PV):List PV:=xs.flatMap PV.cells
def Zc2 (vs:List Value):List Value:=vs.flatMap fun v=>v.cells.toList
def SR (w:World) (F:Nat→Prop):Kd→PV→Value→List Nat→Prop
 |.ck c,x,v,fp=>CR w F c x v fp
 |.box T ks,x,v,fp=>∃(b:Nat) (cs:Array Value) (xs:List PV) (fps:List (List Nat)),v=.pointer (some ⟨b,0,none⟩)∧x=.agg xs∧w.heap[b]?=some (.cells cs T (0,0))∧GrpR w F true ks xs cs.toList fps∧fp=b::fps.flatten
 |.grp tup ks,x,v,fp=>∃(cs:Array Value) (xs:List PV) (fps:List (List Nat)),v=(if tup then .tuple cs else .agg cs)∧x=(if tup then .tup xs else .agg xs)∧GrpR w F (!tup) ks xs cs.toList fps∧fp=fps.flatten
 |.ipt,x,v,fp=>(x≠.undef→ZkE w F x v)∧fp=[]
 |.clo f,x,v,fp=>∃(caps:Array Value) (xs:List PV),v=.func (.func f) #[] caps∧x=.tup xs∧xs.length=caps.size∧(∀(i:Nat) (y:PV),xs[i]?=some y→ZkE w F y (caps.getD i Go.undef))∧fp=[]
 |.cln f,x,v,fp=>(∃(caps:Array Value) (xs:List PV),v=.func (.func f) #[] caps∧x=.tup xs∧xs.length=caps.size∨x=.undef)∧fp=[]
 |.mp _ _,x,v,fp=>∃(b clock:Nat) (es:Array MapEntry) (l:List (PV×PV)),v=.map (some b)∧x=.map l∧w.heap[b]?=some (.map es clock)∧MapR w F l es.toList∧fp=[b]
 |.tgr sh ks,x,v,fp=>∃(cs:Array Value) (xs:List PV) (fps:List (List Nat)),v=.tuple cs∧x=.tup xs∧ZkF sh xs cs.toList∧GrpR w F true ks (ZcL xs) (Zc2 cs.toList) fps∧fp=fps.flatten
 |.tip,x,v,fp=>(∃(p u:Value) (xs:List PV) (y:PV),v=.tuple #[p,u]∧x=.tup [.agg xs,y]∧ZkE w F (.agg xs) p∧VR w F y u)∧fp=[]
 |.tt,x,v,fp=>(VR w F x v∧∃A n,v=.slice A n n)∧fp=[]
 |.mbx _,x,v,fp=>(∃b,v=.pointer (some ⟨b,0,none⟩)∧F b)∧fp=[]
 |.ali _,_,_,fp|.elm _ _ _,_,_,fp|.bxf _ _,_,_,fp|.tl _,_,_,fp|.gal _ _,_,_,fp=>fp=[]
section
variable {w w':World} {F F':Nat→Prop}
theorem GOk.keep (h:GOk w F) (hs:Stays w F w' F'):GOk w' F':=fun g l hg=>by
 obtain ⟨h1,T,fr,cs,h2,h3⟩:=h g l hg
 exact ⟨hs.sub g h1,T,fr,cs,(hs.same g h1).trans h2,h3⟩
theorem GOk.mono (h:GOk w F) (hF:∀b,F b→F' b):GOk w F':=h.keep ⟨hF,fun _ _=>rfl⟩
theorem Zb3.keep {sz:Nat} {l:List PV} {cur:Array Value} (h:Zb3 w F sz l cur) (hs:Stays w F w' F'):Zb3 w' F' sz l cur:=fun i x hx=>by
 obtain ⟨h1,h2,u,h3,h4⟩:=h i x hx
 exact ⟨h1,h2,u,h3.keep hs,h4⟩
theorem Zfh.keep {app:Bool} {e:TypeId} {sz:Nat} {l:List PV} {v:Value} {fp:List Nat} (h:Zfh w F app e sz l v fp) (hs:Stays w F w' F') (hb:∀b∈fp,w'.heap[b]?=w.heap[b]?):Zfh w' F' app e sz l v fp:=by
 rcases h with h|⟨g,cap,cur,fr,h1,h2,h3,h4,h5,h6,h7,h8,h9⟩
 ·exact .inl h
 ·exact .inr ⟨g,cap,cur,fr,h1,h2,by rw[hb g (by simp[h2])];exact h3,h4,h5,h6,h7,h8,h9.keep hs⟩
theorem DElR.keep {ks:List DK} {xs:List PV} {vs:List Value} {fps:List (List Nat)} (h:DElR w F ks xs vs fps) (hs:Stays w F w' F') (hb:∀b∈fps.flatten,w'.heap[b]?=w.heap[b]?):DElR w' F' ks xs vs fps:=by
 induction h with
 |nil=>exact .nil
 |val h ho ht ih=>exact .val (h.keep hs) ho (ih fun b hb'=>hb b (by simpa using hb'))
 |row h ht ih=>exact .row (h.keep hs fun b hb'=>hb b (by simp[hb'])) (ih fun b hb'=>hb b (by simp only[List.flatten_cons,List.mem_append];exact .inr hb'))
theorem ElD.keep {ks:List DK} {x:PV} {u:Value} {fps:List (List Nat)} (h:ElD w F ks x u fps) (hs:Stays w F w' F') (hb:∀b∈fps.flatten,w'.heap[b]?=w.heap[b]?):ElD w' F' ks x u fps:=by
 rcases h with ⟨xs,cs,h1,h2,h3⟩|⟨h1,h2,h3⟩
 ·exact .inl ⟨xs,cs,h1,h2,h3.keep hs hb⟩
 ·exact .inr ⟨h1,h2,h3.keep hs hb⟩
theorem Zft {fpss:List (List (List Nat))} {i b:Nat} {fps:List (List Nat)} (h:fpss[i]?=some fps) (hb:b∈fps.flatten):b∈(fpss.map List.flatten).flatten:=
 List.mem_flatten.2 ⟨fps.flatten,List.mem_map.2 ⟨fps,List.mem_of_getElem? h,rfl⟩,hb⟩
theorem Za4.keep {e:TypeId} {ks:List DK} {l:List PV} {v:Value} {fp:List Nat} (h:Za4 w F e ks l v fp) (hs:Stays w F w' F') (hb:∀b∈fp,w'.heap[b]?=w.heap[b]?):Za4 w' F' e ks l v fp:=by
 rcases h with h|⟨g,cap,cur,fpss,h1,h2,h3,h4,h5,h6,h7,h8⟩
 ·exact .inl h
 ·refine .inr ⟨g,cap,cur,fpss,h1,h2,by rw[hb g (by simp[h2])];exact h3,h4,h5,h6,h7,fun i x hx=> ?_⟩
  obtain ⟨u,fps,k1,k2,k3⟩:=h8 i x hx
  exact ⟨u,fps,k1,k2.keep hs fun b hb'=>hb b (by rw[h2];exact List.mem_cons_of_mem _ (Zft k1 hb')),k3⟩
theorem Zal.keep {app:Bool} {e:TypeId} {sz:Nat} {l:List PV} {v:Value} {fp:List Nat} (h:Zal w F app e sz l v fp) (hs:Stays w F w' F') (hb:∀b∈fp,w'.heap[b]?=w.heap[b]?):Zal w' F' app e sz l v fp:=by
 unfold Zal at h⊢
 split at h
 ·exact h.keep hs hb
 ·exact ⟨h.1,h.2.keep hs hb⟩
theorem CR.keep {k:CK} {x:PV} {v:Value} {fp:List Nat} (h:CR w F k x v fp) (hs:Stays w F w' F') (hb:∀b∈fp,w'.heap[b]?=w.heap[b]?):CR w' F' k x v fp:=by
 cases k with
 |none=>exact h
 |val=>exact ⟨h.1.keep hs,h.2⟩
 |nil=>exact h
 |own app e sz=>obtain ⟨l,e1,hr⟩:=h;exact ⟨l,e1,hr.keep hs hb⟩
theorem GrpR.keep {one:Bool} {ks:List CK} {xs:List PV} {vs:List Value} {fps:List (List Nat)} (h:GrpR w F one ks xs vs fps) (hs:Stays w F w' F') (hb:∀b∈fps.flatten,w'.heap[b]?=w.heap[b]?):GrpR w' F' one ks xs vs fps:=by
 induction h with
 |nil=>exact .nil
 |cons h ho ht ih=>exact .cons (h.keep hs fun b hb'=>hb b (by simp[hb'])) ho (ih fun b hb'=>hb b (by simp only[List.flatten_cons,List.mem_append];exact .inr hb'))
theorem ZkE.keep {x:PV} {v:Value} (h:ZkE w F x v) (hs:Stays w F w' F'):ZkE w' F' x v:=by
 obtain ⟨b,off,xs,h1,h2,h3,h4⟩:=h
 refine ⟨b,off,xs,h1,h2,hs.sub b h3,fun j y hy=> ?_⟩
 obtain ⟨h5,c,h6,h7⟩:=h4 j y hy
 exact ⟨h5,c,(World.cell?_of_block (w:=w) (a:=⟨b,_,none⟩) (hs.same b h3)).trans h6,h7.keep hs⟩
theorem MapR.keep {l:List (PV×PV)} {es:List MapEntry} (h:MapR w F l es) (hs:Stays w F w' F'):MapR w' F' l es:=by
 induction h with
 |nil=>exact .nil
 |cons hk hx ht ih=>exact .cons (hk.keep hs) (hx.keep hs) ih
theorem SR.keep {k:Kd} {x:PV} {v:Value} {fp:List Nat} (h:SR w F k x v fp) (hs:Stays w F w' F') (hb:∀b∈fp,w'.heap[b]?=w.heap[b]?):SR w' F' k x v fp:=by
 cases k with
 |ck c=>exact CR.keep h hs hb
 | box T ks=>
  obtain ⟨b,cs,xs,fps,h1,h2,h3,h4,h5⟩:=h
  subst h5
  exact ⟨b,cs,xs,fps,h1,h2,by rw[hb b (by simp)];exact h3,h4.keep hs fun c hc=>hb c (by simp only[List.mem_cons];exact .inr hc),rfl⟩
 | grp tup ks=>
  obtain ⟨cs,xs,fps,h1,h2,h3,h4⟩:=h
  subst h4
  exact ⟨cs,xs,fps,h1,h2,h3.keep hs hb,rfl⟩
 |ipt=>exact ⟨fun hx=>(h.1 hx).keep hs,h.2⟩
 | clo f=>
  obtain ⟨caps,xs,h1,h2,h3,h4,h5⟩:=h
  exact ⟨caps,xs,h1,h2,h3,fun i y hy=>(h4 i y hy).keep hs,h5⟩
 |cln f=>exact h
 | mp kt et=>
  obtain ⟨b,clock,es,l,h1,h2,h3,h4,h5⟩:=h
  subst h5
  exact ⟨b,clock,es,l,h1,h2,by rw[hb b (by simp)];exact h3,h4.keep hs,rfl⟩
 | tgr sh ks=>
  obtain ⟨cs,xs,fps,h1,h2,h3,h4,h5⟩:=h
  subst h5
  exact ⟨cs,xs,fps,h1,h2,h3,h4.keep hs hb,rfl⟩
 | tip=>
  obtain ⟨⟨p,u,xs,y,h1,h2,h3,h4⟩,h5⟩:=h
  exact ⟨⟨p,u,xs,y,h1,h2,h3.keep hs,h4.keep hs⟩,h5⟩
 | mbx s=>
  obtain ⟨⟨b,h1,h2⟩,h3⟩:=h
  exact ⟨⟨b,h1,hs.sub b h2⟩,h3⟩
 |ali p=>exact h
 |elm p sz off=>exact h
 |tl q=>exact h
 |tt=>exact ⟨⟨h.1.1.keep hs,h.1.2⟩,h.2⟩
 |gal q n=>exact h
 |bxf q off=>exact h
theorem GrpR.lens {one:Bool} {ks:List CK} {xs:List PV} {vs:List Value} {fps:List (List Nat)} (h:GrpR w F one ks xs vs fps):ks.length=xs.length∧vs.length=xs.length∧fps.length=xs.length:=by
 induction h with
 |nil=>exact ⟨rfl,rfl,rfl⟩
 |cons _ _ _ ih=>simp[ih.1,ih.2.1,ih.2.2]
theorem GrpR.at {one:Bool} {ks:List CK} {xs:List PV} {vs:List Value} {fps:List (List Nat)} (h:GrpR w F one ks xs vs fps):∀(i:Nat) (x:PV),xs[i]?=some x→∃k v fp,ks[i]?=some k∧vs[i]?=some v∧fps[i]?=some fp∧CR w F k x v fp∧(one=true→x.one=true):=by
 induction h with
 |nil=>intro i x hx;simp at hx
 | cons h ho ht ih=>
  intro i x hx
  cases i with
  |zero=>simp at hx;subst hx;exact ⟨_,_,_,rfl,rfl,rfl,h,ho⟩
  |succ i=>simpa using ih i x (by simpa using hx)
theorem GrpR.set {one:Bool} {ks:List CK} {xs:List PV} {vs:List Value} {fps:List (List Nat)} (h:GrpR w F one ks xs vs fps) (i:Nat) {k:CK} {x:PV} {v:Value} {fp:List Nat} (hc:CR w F k x v fp) (ho:one=true→x.one=true):
 GrpR w F one (ks.set i k) (xs.set i x) (vs.set i v) (fps.set i fp):=by
 induction h generalizing i with
 |nil=>exact .nil
 | cons h ho' ht ih=>
  cases i with
  |zero=>exact .cons hc ho ht
  |succ i=>exact .cons h ho' (ih i)
end
def kd (κ:List Kd) (s:Nat):Kd:=κ.getD s (.ck .none)
def vl (σ:List PV) (s:Nat):PV:=σ.getD s .undef
def tv (τ:Array Value) (s:Nat):Value:=τ.getD s Go.undef
def PlV (τ:Array Value) (w:World):Place→Value→Prop
 |.slot q,v=>tv τ q=v
 |.cell q off,v=>∃b,tv τ q=.pointer (some ⟨b,0,none⟩)∧w.cell? ⟨b,off,none⟩=some v
def Al (τ:Array Value) (w:World):Kd→PV→Value→Prop
 |.ali p,_,v=>PlV τ w p v
 |.elm p sz off,x,v=>∃(i b n cap:Nat),x=.int .i64 i∧i<n∧PlV τ w p (.slice (some ⟨b,0,none⟩) n cap)∧v=.pointer (some ⟨b,i * sz+off,none⟩)
 |.tl q,x,v=>∃(i b n cap o:Nat),x=.int .i64 i∧i≤n∧tv τ q=.slice (some ⟨b,0,none⟩) n cap∧v=.slice (some ⟨b,o,none⟩) (n - i) (cap - i)∧(i<n→o=i)
 |.gal q n,_,v=>∃cs:Array Value,v=.agg cs∧cs.size=n∧∀(j:Nat) (c:Value),cs[j]?=some c→PlV τ w (.cell q j) c
 |.bxf q off,_,v=>∃b,tv τ q=.pointer (some ⟨b,0,none⟩)∧v=.pointer (some ⟨b,off,none⟩)
 |.mbx s,_,v=>∃b,v=.pointer (some ⟨b,0,none⟩)∧w.cell? ⟨b,0,none⟩=some (tv τ s)
 |.cln f,x,v=>∃(caps:Array Value) (xs:List PV),v=.func (.func f) #[] caps∧x=.tup xs∧xs.length=caps.size∧∀(i:Nat) (y:PV),xs[i]?=some y→ZkE w (fun b=>b<w.heap.size) y (caps.getD i Go.undef)
 |_,_,_=>True
def Place.of :Place→Nat
 |.slot q=>q
 |.cell q _=>q
def Zl6 :Nat:=4294967291
def Kd.isCln :Kd→Bool
 |.cln _=>true
 |_=>false
def Kd.dep :Kd→Option Nat
 |.ali p|.elm p _ _=>some p.of
 |.bxf q _=>some q
 |.tl q=>some q
 |.gal q _=>some q
 |.mbx s=>some s
 |.cln _=>some Zl6
 |_=>none
def Kd.bdep :Kd→Option Nat
 |.ali (.cell q _)|.elm (.cell q _) _ _|.bxf q _|.gal q _=>some q
 |_=>none
def Kd.isBox :Kd→Bool
 |.box _ _=>true
 |_=>false
def ZjC (κ:List Kd) (d:Nat):List Kd:=κ.map fun k=>if k.dep=some d then .ck .none else k
def ZcJ (κ:List Kd) (d:Nat) (k:Kd):List Kd:=(ZjC κ d).set d k
structure St (w0:World) (F0:Nat→Prop) (X0:List Nat) (κ:List Kd) (σ:List PV) (τ:Array Value) (w:World) (F:Nat→Prop) (fp:Nat→List Nat):Prop where
 lk:κ.length=τ.size
 ls:σ.length=τ.size
 sr:∀s,∃l:List Nat,l.Nodup∧(∀b∈l,b∈fp s)∧SR w F (kd κ s) (vl σ s) (tv τ s) l
 al:∀s,vl σ s≠.undef→Al τ w (kd κ s) (vl σ s) (tv τ s)
 bx:∀s q,(kd κ s).bdep=some q→(kd κ q).isBox=true
 dj:∀s t b,s≠t→b∈fp s→b∈fp t→False
 pr:∀s b,b∈fp s→b<w.heap.size∧¬F b∧(w0.heap.size≤b∨b∈X0)
 fl:∀b,F b→b<w.heap.size
 os:w.os=w0.os
 tape:w.tape=w0.tape
 output:w.output=w0.output
 size:w0.heap.size≤w.heap.size
 kept:∀b,b<w0.heap.size→b∉X0→w.heap[b]?=w0.heap[b]?
 stay:Stays w0 F0 w F
 fnew:∀b,F b→F0 b∨w0.heap.size≤b∨b∈X0
 gk:GOk w F
theorem ZjD (κ:List Kd) (d s:Nat) (k:Kd):kd (κ.set d k) s=if s=d∧d<κ.length then k else kd κ s:=by
 unfold kd
 rw[List.getD_eq_getElem?_getD,List.getD_eq_getElem?_getD,List.getElem?_set]
 by_cases h:d=s
 ·subst h
  by_cases hl:d<κ.length<;>simp[hl]
 ·have h':¬s=d:=fun e=>h e.symm
  simp[h,h']
theorem Zbk (σ:List PV) (d s:Nat) (x:PV):vl (σ.set d x) s=if s=d∧d<σ.length then x else vl σ s:=by
 unfold vl
 rw[List.getD_eq_getElem?_getD,List.getD_eq_getElem?_getD,List.getElem?_set]
 by_cases h:d=s
 ·subst h
  by_cases hl:d<σ.length<;>simp[hl]
 ·have h':¬s=d:=fun e=>h e.symm
  simp[h,h']
theorem Za6 (τ:Array Value) (d s:Nat) (v:Value):tv (τ.setIfInBounds d v) s=if s=d∧d<τ.size then v else tv τ s:=by
 unfold tv
 rw[Array.getD_eq_getD_getElem?,Array.getD_eq_getD_getElem?,Array.getElem?_setIfInBounds]
 by_cases h:d=s
 ·subst h
  by_cases hl:d<τ.size<;>simp[hl]
 ·have h':¬s=d:=fun e=>h e.symm
  simp[h,h']
theorem Zsh (κ:List Kd) (d s:Nat):kd (ZjC κ d) s=if (kd κ s).dep=some d then .ck .none else kd κ s:=by
 unfold kd ZjC
 rw[List.getD_eq_getElem?_getD,List.getD_eq_getElem?_getD,List.getElem?_map]
 cases κ[s]? with
 |none=>simp[Kd.dep]
 |some k=>simp
theorem Zl7 (κ:List Kd) (d:Nat):(ZjC κ d).length=κ.length:=by simp[ZjC]
theorem ZdZ (κ:List Kd) (d s:Nat) (k:Kd) (hd:d<κ.length):kd (ZcJ κ d k) s=if s=d then k else if (kd κ s).dep=some d then .ck .none else kd κ s:=by
 unfold ZcJ
 rw[ZjD,Zl7,Zsh]
 by_cases h:s=d<;>simp[h,hd]
def noCln (b:Bool) (κ:List Kd):List Kd:=match b with|true=>κ.map fun k=>if k.isCln then .ck .none else k|false=>κ
theorem Zn (b:Bool) (κ:List Kd):(noCln b κ).length=κ.length:=by cases b<;>simp[noCln]
theorem Za7 (b:Bool) (κ:List Kd) (s:Nat):kd (noCln b κ) s=if (b&&(kd κ s).isCln)=true then .ck .none else kd κ s:=by
 cases b
 ·simp[noCln]
 ·unfold kd noCln
  rw[List.getD_eq_getElem?_getD,List.getD_eq_getElem?_getD,List.getElem?_map]
  cases κ[s]? with
  |none=>simp
  |some k=>simp
theorem Zbh (κ:List Kd) (s:Nat):(kd (noCln true κ) s).isCln=false:=by
 rw[Za7]
 split
 ·rfl
 ·rename_i h;simpa using h
theorem Zc3 (b:Bool) (κ:List Kd) (s:Nat):(kd (noCln b κ) s).isBox=(kd κ s).isBox:=by
 rw[Za7]
 split
 ·rename_i h
  cases hk:kd κ s<;>rw[hk] at h<;>simp[Kd.isCln] at h
  rfl
 ·rfl
theorem ZiA (κ:List Kd) (d:Nat) (k:Kd):(ZcJ κ d k).length=κ.length:=by simp[ZcJ,ZjC]
structure Adds (w:World) (F:Nat→Prop) (w':World) (F':Nat→Prop):Prop where
 os:w'.os=w.os
 tape:w'.tape=w.tape
 output:w'.output=w.output
 size:w.heap.size≤w'.heap.size
 block:∀b,b<w.heap.size→w'.heap[b]?=w.heap[b]?
 sub:∀b,F b→F' b
 new:∀b,F' b→F b∨w.heap.size≤b
 lt:∀b,F' b→b<w'.heap.size
section
variable {w w1 w2:World} {F F1 F2:Nat→Prop}
theorem Adds.refl (w:World) {F:Nat→Prop} (hF:∀b,F b→b<w.heap.size):Adds w F w F:=⟨rfl,rfl,rfl,Nat.le_refl _,fun _ _=>rfl,fun _ h=>h,fun _ h=>.inl h,hF⟩
theorem Adds.trans (h:Adds w F w1 F1) (k:Adds w1 F1 w2 F2):Adds w F w2 F2:=
 ⟨k.os.trans h.os,k.tape.trans h.tape,k.output.trans h.output,Nat.le_trans h.size k.size,fun b hb=>(k.block b (Nat.lt_of_lt_of_le hb h.size)).trans (h.block b hb),fun b hb=>k.sub b (h.sub b hb),
  fun b hb=>by rcases k.new b hb with h'|h';exact h.new b h';exact .inr (Nat.le_trans h.size h'),k.lt⟩
theorem Adds.stays (h:Adds w F w1 F1) (hF:∀b,F b→b<w.heap.size):Stays w F w1 F1:=⟨h.sub,fun b hb=>h.block b (hF b hb)⟩
theorem Adds.drew (h:Adds w F w1 F1):Adds w F w1.drew F1:=⟨h.os,h.tape,h.output,h.size,h.block,h.sub,h.new,h.lt⟩
theorem Adds.alloc (h:Adds w F w1 F1) (o:Obj):Adds w F (w1.alloc o) F1:=
 ⟨h.os,h.tape,h.output,by rw[World.size_alloc];have:=h.size;omega,fun b hb=>(Below.heap_alloc w1 o b (Nat.lt_of_lt_of_le hb h.size)).trans (h.block b hb),h.sub,h.new,fun b hb=>by rw[World.size_alloc];have:=h.lt b hb;omega⟩
theorem Adds.allocF (h:Adds w F w1 F1) (o:Obj):Adds w F (w1.alloc o) (fun b=>F1 b∨b=w1.heap.size):=by
 have k:=h.alloc o
 exact ⟨k.os,k.tape,k.output,k.size,k.block,fun b hb=>.inl (k.sub b hb),fun b hb=>by rcases hb with hb|rfl;exact k.new b hb;exact .inr h.size,fun b hb=>by rcases hb with hb|rfl;exact k.lt b hb;simp⟩
end
section
variable {w0 :World} {F0:Nat→Prop} {X0:List Nat} {κ κ':List Kd} {σ σ':List PV} {τ τ':Array Value} {w w1:World} {F F1:Nat→Prop} {fp fp':Nat→List Nat}
theorem ZqK {k:Kd} {x:PV} {v:Value} {l:List Nat} (h:SR w F k x v l) (hk:k.isBox=true):∀b,v=.pointer (some ⟨b,0,none⟩)→b∈l:=by
 cases k<;>simp[Kd.isBox] at hk
 obtain ⟨b,cs,xs,fps,h1,h2,h3,h4,h5⟩:=h
 intro c hc
 rw[h1] at hc
 simp at hc
 subst hc
 simp[h5]
theorem Al.keep (h:St w0 F0 X0 κ σ τ w F fp) {k:Kd} {x:PV} {v:Value} (ha:Al τ w k x v) (hq:∀q,k.dep=some q→tv τ' q=tv τ q)
 (hb:∀q,k.bdep=some q→(kd κ q).isBox=true∧∀b∈fp q,w1.heap[b]?=w.heap[b]?) (hc:k.isCln=true→w.heap.size≤w1.heap.size∧∀b,b<w.heap.size→w1.heap[b]?=w.heap[b]?) (hx:∃l,SR w F k x v l) (hf:∀b,F b→w1.heap[b]?=w.heap[b]?):Al τ' w1 k x v:=by
 have pl:∀(p:Place) (u:Value),tv τ' p.of=tv τ p.of→(∀q off,p=.cell q off→(kd κ q).isBox=true∧∀b∈fp q,w1.heap[b]?=w.heap[b]?)→PlV τ w p u→PlV τ' w1 p u:=by
  intro p u e1 e2 hp
  cases p with
  |slot q=>exact (e1.trans hp)
  | cell q off=>
   obtain ⟨b,h1,h2⟩:=hp
   obtain ⟨hk,hbb⟩:=e2 q off rfl
   obtain ⟨l,_,hl,hsr⟩:=h.sr q
   have hm:=hl b (ZqK hsr hk b h1)
   exact ⟨b,e1.trans h1,(World.cell?_of_block (w:=w) (a:=⟨b,off,none⟩) (hbb b hm)).trans h2⟩
 cases k with
 |ali p=>exact pl p v (hq _ rfl) (fun q off e=>by subst e;exact hb q rfl) ha
 | elm p sz off=>
  obtain ⟨i,b,n,cap,h1,h2,h3,h4⟩:=ha
  exact ⟨i,b,n,cap,h1,h2,pl p _ (hq _ rfl) (fun q off e=>by subst e;exact hb q rfl) h3,h4⟩
 | bxf q off=>
  obtain ⟨b,h1,h2⟩:=ha
  exact ⟨b,(hq q rfl).trans h1,h2⟩
 | tl q=>
  obtain ⟨i,b,n,cap,o,h1,h2,h3,h4⟩:=ha
  exact ⟨i,b,n,cap,o,h1,h2,(hq q rfl).trans h3,h4⟩
 | gal q n=>
  obtain ⟨cs,h1,h2,h3⟩:=ha
  exact ⟨cs,h1,h2,fun j c hj=>pl (.cell q j) c (hq q rfl) (fun q off e=>by cases e;exact hb _ rfl) (h3 j c hj)⟩
 |ck c=>trivial
 |tt=>trivial
 |box T ks=>trivial
 |grp t ks=>trivial
 |ipt=>trivial
 |clo f=>trivial
 |mp kt et=>trivial
 |tgr sh ks=>trivial
 |tip=>trivial
 | mbx s=>
  obtain ⟨b,h1,h2⟩:=ha
  obtain ⟨l,⟨b',e,hb'⟩,_⟩:=hx
  rw[h1] at e
  simp at e
  subst e
  exact ⟨b,h1,by rw[hq s rfl];exact (World.cell?_of_block (w:=w) (a:=⟨b,0,none⟩) (hf b hb')).trans h2⟩
 | cln f=>
  obtain ⟨caps,xs,h1,h2,h3,h4⟩:=ha
  obtain ⟨hc1,hc2⟩:=hc rfl
  exact ⟨caps,xs,h1,h2,h3,fun i y hy=>(h4 i y hy).keep ⟨fun b hb=>Nat.lt_of_lt_of_le hb hc1,hc2⟩⟩
theorem St.gen (h:St w0 F0 X0 κ σ τ w F fp) (M:Nat→Prop) (hlk:κ'.length=κ.length) (hls:σ'.length=σ.length) (hlt:τ'.size=τ.size)
 (hos:w1.os=w.os) (htape:w1.tape=w.tape) (hout:w1.output=w.output) (hsize:w.heap.size≤w1.heap.size)
 (hblock:∀b,b<w.heap.size→¬M b→w1.heap[b]?=w.heap[b]?) (hM:∀b,M b→¬F b∧(w0.heap.size≤b∨b∈X0))
 (hsub:∀b,F b→F1 b) (hnew:∀b,F1 b→F b∨w.heap.size≤b∨∃s,b∈fp s) (hlt1:∀b,F1 b→b<w1.heap.size)
 (hs:∀s,(kd κ' s=kd κ s∧vl σ' s=vl σ s∧tv τ' s=tv τ s∧fp' s=fp s∧∀b∈fp s,¬M b)∨(∃l:List Nat,l.Nodup∧(∀b∈l,b∈fp' s)∧SR w1 F1 (kd κ' s) (vl σ' s) (tv τ' s) l))
 (hal:∀s,vl σ' s≠.undef→Al τ' w1 (kd κ' s) (vl σ' s) (tv τ' s)) (hbx:∀s q,(kd κ' s).bdep=some q→(kd κ' q).isBox=true)
 (hdj:∀s t b,s≠t→b∈fp' s→b∈fp' t→False)
 (hpr:∀s b,b∈fp' s→b<w1.heap.size∧¬F1 b∧((∃t,b∈fp t)∨w.heap.size≤b)):St w0 F0 X0 κ' σ' τ' w1 F1 fp':=by
 have hst:Stays w F w1 F1:=⟨hsub,fun b hb=>hblock b (h.fl b hb) fun hm=>(hM b hm).1 hb⟩
 refine ⟨by rw[hlk,hlt];exact h.lk,by rw[hls,hlt];exact h.ls,fun s=> ?_,hal,hbx,hdj,fun s b hb=> ?_,hlt1,hos.trans h.os,htape.trans h.tape,hout.trans h.output,Nat.le_trans h.size hsize,
  fun b hb hx=>(hblock b (Nat.lt_of_lt_of_le hb h.size) fun hm=> ?_).trans (h.kept b hb hx),h.stay.trans hst,fun b hb=> ?_,h.gk.keep hst⟩
 ·rcases hs s with ⟨e1,e2,e3,e4,e5⟩|e1
  ·rw[e1,e2,e3,e4]
   obtain ⟨l,hn,hl,hsr⟩:=h.sr s
   exact ⟨l,hn,hl,hsr.keep hst fun b hb=>hblock b (h.pr s b (hl b hb)).1 (e5 b (hl b hb))⟩
  ·exact e1
 ·obtain ⟨h1,h2,h3⟩:=hpr s b hb
  refine ⟨h1,h2, ?_⟩
  rcases h3 with ⟨t,ht⟩|h3
  ·exact (h.pr t b ht).2.2
  ·exact .inl (Nat.le_trans h.size h3)
 ·rcases (hM b hm).2 with h1|h1
  ·omega
  ·exact hx h1
 ·rcases hnew b hb with h1|h1|⟨s,h1⟩
  ·exact h.fnew b h1
  ·exact .inr (.inl (Nat.le_trans h.size h1))
  ·exact .inr (h.pr s b h1).2.2
theorem ZbV {k:Kd} (h:k.dep=none) (x:PV) (v:Value):Al τ w k x v:=by cases k<;>simp[Kd.dep] at h<;>trivial
theorem Zab {k:Kd} {q:Nat} (h:k.bdep=some q):k.dep=some q:=by
 cases k with
 |ali p=>cases p<;>simp[Kd.bdep,Kd.dep,Place.of] at h⊢;exact h
 |elm p _ _=>cases p<;>simp[Kd.bdep,Kd.dep,Place.of] at h⊢;exact h
 |bxf _ _=>simpa[Kd.bdep,Kd.dep] using h
 |gal _ _=>simpa[Kd.bdep,Kd.dep] using h
 |_=>simp[Kd.bdep] at h
theorem Znr {k:Kd} (h:k.dep=none):k.bdep=none:=by
 cases hb:k.bdep with
 |none=>rfl
 |some q=>rw[Zab hb] at h;cases h
theorem ZiZ {k:Kd} (h:k.isBox=true):k.dep=none:=by cases k<;>simp[Kd.isBox] at h;rfl
theorem St.put (h:St w0 F0 X0 κ σ τ w F fp) {d:Nat} {k:Kd} {x:PV} {v:Value} {l fpd:List Nat} (hd:d<κ.length)
 (hos:w1.os=w.os) (htape:w1.tape=w.tape) (hout:w1.output=w.output) (hsize:w.heap.size≤w1.heap.size)
 (hblock:∀b,b<w.heap.size→b∉fp d→w1.heap[b]?=w.heap[b]?)
 (hsub:∀b,F b→F1 b) (hnew:∀b,F1 b→F b∨w.heap.size≤b∨b∈fp d) (hlt1:∀b,F1 b→b<w1.heap.size)
 (hnd:l.Nodup) (hl:∀b∈l,b∈fpd) (hr:SR w1 F1 k x v l) (hfp:∀b∈fpd,(w.heap.size≤b∨b∈fp d)∧b<w1.heap.size∧¬F1 b)
 (hal:x≠.undef→Al (τ.setIfInBounds d v) w1 k x v) (hbx:∀q,k.bdep=some q→q≠d∧(kd κ q).isBox=true) (hcl:∀s,(kd κ s).isCln=true→∀b,b<w.heap.size→w1.heap[b]?=w.heap[b]?):
 St w0 F0 X0 (ZcJ κ d k) (σ.set d x) (τ.setIfInBounds d v) w1 F1 (fun s=>if s=d then fpd else fp s):=by
 have ld:d<σ.length:=by rw[h.ls,←h.lk];exact hd
 have td:d<τ.size:=by rw[←h.lk];exact hd
 have hkk:∀s,kd (ZcJ κ d k) s=if s=d then k else if (kd κ s).dep=some d then .ck .none else kd κ s:=fun s=>ZdZ _ _ _ _ hd
 have hvv:∀s,vl (σ.set d x) s=if s=d then x else vl σ s:=by intro s;rw[Zbk];simp only[ld,and_true]
 have htt:∀s,tv (τ.setIfInBounds d v) s=if s=d then v else tv τ s:=by intro s;rw[Za6];simp only[td,and_true]
 refine h.gen (fun b=>b∈fp d) (ZiA _ _ _) (by simp) (by simp) hos htape hout hsize hblock (fun b hb=>⟨(h.pr d b hb).2.1,(h.pr d b hb).2.2⟩) hsub
  (fun b hb=>by rcases hnew b hb with h1|h1|h1;exact .inl h1;exact .inr (.inl h1);exact .inr (.inr ⟨d,h1⟩)) hlt1 (fun s=> ?_) (fun s=> ?_) (fun s q hq=> ?_) (fun s t b hst hs ht=> ?_) (fun s b hb=> ?_)
 ·rw [hkk,hvv,htt]
  by_cases e:s=d
  ·right;subst e;simp only[if_true];exact ⟨l,hnd,hl,hr⟩
  ·simp only[e,if_false]
   by_cases hdep:(kd κ s).dep=some d
   ·right;rw[if_pos hdep];exact ⟨[],List.nodup_nil,by simp,rfl⟩
   ·left;rw[if_neg hdep]
    exact ⟨by trivial,by trivial,by trivial,by trivial,fun b hb hb'=>h.dj s d b e hb hb'⟩
 ·rw [hkk,hvv]
  by_cases e:s=d
  ·subst e;rw[htt];simp only[if_true];exact hal
  ·simp only[e,if_false]
   rw[htt,if_neg e]
   intro hxu
   by_cases hdep:(kd κ s).dep=some d
   ·rw[if_pos hdep];trivial
   ·rw[if_neg hdep]
    refine Al.keep h (h.al s hxu) (fun q hq=> ?_) (fun q hq=>⟨h.bx s q hq,fun b hb=>hblock b (h.pr q b hb).1 fun hb'=>h.dj q d b ?_ hb hb'⟩) (fun hc=>⟨hsize,hcl s hc⟩) (let ⟨l,_,_,hr⟩:=h.sr s;⟨l,hr⟩) (fun b hb=>hblock b (h.fl b hb) fun hc=>(h.pr d b hc).2.1 hb)
    ·rw[htt,if_neg];rintro rfl;exact hdep hq
    ·rintro rfl;exact hdep (Zab hq)
 ·rw [hkk] at hq⊢
  by_cases e:s=d
  ·subst e
   simp only[if_true] at hq
   obtain ⟨h1,h2⟩:=hbx q hq
   rw[if_neg h1,if_neg]
   ·exact h2
   ·rw[ZiZ h2];simp
  ·rw[if_neg e] at hq
   by_cases hdep:(kd κ s).dep=some d
   ·rw[if_pos hdep] at hq;simp[Kd.bdep] at hq
   ·rw[if_neg hdep] at hq
    have h2:=h.bx s q hq
    have h1:¬q=d:=by rintro rfl;exact hdep (Zab hq)
    rw[if_neg h1,if_neg]
    ·exact h2
    ·rw[ZiZ h2];simp
 ·by_cases e:s=d
  ·subst e
   have e':¬t=s:=fun h=>hst h.symm
   simp only[if_true,e',if_false] at hs ht
   rcases (hfp b hs).1 with h1|h1
   ·have:=(h.pr t b ht).1;omega
   ·exact h.dj s t b hst h1 ht
  ·by_cases e':t=d
   ·subst e'
    simp only[if_true,e,if_false] at hs ht
    rcases (hfp b ht).1 with h1|h1
    ·have:=(h.pr s b hs).1;omega
    ·exact h.dj s t b hst hs h1
   ·simp only[e,e',if_false] at hs ht
    exact h.dj s t b hst hs ht
 ·by_cases e:s=d
  ·subst e
   simp only[if_true] at hb
   obtain ⟨h1,h2,h3⟩:=hfp b hb
   exact ⟨h2,h3,by rcases h1 with h1|h1;exact .inr h1;exact .inl ⟨s,h1⟩⟩
  ·simp only[e,if_false] at hb
   obtain ⟨h1,h2,h3⟩:=h.pr s b hb
   refine ⟨Nat.lt_of_lt_of_le h1 hsize,fun hc=> ?_,.inl ⟨s,hb⟩⟩
   rcases hnew b hc with h4|h4|h4
   ·exact h2 h4
   ·omega
   ·exact h.dj s d b e hb h4
theorem St.putA (h:St w0 F0 X0 κ σ τ w F fp) {d:Nat} {k:Kd} {x:PV} {v:Value} {l:List Nat} (hd:d<κ.length) (hA:Adds w F w1 F1)
 (hnd:l.Nodup) (hr:SR w1 F1 k x v l) (hfp:∀b∈l,w.heap.size≤b∧b<w1.heap.size∧¬F1 b)
 (hal:x≠.undef→Al (τ.setIfInBounds d v) w1 k x v) (hbx:∀q,k.bdep=some q→q≠d∧(kd κ q).isBox=true):
 St w0 F0 X0 (ZcJ κ d k) (σ.set d x) (τ.setIfInBounds d v) w1 F1 (fun s=>if s=d then l else fp s):=
 h.put hd hA.os hA.tape hA.output hA.size (fun b hb _=>hA.block b hb) hA.sub (fun b hb=>by rcases hA.new b hb with h1|h1;exact .inl h1;exact .inr (.inl h1)) hA.lt hnd (fun b hb=>hb) hr (fun b hb=>⟨.inl (hfp b hb).1,(hfp b hb).2⟩) hal hbx (fun _ _ b hb=>hA.block b hb)
theorem St.noCln (h:St w0 F0 X0 κ σ τ w F fp) (b:Bool):St w0 F0 X0 (noCln b κ) σ τ w F fp:=by
 refine {h with lk:=by rw[Zn];exact h.lk,sr:=fun s=> ?_,al:=fun s hx=> ?_,bx:=fun s q hq=> ?_}
 ·rw[Za7]
  split
  ·exact ⟨[],List.nodup_nil,by simp,rfl⟩
  ·exact h.sr s
 ·rw[Za7]
  split
  ·trivial
  ·exact h.al s hx
 ·rw[Zc3]
  rw[Za7] at hq
  split at hq
  ·simp[Kd.bdep] at hq
  ·exact h.bx s q hq
end
section
variable {w0 :World} {F0:Nat→Prop} {X0:List Nat} {κ κ':List Kd} {σ σ':List PV} {τ τ':Array Value} {w w1:World} {F F1:Nat→Prop} {fp fp':Nat→List Nat}
theorem St.ghost (h:St w0 F0 X0 κ σ τ w F fp) {s d:Nat} {ks:Kd} {l fps G:List Nat} (cut:Kd→Bool) (hsd:s≠d) (hs:s<κ.length)
 (hsub:∀b,F b→F1 b) (hnew:∀b,F1 b→F b∨b∈fp s)
 (hnd:l.Nodup) (hl:∀b∈l,b∈fps) (hr:SR w F1 ks (vl σ s) (tv τ s) l)
 (hfps:∀b∈fps,b∈fp s∧b∉G∧¬F1 b) (hG:∀b∈G,b∈fp s∧¬F1 b)
 (hks:ks.dep=none) (hcut:∀k,cut k=true→k.dep≠none) (hkeep:(kd κ s).isBox=true→∀k,k.bdep=some s→cut k=false→ks.isBox=true):
 St w0 F0 X0 ((κ.map fun k=>if cut k then .ck .none else k).set s ks) σ τ w F1 (fun t=>if t=s then fps else if t=d then fp d++G else fp t):=by
 have hkk:∀t,kd ((κ.map fun k=>if cut k then .ck .none else k).set s ks) t=if t=s then ks else if cut (kd κ t) then .ck .none else kd κ t:=by
  intro t
  rw[ZjD]
  simp only[List.length_map,hs,and_true]
  by_cases e:t=s
  ·simp[e]
  ·simp only[e,if_false]
   unfold kd
   rw[List.getD_eq_getElem?_getD,List.getD_eq_getElem?_getD,List.getElem?_map]
   cases κ[t]? with
   |none=>simp
   |some k=>simp
 have hst:Stays w F w F1:=⟨hsub,fun _ _=>rfl⟩
 refine h.gen (fun _=>False) (by simp) rfl rfl rfl rfl rfl (Nat.le_refl _) (fun _ _ _=>rfl) (fun _ h=>h.elim) hsub (fun b hb=>by rcases hnew b hb with h1|h1;exact .inl h1;exact .inr (.inr ⟨s,h1⟩)) (fun b hb=>by rcases hnew b hb with h1|h1;exact h.fl b h1;exact (h.pr s b h1).1)
  (fun t=> ?_) (fun t=> ?_) (fun t q hq=> ?_) (fun t u b htu ht hu=> ?_) (fun t b hb=> ?_)
 ·right
  rw[hkk]
  by_cases e2:t=s
  ·subst e2;simp only[if_true];exact ⟨l,hnd,hl,hr⟩
  ·simp only[e2,if_false]
   by_cases e3:cut (kd κ t)=true
   ·rw[if_pos e3];exact ⟨[],List.nodup_nil,by simp,rfl⟩
   ·rw[if_neg e3]
    obtain ⟨l',hn',hl',hsr⟩:=h.sr t
    refine ⟨l',hn',fun b hb=> ?_,hsr.keep hst fun _ _=>rfl⟩
    by_cases e4:t=d
    ·subst e4;rw[if_pos rfl];exact List.mem_append_left _ (hl' b hb)
    ·rw[if_neg e4];exact hl' b hb
 ·rw[hkk]
  intro hxu
  by_cases e2:t=s
  ·subst e2;simp only[if_true];exact ZbV hks _ _
  ·simp only[e2,if_false]
   by_cases e3:cut (kd κ t)=true
   ·rw[if_pos e3];trivial
   ·rw[if_neg e3];exact h.al t hxu
 ·rw [hkk] at hq⊢
  by_cases e2:t=s
  ·subst e2;simp only[if_true] at hq
   have:=Zab hq;rw[hks] at this;cases this
  ·simp only[e2,if_false] at hq
   by_cases e3:cut (kd κ t)=true
   ·rw[if_pos e3] at hq;simp[Kd.bdep] at hq
   ·rw[if_neg e3] at hq
    by_cases e4:q=s
    ·subst e4
     rw[if_pos rfl]
     exact hkeep (h.bx t q hq) _ hq (by simpa using e3)
    ·have h2:=h.bx t q hq
     rw[if_neg e4,if_neg]
     ·exact h2
     ·intro hc;exact hcut _ hc (ZiZ h2)
 ·have src:∀t b,b∈(if t=s then fps else if t=d then fp d++G else fp t)→(t=s∧b∈fps)∨(t=d∧t≠s∧b∈G)∨(t≠s∧b∈fp t):=by
   intro t b hb
   by_cases e1:t=s
   ·rw[if_pos e1] at hb;exact .inl ⟨e1,hb⟩
   ·rw[if_neg e1] at hb
    by_cases e2:t=d
    ·subst e2
     rw[if_pos rfl] at hb
     rcases List.mem_append.1 hb with hb|hb
     ·exact .inr (.inr ⟨e1,hb⟩)
     ·exact .inr (.inl ⟨rfl,e1,hb⟩)
    ·rw[if_neg e2] at hb;exact .inr (.inr ⟨e1,hb⟩)
  rcases src t b ht with ⟨e1,h1⟩|⟨e1,e1',h1⟩|⟨e1,h1⟩<;>rcases src u b hu with ⟨e2,h2⟩|⟨e2,e2',h2⟩|⟨e2,h2⟩
  ·exact htu (e1.trans e2.symm)
  ·exact (hfps b h1).2.1 h2
  ·exact h.dj s u b (fun e=>e2 e.symm) (hfps b h1).1 h2
  ·exact (hfps b h2).2.1 h1
  ·exact htu (e1.trans e2.symm)
  ·exact h.dj s u b (fun e=>e2 e.symm) (hG b h1).1 h2
  ·exact h.dj s t b (fun e=>e1 e.symm) (hfps b h2).1 h1
  ·exact h.dj s t b (fun e=>e1 e.symm) (hG b h2).1 h1
  ·exact h.dj t u b htu h1 h2
 ·by_cases e2:t=s
  ·simp only[e2,if_true] at hb
   obtain ⟨h1,h2,h3⟩:=hfps b hb
   exact ⟨(h.pr s b h1).1,h3,.inl ⟨s,h1⟩⟩
  ·simp only[e2,if_false] at hb
   by_cases e3:t=d
   ·simp only[e3,if_true] at hb
    rcases List.mem_append.1 hb with hb|hb
    ·obtain ⟨h1,h2,h3⟩:=h.pr d b hb
     refine ⟨h1,fun hc=> ?_,.inl ⟨d,hb⟩⟩
     rcases hnew b hc with h4|h4
     ·exact h2 h4
     ·exact h.dj s d b hsd h4 hb
    ·obtain ⟨h1,h2⟩:=hG b hb
     exact ⟨(h.pr s b h1).1,h2,.inl ⟨s,h1⟩⟩
   ·simp only[e3,if_false] at hb
    obtain ⟨h1,h2,h3⟩:=h.pr t b hb
    refine ⟨h1,fun hc=> ?_,.inl ⟨t,hb⟩⟩
    rcases hnew b hc with h4|h4
    ·exact h2 h4
    ·exact h.dj t s b e2 hb h4
theorem St.mod (h:St w0 F0 X0 κ σ τ w F fp) {s:Nat} {ks:Kd} {xs:PV} {l fps:List Nat} (cut:Kd→Bool) (hs:s<κ.length)
 (hos:w1.os=w.os) (htape:w1.tape=w.tape) (hout:w1.output=w.output) (hsize:w.heap.size≤w1.heap.size)
 (hblock:∀b,b<w.heap.size→b∉fp s→w1.heap[b]?=w.heap[b]?)
 (hsub:∀b,F b→F1 b) (hnew:∀b,F1 b→F b∨w.heap.size≤b∨b∈fp s) (hlt1:∀b,F1 b→b<w1.heap.size)
 (hnd:l.Nodup) (hl:∀b∈l,b∈fps) (hrs:SR w1 F1 ks xs (tv τ s) l) (hfps:∀b∈fps,(b∈fp s∨w.heap.size≤b)∧b<w1.heap.size∧¬F1 b) (hal:xs≠.undef→Al τ w1 ks xs (tv τ s)) (hks:ks.bdep=none)
 (hcut:∀k,cut k=true→k.dep≠none) (hcl:∀s,(kd κ s).isCln=false)
 (hkeep:∀k,k.bdep=some s→cut k=false→(kd κ s).isBox=true→ks.isBox=true∧∀x v,Al τ w k x v→Al τ w1 k x v):
 St w0 F0 X0 ((κ.map fun k=>if cut k then .ck .none else k).set s ks) (σ.set s xs) τ w1 F1 (fun t=>if t=s then fps else fp t):=by
 have ls:s<σ.length:=by rw[h.ls,←h.lk];exact hs
 have hkk:∀t,kd ((κ.map fun k=>if cut k then .ck .none else k).set s ks) t=if t=s then ks else if cut (kd κ t) then .ck .none else kd κ t:=by
  intro t
  rw[ZjD]
  simp only[List.length_map,hs,and_true]
  by_cases e:t=s
  ·simp[e]
  ·simp only[e,if_false]
   unfold kd
   rw[List.getD_eq_getElem?_getD,List.getD_eq_getElem?_getD,List.getElem?_map]
   cases κ[t]? with
   |none=>simp
   |some k=>simp
 have hvv:∀t,vl (σ.set s xs) t=if t=s then xs else vl σ t:=by
  intro t;rw[Zbk];simp only[ls,and_true]
 refine h.gen (fun b=>b∈fp s) (by simp) (by simp) rfl hos htape hout hsize hblock (fun b hb=>⟨(h.pr s b hb).2.1,(h.pr s b hb).2.2⟩) hsub
  (fun b hb=>by rcases hnew b hb with h1|h1|h1;exact .inl h1;exact .inr (.inl h1);exact .inr (.inr ⟨s,h1⟩)) hlt1 (fun t=> ?_) (fun t=> ?_) (fun t q hq=> ?_) (fun t u b htu ht hu=> ?_) (fun t b hb=> ?_)
 ·rw [hkk,hvv]
  by_cases e2:t=s
  ·right;subst e2;simp only[if_true];exact ⟨l,hnd,hl,hrs⟩
  ·simp only[e2,if_false]
   by_cases e3:cut (kd κ t)=true
   ·right
    rw[if_pos e3]
    exact ⟨[],List.nodup_nil,by simp,rfl⟩
   ·left
    rw[if_neg e3]
    exact ⟨by trivial,by trivial,by trivial,by trivial,fun b hb hb'=>h.dj t s b e2 hb hb'⟩
 ·rw [hkk,hvv]
  by_cases e2:t=s
  ·subst e2;simp only[if_true];exact hal
  ·simp only[e2,if_false]
   intro hxu
   by_cases e3:cut (kd κ t)=true
   ·rw[if_pos e3];trivial
   ·rw[if_neg e3]
    by_cases e4:(kd κ t).bdep=some s
    ·exact (hkeep _ e4 (by simpa using e3) (h.bx t s e4)).2 _ _ (h.al t hxu)
    ·exact Al.keep h (h.al t hxu) (fun q hq=>rfl) (fun q hq=>⟨h.bx t q hq,fun b hb=>hblock b (h.pr q b hb).1 fun hb'=>h.dj q s b (fun e=>e4 (e▸hq)) hb hb'⟩) (fun hc=>by rw[hcl t] at hc;cases hc) (let ⟨l,_,_,hr⟩:=h.sr t;⟨l,hr⟩) (fun b hb=>hblock b (h.fl b hb) fun hc=>(h.pr s b hc).2.1 hb)
 ·rw [hkk] at hq⊢
  by_cases e2:t=s
  ·subst e2;simp only[if_true] at hq
   rw[hks] at hq;cases hq
  ·simp only[e2,if_false] at hq
   by_cases e3:cut (kd κ t)=true
   ·rw[if_pos e3] at hq;simp[Kd.bdep] at hq
   ·rw[if_neg e3] at hq
    by_cases e4:q=s
    ·subst e4
     rw[if_pos rfl]
     exact (hkeep _ hq (by simpa using e3) (h.bx t q hq)).1
    ·have h2:=h.bx t q hq
     rw[if_neg e4,if_neg]
     ·exact h2
     ·intro hc;exact hcut _ hc (ZiZ h2)
 ·by_cases e3:t=s
  ·subst e3
   have n1:¬u=t:=fun e=>htu e.symm
   simp only[if_true,n1,if_false] at ht hu
   rcases (hfps b ht).1 with h1|h1
   ·exact h.dj t u b htu h1 hu
   ·have:=(h.pr u b hu).1;omega
  ·simp only[e3,if_false] at ht
   by_cases e4:u=s
   ·subst e4;simp only[if_true] at hu
    rcases (hfps b hu).1 with h1|h1
    ·exact h.dj t u b htu ht h1
    ·have:=(h.pr t b ht).1;omega
   ·simp only[e4,if_false] at hu;exact h.dj t u b htu ht hu
 ·by_cases e2:t=s
  ·simp only[e2,if_true] at hb
   obtain ⟨h1,h2,h3⟩:=hfps b hb
   exact ⟨h2,h3,by rcases h1 with h1|h1;exact .inl ⟨s,h1⟩;exact .inr h1⟩
  ·simp only[e2,if_false] at hb
   obtain ⟨h1,h2,h3⟩:=h.pr t b hb
   refine ⟨Nat.lt_of_lt_of_le h1 hsize,fun hc=> ?_,.inl ⟨t,hb⟩⟩
   rcases hnew b hc with h4|h4|h4
   ·exact h2 h4
   ·omega
   ·exact h.dj t s b e2 hb h4
end
inductive ZC where
 |int (k:IntKind)
 |bool
 |str
 |nil
 |other
 deriving DecidableEq
def ZeQ :Value→ZC
 |.int k n=>if n=0 then .int k else .other
 |.bool b=>if b then .other else .bool
 |.string s=>if s.size=0 then .str else .other
 |.slice none 0 0=>.nil
 |_=>.other
def ZC.pv :ZC→PV
 |.int k=>.int k 0
 |.bool=>.bool false
 |.str=>.str []
 |.nil=>.lst []
 |.other=>.bool false
def ZC.ck :ZC→CK
 |.int _|.bool|.str=>.val
 |.nil=>.nil
 |.other=>.none
theorem Zsi {w:World} {F:Nat→Prop} (v:Value):CR w F (ZeQ v).ck (ZeQ v).pv v []:=by
 unfold ZeQ
 split
 ·split
  ·rename_i h;subst h;exact ⟨.int _ _,rfl⟩
  ·rfl
 ·split
  ·rfl
  ·rename_i b h;cases b;exact ⟨.bool _,rfl⟩;simp at h
 ·split
  ·rename_i s h
   obtain ⟨⟨d⟩⟩:=s
   cases d
   ·exact ⟨.str [],rfl⟩
   ·simp[ByteArray.size] at h
  ·rfl
 ·exact ⟨rfl,rfl,rfl⟩
 ·rfl
theorem ZjE (z:ZC):z.pv.one=true:=by cases z<;>rfl
inductive TD where
 |bool
 |int (k:IntKind)
 |str
 |slice (e:TypeId)
 |struct
 |map (k e:TypeId)
 |other
 deriving DecidableEq
structure TI where
 size:Nat
 bytes:Nat
 desc:TD
 zero:List ZC
 flds:List (Nat×TypeId)
 eqf:Bool
 deriving DecidableEq
def ZeR :TypeDesc→TD
 |.bool=>.bool
 |.int k=>.int k
 |.string=>.str
 |.slice e=>.slice e
 |.struct _=>.struct
 |.map k e=>.map k e
 |_=>.other
def TI.agg (i:TI):Bool:=i.desc==.struct
def okRow (d:TypeDesc) (i:TypeInfo) (z:Value):Bool:=
 (match d,z with
  |.array _ _,_=>false
  |.struct _,.agg _=>true
  |.struct _,_=>false
  |_,.agg _=>false
  |_,_=>true)&&z.cells.size==i.size
def ZoQ :TypeDesc→List (Nat×TypeId)
 |.struct fs=>fs.toList.map (fun f=>(f.offset,f.type))
 |_=>[]
def Ztn (P:Program) (t:TypeId):Bool:=match P.underlying t with|some .bool|some (.int _)|some .string=>true|_=>false
def ZoR (P:Program) (t:TypeId):TypeDesc→Bool
 |.struct fs=>(fs.toList.all fun f=>f.name != "_"&&Ztn P f.type&&((P.info? f.type).map (·.size))==some 1)&& !P.stoodInHeld t&& !P.eqGuardType P.depth t
 |_=>false
def tiOf (P:Program) (T:TypeId):Option TI:=
 match P.info? T,P.underlying T with
 | some i,some d=>
  match i.zero with
  |some z=>if okRow d i z=true∧i.size<1000000 then some {size:=i.size,bytes:=i.bytes,desc:=ZeR d,zero:=z.cells.toList.map ZeQ,flds:=ZoQ d,eqf:=ZoR P T d} else none
  |none=>none
 |_,_=>none
structure TabOk (P:Program) (T:List (TypeId×TI)):Prop where
 row:∀t i,T.lookup t=some i→tiOf P t=some i
 arr:∀(t:TypeId) (n:Nat) (e:TypeId),(t,n,e)∈GA→P.underlying t=some (.array n e)
structure TyOk (P:Program) (t:TypeId) (i:TI) where
 row:TypeInfo
 desc:TypeDesc
 zv:Value
 hrow:P.info? t=some row
 hdesc:P.underlying t=some desc
 hsize:row.size=i.size
 hbytes:row.bytes=i.bytes
 hd:i.desc=ZeR desc
 hz:row.zero=some zv
 hzs:zv.cells.size=i.size
 hzero:i.zero=zv.cells.toList.map ZeQ
 hagg:i.agg=true→∃cs,zv=.agg cs
 hnagg:i.agg=false→∀cs,zv≠.agg cs
 hnarr:∀n e,desc≠.array n e
 hflds:i.flds=ZoQ desc
 heqf:i.eqf=ZoR P t desc
 hsm:i.size<1000000
theorem TabOk.ty {P:Program} {T:List (TypeId×TI)} (h:TabOk P T) {t:TypeId} {i:TI} (hi:T.lookup t=some i):Nonempty (TyOk P t i):=by
 have h1:=h.row t i hi
 unfold tiOf at h1
 split at h1
 ·rename_i r d hr hd
  split at h1
  ·rename_i z hz
   split at h1
   ·rename_i hc
    simp only[Option.some.injEq] at h1
    subst h1
    obtain ⟨hc,hsm⟩:=hc
    unfold okRow at hc
    simp only[Bool.and_eq_true,beq_iff_eq] at hc
    refine ⟨{row:=r,desc:=d,zv:=z,hrow:=hr,hdesc:=hd,hsize:=rfl,hbytes:=rfl,hd:=rfl,hz:=hz,hzs:=hc.2,hzero:=rfl,hagg:=fun ha=> ?_,hnagg:=fun ha=> ?_,hnarr:=fun n e he=> ?_,hflds:=rfl,heqf:=rfl,hsm:=hsm}⟩
    ·simp only[TI.agg,beq_iff_eq] at ha
     obtain ⟨h2,_⟩:=hc
     cases d<;>simp[ZeR] at ha
     cases z<;>simp at h2
     exact ⟨_,rfl⟩
    ·simp only[TI.agg,beq_eq_false_iff_ne,ne_eq] at ha
     obtain ⟨h2,_⟩:=hc
     rintro cs rfl
     cases d<;>simp[ZeR] at ha h2
    ·subst he
     simp at hc
   ·cases h1
  ·cases h1
 ·cases h1
theorem TyOk.run_underlying {P:Program} {t:TypeId} {i:TI} (h:TyOk P t i) (w:World):(underlying t).run P w=.ok h.desc w:=by simp[underlying,h.hdesc]
theorem TyOk.run_sizeOf {P:Program} {t:TypeId} {i:TI} (h:TyOk P t i) (w:World):(sizeOf t).run P w=.ok i.size w:=by simp[sizeOf,typeInfo,h.hrow,h.hsize]
theorem TyOk.run_isAgg {P:Program} {t:TypeId} {i:TI} (h:TyOk P t i) (w:World):(isAgg t).run P w=.ok i.agg w:=by
 have h1:=h.run_underlying w
 have h2:=h.hd
 have h3:=h.hnarr
 unfold isAgg TI.agg
 rw[h2]
 generalize h.desc=d at *
 cases d<;>simp[h1,ZeR]<;>first|rfl|exact absurd rfl (h3 _ _)
theorem TyOk.run_zero {P:Program} {t:TypeId} {i:TI} (h:TyOk P t i) (w:World):(zeroValue t).run P w=.ok h.zv w:=by simp[zeroValue,typeInfo,h.hrow,h.hz]
def pvOf :Value→PV
 |.int k n=>.int k n
 |.bool b=>.bool b
 |.string s=>.str s.data.toList
 |.slice none 0 0=>.lst []
 |_=>.undef
def ckOf :Value→CK
 |.int _ _|.bool _|.string _=>.val
 |.slice none 0 0=>.nil
 |_=>.none
def kOp (κ:List Kd):Operand→Kd
 |.tmp t=>kd κ t
 |.const v=>.ck (ckOf v)
 |.func f=>.clo f
 |_=>.ck .none
def vOp (σ:List PV):Operand→PV
 |.tmp t=>vl σ t
 |.const v=>pvOf v
 |.func _=>.tup []
 |_=>.undef
def isV (κ:List Kd) (x:Operand):Bool:=
 match kOp κ x with
 |.ck .val|.ck .nil|.tt=>true
 |_=>false
theorem ZjF {w:World} {F:Nat→Prop} (v:Value):CR w F (ckOf v) (pvOf v) v []:=by
 unfold ckOf pvOf
 split
 ·exact ⟨.int _ _,rfl⟩
 ·exact ⟨.bool _,rfl⟩
 ·rename_i s;obtain ⟨⟨l⟩⟩:=s;exact ⟨.str l,rfl⟩
 ·exact ⟨rfl,rfl,rfl⟩
 ·rfl
section
variable {w0 :World} {F0:Nat→Prop} {X0:List Nat} {κ:List Kd} {σ:List PV} {a:Act} {w:World} {F:Nat→Prop} {fp:Nat→List Nat}
theorem CR.vr {k:CK} {x:PV} {v:Value} {l:List Nat} (h:CR w F k x v l) (hk:k=.val∨k=.nil):VR w F x v∧l=[]:=by
 rcases hk with rfl|rfl
 ·exact h
 ·obtain ⟨rfl,rfl,h3⟩:=h
  exact ⟨.lst [] none 0 0 (fun _=>Go.undef) (by simp) (by simp[maxLen]) (fun h=>absurd rfl h) (fun i x h=>by simp at h) (fun i x h=>by simp at h),h3⟩
theorem rdV (h:St w0 F0 X0 κ σ a.tmps w F fp) {x:Operand} (hx:isV κ x=true):VR w F (vOp σ x) (a.eval x):=by
 unfold isV at hx
 cases x with
 | tmp t=>
  obtain ⟨l,_,_,hs⟩:=h.sr t
  simp only[kOp] at hx
  change VR w F (vl σ t) (tv a.tmps t)
  split at hx
  ·rename_i hk;rw[hk] at hs;exact (CR.vr (k:=.val) hs (.inl rfl)).1
  ·rename_i hk;rw[hk] at hs;exact (CR.vr (k:=.nil) hs (.inr rfl)).1
  ·rename_i hk;rw[hk] at hs;exact hs.1.1
  ·cases hx
 | const v=>
  have hs:=ZjF (w:=w) (F:=F) v
  simp only[kOp] at hx
  change VR w F (pvOf v) v
  split at hx
  ·rename_i hk;simp only[Kd.ck.injEq] at hk;exact (CR.vr hs (.inl hk)).1
  ·rename_i hk;simp only[Kd.ck.injEq] at hk;exact (CR.vr hs (.inr hk)).1
  ·rename_i hk;cases hk
  ·cases hx
 |global g=>simp[kOp] at hx
 |func f=>simp[kOp] at hx
end
def Zfu (op:BinOp) (k:IntKind) (a b:Int):Option PV:=
 match op with
 |.add=>some (.int k (k.wrap (a+b)))
 |.sub=>some (.int k (k.wrap (a - b)))
 |.mul=>some (.int k (k.wrap (a * b)))
 |.quo=>if b=0 then none else some (.int k (k.wrap (a.tdiv b)))
 |.rem=>if b=0 then none else some (.int k (a.tmod b))
 |.and=>some (.int k (k.wrap (BitVec.ofInt k.bits a &&& BitVec.ofInt k.bits b).toNat))
 |.or=>some (.int k (k.wrap (BitVec.ofInt k.bits a ||| BitVec.ofInt k.bits b).toNat))
 |.xor=>some (.int k (k.wrap (BitVec.ofInt k.bits a ^^^ BitVec.ofInt k.bits b).toNat))
 |.andNot=>some (.int k (k.wrap (BitVec.ofInt k.bits a &&& ~~~BitVec.ofInt k.bits b).toNat))
 |.eql=>some (.bool (a==b))
 |.neq=>some (.bool (a !=b))
 |.lss=>some (.bool (decide (a<b)))
 |.leq=>some (.bool (decide (a≤b)))
 |.gtr=>some (.bool (decide (b<a)))
 |.geq=>some (.bool (decide (b≤a)))
 |_=>none
def Zp2 (op:BinOp) (k:IntKind) (a b:Int):Option PV:=
 if b<0 then none else
 match op with
 |.shl=>some (.int k (k.wrap (a * 2 ^ (min b.toNat k.bits))))
 |.shr=>some (.int k (a.fdiv (2 ^ (min b.toNat k.bits))))
 |_=>none
def Zp3 (op:BinOp) (a b:List UInt8):Option PV:=
 match op with
 |.add=>if a.length+b.length≤9223372036854775807 then some (.str (a++b)) else none
 |.eql=>some (.bool (a==b))
 |.neq=>some (.bool (!(a==b)))
 |.lss=>some (.bool (Op.bytesLess a b))
 |.leq=>some (.bool (Op.bytesLess a b||a==b))
 |.gtr=>some (.bool (!(Op.bytesLess a b||a==b)))
 |.geq=>some (.bool (!Op.bytesLess a b))
 |_=>none
def Zsj (op:BinOp) (a b:Bool):Option PV:=
 match op with
 |.eql=>some (.bool (a==b))
 |.neq=>some (.bool (!(a==b)))
 |_=>none
def Zcg :BinOp→Bool
 |.shl|.shr=>true
 |_=>false
def Ze (op:BinOp) (td:TD):PV→PV→Option PV
 |.int k a,.int k' b=>if Zcg op then Zp2 op k a b else if k=k' then Zfu op k a b else none
 |.str a,.str b=>Zp3 op a b
 |.bool a,.bool b=>if td=.bool then Zsj op a b else none
 |_,_=>none
def unV (op:UnOp):PV→Option PV
 |.bool b=>match op with|.not=>some (.bool (!b))|_=>none
 | .int k n=>match op with
  |.neg=>some (.int k (k.wrap (0 - n)))
  |.xor=>some (.int k (k.wrap (BitVec.ofInt k.bits (if k.signed then -1 else k.max) ^^^ BitVec.ofInt k.bits n).toNat))
  |_=>none
 |_=>none
theorem Zl8 (a b:List UInt8):(⟨a.toArray⟩:ByteArray)++⟨b.toArray⟩=⟨(a++b).toArray⟩:=by
 have h:((⟨a.toArray⟩:ByteArray)++⟨b.toArray⟩).data=(a++b).toArray:=by
  rw[ByteArray.data_append]
  simp
 cases h':((⟨a.toArray⟩:ByteArray)++⟨b.toArray⟩)
 rw[h'] at h
 simp at h
 rw[h]
theorem ZdB {P:Program} (op:BinOp) (t:TypeId) (x y:Operand) (u v:Value) (w:World) (h:(∀cs,u≠.agg cs)∧u≠.nilIface):(eqGuard op t x y u v).run P w=.ok () w:=by
 cases u<;>first|exact absurd rfl (h.1 _)|exact absurd rfl h.2|(cases op<;>rfl)
theorem Zl9 {P:Program} {t:TypeId} (d:Nat) (a b:Bool) (w:World) (h:P.underlying t=some .bool):(Op.equalIn (d+1) t (.bool a) (.bool b)).run P w=.ok (a==b) w:=by
 simp[Op.equalIn,underlying,h]
theorem ZoS {P:Program} {t:TypeId} (a b:Bool) (w:World) (h:P.underlying t=some .bool):(Op.equal t (.bool a) (.bool b)).run P w=.ok (a==b) w:=Zl9 9999 a b w h
theorem Ztq {P:Program} {op:BinOp} {t:TypeId} {td:TD} {x y z:PV} {u v:Value} {w:World} {F:Nat→Prop} (h:Ze op td x y=some z) (hx:VR w F x u) (hy:VR w F y v)
 (ht:td=.bool→P.underlying t=some .bool):∃r,(binOp op t u v).run P w=.ok r w∧VR w F z r∧((∀cs,u≠.agg cs)∧u≠.nilIface):=by
 unfold Ze at h
 split at h
 ·rename_i k a k' b
  obtain rfl:=hx.int_eq
  obtain rfl:=hy.int_eq
  split at h
  ·rename_i hs
   unfold Zp2 at h
   split at h
   ·cases h
   ·rename_i hb
    cases op<;>simp[Zcg] at hs<;>simp at h<;>subst h<;>refine ⟨_, ?_,.int _ _,by simp,by simp⟩<;>simp[binOp,Op.shift,hb]
  ·rename_i hs
   split at h
   ·rename_i hk
    subst hk
    cases op<;>simp[Zcg] at hs<;>simp[Zfu] at h
    case quo=>obtain ⟨hb,rfl⟩:=h;exact ⟨_,by simp[binOp,Op.intDiv,hb],.int _ _,by simp,by simp⟩
    case rem=>obtain ⟨hb,rfl⟩:=h;exact ⟨_,by simp[binOp,Op.intDiv,hb],.int _ _,by simp,by simp⟩
    all_goals
     subst h
     first
      |(refine ⟨_, ?_,.int _ _,by simp,by simp⟩;first|(simp[binOp,Op.intArith];done)|(simp[binOp,Op.intBits];rfl)|(simp[binOp,Op.intBits];done))
      |(refine ⟨_, ?_,.bool _,by simp,by simp⟩;simp[binOp,Op.intCmp];done)
   ·cases h
 ·rename_i a b
  obtain rfl:=hx.str_eq
  obtain rfl:=hy.str_eq
  cases op<;>simp[Zp3] at h
  case add=>
   obtain ⟨hl,rfl⟩:=h
   refine ⟨.string ⟨(a++b).toArray⟩, ?_,.str _,by simp,by simp⟩
   have h1:(⟨a.toArray⟩:ByteArray).size=a.length:=by simp[ByteArray.size]
   have h2:(⟨b.toArray⟩:ByteArray).size=b.length:=by simp[ByteArray.size]
   have h3:¬((a.length+b.length:Nat):Int)>IntKind.i64.max:=by simp[IntKind.max,IntKind.signed,IntKind.bits];omega
   rw[binOp_string_add]
   unfold Op.stringOp
   simp only[h1,h2,h3,if_false,Zl8]
   rfl
  all_goals
   subst h
   refine ⟨_, ?_,.bool _,by simp,by simp⟩
   simp[binOp,Op.stringOp]
   done
 ·rename_i a b
  split at h
  ·rename_i hb
   have h3:=ht hb
   obtain rfl:=hx.bool_eq
   obtain rfl:=hy.bool_eq
   cases op<;>simp[Zsj] at h
   all_goals
    subst h
    refine ⟨_, ?_,.bool _,by simp,by simp⟩
    have h4:=ZoS a b w h3
    simp[binOp,h4]
    done
  ·cases h
 ·cases h
theorem unV_ok {P:Program} {op:UnOp} {x z:PV} {u:Value} {w:World} {F:Nat→Prop} (h:unV op x=some z) (hx:VR w F x u):∃r,(Op.unary op u).run P w=.ok r w∧VR w F z r:=by
 unfold unV at h
 split at h
 ·obtain rfl:=hx.bool_eq
  cases op<;>simp at h
  subst h
  exact ⟨_,by simp[Op.unary],.bool _⟩
 ·obtain rfl:=hx.int_eq
  cases op<;>simp at h<;>subst h
  ·exact ⟨_,by simp[Op.unary,Op.intArith],.int _ _⟩
  ·exact ⟨_,by simp[Op.unary,Op.intBits],.int _ _⟩
 ·cases h
structure SV where
 k:Kd
 pk:Kd
 slot:Option Nat
structure DV where
 v:PV
 pv:PV
def sv (κ:List Kd) (x:Operand):SV:=
 ⟨kOp κ x,match (kOp κ x).dep with|some q=>kd κ q|none=>.ck .none,match x with|.tmp t=>some t|_=>none⟩
def dv (κ:List Kd) (σ:List PV) (x:Operand):DV:=
 ⟨vOp σ x,match (kOp κ x).dep with|some q=>vl σ q|none=>.undef⟩
def SV.isV (s:SV):Bool:=
 match s.k with
 |.ck .val|.ck .nil|.tt=>true
 |_=>false
inductive Cut where
 |all
 |cells (off n:Nat)
 |no
def Cut.fn (s:Nat):Cut→Kd→Bool
 |.all,k=>k.dep=some s
 |.cells off n,.ali (.cell q o)=>q=s&&off≤o&&o<off+n
 |.cells off n,.elm (.cell q o) _ _=>q=s&&off≤o&&o<off+n
 |.cells _ _,.gal q _=>q=s
 |_,_=>false
theorem Cut.fn_dep {s:Nat} {c:Cut} {k:Kd} (h:c.fn s k=true):k.dep=some s:=by
 unfold Cut.fn at h
 split at h
 ·simpa using h
 ·simp at h;simp[Kd.dep,Place.of,h.1.1]
 ·simp at h;simp[Kd.dep,Place.of,h.1.1]
 ·simp at h;simp[Kd.dep,h]
 ·cases h
def Zga (κ:List Kd) (s:Nat) (c:Cut) (k:Kd):List Kd:=(κ.map fun k=>if c.fn s k then .ck .none else k).set s k
theorem Cut.fn_none (s:Nat) (c:Cut):c.fn s (.ck .none)=false:=by
 cases c<;>simp[Cut.fn,Kd.dep]
theorem Zd0 (κ:List Kd) (s:Nat) (c:Cut) (k:Kd):(Zga κ s c k).length=κ.length:=by simp[Zga]
theorem ZbI (κ:List Kd) (s d:Nat) (c:Cut) (k:Kd) (hs:s<κ.length):kd (Zga κ s c k) d=if d=s then k else if c.fn s (kd κ d) then .ck .none else kd κ d:=by
 unfold Zga
 rw[ZjD]
 by_cases e:d=s
 ·simp[e,hs]
 ·rw[if_neg (by simp[e]),if_neg e]
  unfold kd
  rw[List.getD_eq_getElem?_getD,List.getD_eq_getElem?_getD,List.getElem?_map]
  cases κ[d]? with
  |none=>simp[Cut.fn_none]
  |some k=>rfl
structure Gh where
 s:Nat
 i:Option Nat
 fz:Bool
 app:Bool
 e:TypeId
 sz:Nat
def Gh.ck (g:Gh):CK:=if g.fz then .val else .none
def tgB :Nat:=1000000
def Gh.kind (g:Gh) (k:Kd):Option Kd:=
 match k,g.i with
 |.ck c,none=>if c=.own g.app g.e g.sz then some (.ck g.ck) else none
 |.box T ks,some i=>if ks[i]?=some (.own g.app g.e g.sz) then some (.box T (ks.set i g.ck)) else none
 |.grp t ks,some i=>if ks[i]?=some (.own g.app g.e g.sz)∧i<tgB then some (.grp t (ks.set i g.ck)) else none
 |.tgr sh ks,some i=>if ks[i - tgB]?=some (.own g.app g.e g.sz)∧tgB≤i then some (.tgr sh (ks.set (i - tgB) g.ck)) else none
 |_,_=>none
def Gh.cut (g:Gh):Cut:=match g.i with|none=>.all|some i=>.cells i 1
def Gh.act (g:Gh) (tgt:Nat) (κ:List Kd):Option (List Kd):=
 if g.s=tgt then none else if g.s<κ.length then (g.kind (kd κ g.s)).map fun k=>Zga κ g.s g.cut k else none
def Zac (tgt:Nat):List Gh→List Kd→Option (List Kd)
 |[],κ=>some κ
 |g::r,κ=>(g.act tgt κ).bind (Zac tgt r)
structure Eff (R:Type) where
 gh:List Gh
 tgt:Nat
 put:Bool
 k:Kd
 cut:Cut
 dyn:List DV→(PV→Option R)→Option R
def mdB (put:Bool) (gh:List Gh):Bool:=match put,gh with|true,[]=>false|_,_=>true
def Eff.md {R:Type} (E:Eff R):Bool:=mdB E.put E.gh
def Eff.κ {R:Type} (E:Eff R) (κ:List Kd):Option (List Kd):=
 if E.tgt<κ.length then (Zac E.tgt E.gh κ).map fun κ1=>if E.put then ZcJ (noCln E.md κ1) E.tgt E.k else Zga (noCln E.md κ1) E.tgt E.cut E.k else none
abbrev Tab :=List (TypeId×TI)
def PV.isU :PV→Bool
 |.undef=>true
 |_=>false
def Kd.hangs :Kd→Bool
 |.ipt=>true
 |k=>k.dep.isSome
def Z7 (κ:List Kd) (σ:List PV) (l:List Operand):Bool:=l.all fun x=> !(kOp κ x).hangs|| !(vOp σ x).isU
def ZN {R:Type} (P:Program) (o:Oper) (κ:List Kd) (E:Eff R):Prop:=
 ∀ (w0:World) (F0:Nat→Prop) (X0:List Nat) (κ':List Kd) (σ:List PV) (a:Act) (w:World) (F:Nat→Prop) (fp:Nat→List Nat) (kk:PV→Option R) (r:R) (K:Act→World→Prop) (Q:Exit→Act→World→Prop),
  St w0 F0 X0 κ σ a.tmps w F fp→E.κ κ=some κ'→Z7 κ σ o.op.operands.toList=true→E.dyn (o.op.operands.toList.map (dv κ σ)) kk=some r→
  (∀(x:PV) (v:Value) (w':World) (F':Nat→Prop) (fp':Nat→List Nat),St w0 F0 X0 κ' (σ.set E.tgt x) (a.put o.dst v).tmps w' F' fp'→kk x=some r→K (a.put o.dst v) w')→o.wp P a w K Q
def ZaM (κ:List Kd) (σ:List PV) (x:Operand):Prop:=(kOp κ x).hangs=true→vOp σ x≠.undef
theorem Zc {κ:List Kd} {σ:List PV} {l:List Operand} (h:Z7 κ σ l=true) {x:Operand} (hx:x∈l):ZaM κ σ x:=fun hh=>by
 have:=List.all_eq_true.1 h x hx
 rw[hh] at this
 intro e
 rw[e] at this
 simp[PV.isU] at this
theorem Zns {P:Program} {o:Oper} {a:Act} {w w1:World} {v:Value} {K:Act→World→Prop} {Q:Exit→Act→World→Prop} (hr:(execOp a.eval o).run P w=.ok (.value v) w1) (h:K (a.put o.dst v) w1):o.wp P a w K Q:=by
 unfold Oper.wp
 rw[hr]
 exact h
theorem Znt {P:Program} {o:Oper} {a:Act} {w w1:World} {K:Act→World→Prop} {Q:Exit→Act→World→Prop} (hr:(execOp a.eval o).run P w=.ok .skip w1) (h:K (a.put o.dst undef) w1):o.wp P a w K Q:=by
 unfold Oper.wp
 rw[hr]
 exact h
section
variable {w0 :World} {F0:Nat→Prop} {X0:List Nat} {κ κ':List Kd} {σ σ':List PV} {τ τ':Array Value} {w w1:World} {F F1:Nat→Prop} {fp fp':Nat→List Nat}
theorem rdS {a:Act} (h:St w0 F0 X0 κ σ a.tmps w F fp) {x:Operand} (hx:(sv κ x).isV=true):VR w F (dv κ σ x).v (a.eval x):=rdV h hx
theorem List.nodup_flatten_set' {fps:List (List Nat)} (i:Nat) (h:fps.flatten.Nodup):(fps.set i []).flatten.Nodup:=by
 induction fps generalizing i with
 |nil=>exact h
 | cons l r ih=>
  cases i with
  |zero=>simp at h⊢;exact (List.nodup_append.1 h).2.1
  | succ i=>
   simp at h⊢
   obtain ⟨h1,h2,h3⟩:=List.nodup_append.1 h
   refine List.nodup_append.2 ⟨h1,ih i h2,fun a ha b hb=>h3 a ha b ?_⟩
   have:∀(fps:List (List Nat)) (i:Nat),b∈(fps.set i []).flatten→b∈fps.flatten:=by
    intro fps
    induction fps with
    |nil=>intro i h;exact h
    | cons l r ih=>
     intro i h
     cases i with
     |zero=>simp only[List.set_cons_zero,List.flatten_cons,List.nil_append] at h;simp only[List.flatten_cons,List.mem_append];exact .inr h
     | succ i=>
      simp only[List.set_cons_succ,List.flatten_cons,List.mem_append] at h⊢
      rcases h with h|h
      ·exact .inl h
      ·exact .inr (ih i h)
   exact this r i hb
theorem ZM {fps:List (List Nat)} {i b:Nat} (h:b∈(fps.set i []).flatten):b∈fps.flatten:=by
 induction fps generalizing i with
 |nil=>exact h
 | cons l r ih=>
  cases i with
  |zero=>simp only[List.set_cons_zero,List.flatten_cons,List.nil_append] at h;simp only[List.flatten_cons,List.mem_append];exact .inr h
  | succ i=>
   simp only[List.set_cons_succ,List.flatten_cons,List.mem_append] at h⊢
   rcases h with h|h
   ·exact .inl h
   ·exact .inr (ih h)
theorem Zaf {fps:List (List Nat)} {i b:Nat} {l:List Nat} (hn:fps.flatten.Nodup) (hi:fps[i]?=some l) (hb:b∈l):b∉(fps.set i []).flatten:=by
 induction fps generalizing i with
 |nil=>simp at hi
 | cons l' r ih=>
  simp only[List.flatten_cons] at hn
  obtain ⟨h1,h2,h3⟩:=List.nodup_append.1 hn
  cases i with
  | zero=>
   simp at hi;subst hi
   simp only[List.set_cons_zero,List.flatten_cons,List.nil_append]
   intro hc;exact h3 b hb b hc rfl
  | succ i=>
   simp only[List.set_cons_succ,List.flatten_cons,List.mem_append]
   rintro (hc|hc)
   ·have hbr:b∈r.flatten:=List.mem_flatten.2 ⟨l,List.mem_of_getElem? (by simpa using hi),hb⟩
    exact h3 b hc b hbr rfl
   ·exact ih h2 (by simpa using hi) hc
end
section
variable {w0 :World} {F0:Nat→Prop} {X0:List Nat} {κ κ' κ1:List Kd} {σ σ':List PV} {τ τ':Array Value} {w w1:World} {F F1:Nat→Prop} {fp fp':Nat→List Nat}
theorem Zfh.vr {app:Bool} {e:TypeId} {sz:Nat} {l:List PV} {v:Value} {lb:List Nat} (h:Zfh w F app e sz l v lb) (hb:∀b∈lb,F1 b) (hF:∀b,F b→F1 b):VR w F1 (.lst l) v:=by
 rcases h with ⟨rfl,rfl,rfl⟩|⟨g,cap,cur,fr,rfl,rfl,h3,h4,h5,h6,h7,h8,h9⟩
 ·exact .lst [] none 0 0 (fun _=>Go.undef) (by simp) (by simp[maxLen]) (fun h=>absurd rfl h) (fun i x h=>by simp at h) (fun i x h=>by simp at h)
 ·have hex:∀i,∃u:Value,∀x,l[i]?=some x→x.width=sz∧x≠.undef∧VR w F x u∧∀(j:Nat) (c:Value),u.cells[j]?=some c→cur[i * sz+j]?=some c:=by
   intro i
   cases hx:l[i]? with
   |none=>exact ⟨Go.undef,fun x h=>by cases h⟩
   | some x=>
    obtain ⟨e1,e2,u,e3,e4⟩:=h9 i x hx
    exact ⟨u,fun y hy=>by cases hy;exact ⟨e1,e2,e3,e4⟩⟩
  have hst:Stays w F w F1:=⟨hF,fun _ _=>rfl⟩
  refine .lst l _ cap sz (fun i=>Classical.choose (hex i)) h6 h7 (fun _=>⟨g,0,rfl,hb g (by simp),fun i hi j u hj=> ?_⟩) (fun i x hx=> ?_) (fun i x hx=> ?_)
  ·obtain ⟨x,hx⟩:∃x,l[i]?=some x:=⟨l[i],List.getElem?_eq_getElem hi⟩
   obtain ⟨_,_,_,e4⟩:=Classical.choose_spec (hex i) x hx
   rw[cell_of_row w g _ cur e fr h3,Nat.zero_add]
   exact e4 j u hj
  ·obtain ⟨e1,e2,e3,_⟩:=Classical.choose_spec (hex i) x hx
   exact ⟨e1,by rw[←(e3.cells e2).1];exact e1⟩
  ·exact (Classical.choose_spec (hex i) x hx).2.2.1.keep hst
theorem DElR.lens {ks:List DK} {xs:List PV} {vs:List Value} {fps:List (List Nat)} (h:DElR w F ks xs vs fps):xs.length=ks.length∧vs.length=ks.length∧fps.length=ks.length:=by
 induction h with
 |nil=>exact ⟨rfl,rfl,rfl⟩
 |val _ _ _ ih=>simp[ih.1,ih.2.1,ih.2.2]
 |row _ _ ih=>simp[ih.1,ih.2.1,ih.2.2]
theorem DElR.vr {ks:List DK} {xs:List PV} {vs:List Value} {fps:List (List Nat)} (h:DElR w F ks xs vs fps) (hb:∀b∈fps.flatten,F1 b) (hF:∀b,F b→F1 b):∀(i:Nat) (x:PV),xs[i]?=some x→x.one=true∧∃v,vs[i]?=some v∧VR w F1 x v:=by
 induction h with
 |nil=>intro i x hx;simp at hx
 | val h ho ht ih=>
  intro i x hx
  cases i with
  |zero=>simp at hx;subst hx;exact ⟨ho,_,rfl,h.keep ⟨hF,fun _ _=>rfl⟩⟩
  |succ i=>simpa using ih (fun b hb'=>hb b (by simpa using hb')) i x (by simpa using hx)
 | row h ht ih=>
  intro i x hx
  cases i with
  |zero=>simp at hx;subst hx;exact ⟨rfl,_,rfl,h.vr (fun b hb'=>hb b (by simp[hb'])) hF⟩
  |succ i=>simpa using ih (fun b hb'=>hb b (by simp only[List.flatten_cons,List.mem_append];exact .inr hb')) i x (by simpa using hx)
theorem Zh3 {x:PV} (h:x.one=true):x.width=1∧x≠.undef∧x.cells=[x]:=by cases x<;>simp[PV.one] at h<;>exact ⟨rfl,by simp,rfl⟩
theorem ElD.vr {ks:List DK} {x:PV} {u:Value} {fps:List (List Nat)} (h:ElD w F ks x u fps) (hb:∀b∈fps.flatten,F1 b) (hF:∀b,F b→F1 b):VR w F1 x u∧x.width=ks.length∧u.cells.size=ks.length∧x≠.undef:=by
 rcases h with ⟨xs,cs,rfl,rfl,h3⟩|⟨h1,h2,h3⟩
 ·obtain ⟨l1,l2,l3⟩:=h3.lens
  have hv:=h3.vr hb hF
  refine ⟨.agg xs cs (by rw[l1,←l2];simp) (fun i y hy=>(hv i y hy).1) (fun i y hy=> ?_),l1,by simpa[Value.cells] using l2,by simp⟩
  obtain ⟨_,v,e1,e2⟩:=hv i y hy
  have e3:cs[i]?=some v:=by simpa using e1
  rw[Array.getD_eq_getD_getElem?,e3]
  exact e2
 ·obtain ⟨l1,_,_⟩:=h3.lens
  obtain ⟨w1,w2,_⟩:=Zh3 h1
  obtain ⟨_,v,e1,e2⟩:=h3.vr hb hF 0 x rfl
  simp at e1
  subst e1
  have hk:ks.length=1:=by simpa using l1.symm
  exact ⟨e2,by rw[w1,hk],by rw[h2,hk];rfl,w2⟩
theorem Za4.vr {e:TypeId} {ks:List DK} {l:List PV} {v:Value} {lb:List Nat} (h:Za4 w F e ks l v lb) (hb:∀b∈lb,F1 b) (hF:∀b,F b→F1 b):VR w F1 (.lst l) v:=by
 rcases h with ⟨rfl,rfl,rfl⟩|⟨g,cap,cur,fpss,rfl,rfl,h3,h4,h5,h6,h7,h8⟩
 ·exact .lst [] none 0 0 (fun _=>Go.undef) (by simp) (by simp[maxLen]) (fun h=>absurd rfl h) (fun i x h=>by simp at h) (fun i x h=>by simp at h)
 ·have hex:∀i,∃u:Value,∀x,l[i]?=some x→(VR w F1 x u∧x.width=ks.length∧u.cells.size=ks.length)∧∀(j:Nat) (c:Value),u.cells[j]?=some c→cur[i * ks.length+j]?=some c:=by
   intro i
   cases hx:l[i]? with
   |none=>exact ⟨Go.undef,fun x h=>by cases h⟩
   | some x=>
    obtain ⟨u,fps,e1,e2,e3⟩:=h8 i x hx
    obtain ⟨k1,k2,k3,_⟩:=e2.vr (F1:=F1) (fun b hb'=>hb b (List.mem_cons_of_mem _ (Zft e1 hb'))) hF
    exact ⟨u,fun y hy=>by cases hy;exact ⟨⟨k1,k2,k3⟩,e3⟩⟩
  refine .lst l _ cap ks.length (fun i=>Classical.choose (hex i)) h4 h5 (fun _=>⟨g,0,rfl,hb g (by simp),fun i hi j u hj=> ?_⟩) (fun i x hx=> ?_) (fun i x hx=> ?_)
  ·obtain ⟨x,hx⟩:∃x,l[i]?=some x:=⟨l[i],List.getElem?_eq_getElem hi⟩
   obtain ⟨_,e4⟩:=Classical.choose_spec (hex i) x hx
   rw[cell_of_row w g _ cur e (0,0) h3,Nat.zero_add]
   exact e4 j u hj
  ·obtain ⟨⟨_,e2,e3⟩,_⟩:=Classical.choose_spec (hex i) x hx
   exact ⟨e2,e3⟩
  ·exact (Classical.choose_spec (hex i) x hx).1.1
theorem Zal.vr {app:Bool} {e:TypeId} {sz:Nat} {l:List PV} {v:Value} {lb:List Nat} (h:Zal w F app e sz l v lb) (hb:∀b∈lb,F1 b) (hF:∀b,F b→F1 b):VR w F1 (.lst l) v:=by
 unfold Zal at h
 split at h
 ·exact h.vr hb hF
 ·exact h.2.vr hb hF
def GhV (g:Gh) (σ:List PV) (τ:Array Value) (w:World) (x:PV) (v:Value):Prop:=
 match g.i with
 |none=>tv τ g.s=v∧vl σ g.s=x
 | some i=>(∃(b:Nat) (xs:List PV),tv τ g.s=.pointer (some ⟨b,0,none⟩)∧w.cell? ⟨b,i,none⟩=some v∧vl σ g.s=.agg xs∧xs[i]?=some x)∨
  (∃(t:Bool) (cs:Array Value) (xs:List PV),tv τ g.s=(if t then .tuple cs else .agg cs)∧cs[i]?=some v∧vl σ g.s=(if t then .tup xs else .agg xs)∧xs[i]?=some x∧i<tgB)∨
  (∃(cs:Array Value) (xs:List PV),tv τ g.s=.tuple cs∧(Zc2 cs.toList)[i - tgB]?=some v∧vl σ g.s=.tup xs∧(ZcL xs)[i - tgB]?=some x∧tgB≤i)
def Zff (g:Gh) (σ:List PV) (τ:Array Value) (w:World) (F1:Nat→Prop) (own:List Nat):Prop:=
 ∃(x:PV) (v:Value) (l:List PV) (lb:List Nat),GhV g σ τ w x v∧x=.lst l∧Zal w F1 g.app g.e g.sz l v lb∧lb.Nodup∧(if g.fz then VR w F1 x v∧(∀b∈lb,F1 b) else ∀b∈lb,b∈own)
theorem Zff.mono {g:Gh} {own own':List Nat} (h:Zff g σ τ w F own) (hF:∀b,F b→F1 b) (ho:∀b∈own,b∈own'):Zff g σ τ w F1 own':=by
 obtain ⟨x,v,l,lb,h1,h2,h3,h4,h5⟩:=h
 have hst:Stays w F w F1:=⟨hF,fun _ _=>rfl⟩
 refine ⟨x,v,l,lb,h1,h2,h3.keep hst fun _ _=>rfl,h4, ?_⟩
 cases hfz:g.fz
 ·rw[hfz] at h5;simp only[Bool.false_eq_true,if_false] at h5⊢;exact fun b hb=>ho b (h5 b hb)
 ·rw[hfz] at h5;simp only[if_true] at h5⊢;exact ⟨h5.1.keep hst,fun b hb=>hF b (h5.2 b hb)⟩
theorem GrpR.flat_nodup_at {one:Bool} {ks:List CK} {xs:List PV} {vs:List Value} {fps:List (List Nat)} (hn:fps.flatten.Nodup) {i:Nat} {lb:List Nat} (hi:fps[i]?=some lb):lb.Nodup:=by
 induction fps generalizing i with
 |nil=>simp at hi
 | cons a r ih=>
  simp only[List.flatten_cons] at hn
  obtain ⟨h1,h2,_⟩:=List.nodup_append.1 hn
  cases i with
  |zero=>simp at hi;subst hi;exact h1
  |succ i=>exact ih h2 (by simpa using hi)
theorem GrpR.weak {one:Bool} {ks:List CK} {xs:List PV} {vs:List Value} {fps:List (List Nat)} (h:GrpR w F one ks xs vs fps) {i:Nat} {c:CK} {x:PV} {v:Value} (hx:xs[i]?=some x) (hv:vs[i]?=some v) (hc:CR w F c x v []):
 GrpR w F one (ks.set i c) xs vs (fps.set i []):=by
 obtain ⟨_,_,_,_,_,_,_,ho⟩:=h.at i x hx
 have:=h.set i hc ho
 have e1:xs.set i x=xs:=by
  apply List.ext_getElem?
  intro j
  rw[List.getElem?_set]
  by_cases e:i=j
  ·subst e;obtain ⟨hlt,rfl⟩:=List.getElem?_eq_some_iff.1 hx;simp[hlt]
  ·simp[e]
 have e2:vs.set i v=vs:=by
  apply List.ext_getElem?
  intro j
  rw[List.getElem?_set]
  by_cases e:i=j
  ·subst e;obtain ⟨hlt,rfl⟩:=List.getElem?_eq_some_iff.1 hv;simp[hlt]
  ·simp[e]
 rw[e1,e2] at this
 exact this
theorem Gh.cut_ok (g:Gh):∀k,g.cut.fn g.s k=true→k.dep≠none:=fun k h=>by rw[Cut.fn_dep h];simp
theorem GrpR.ks_at {one:Bool} {ks:List CK} {xs:List PV} {vs:List Value} {fps:List (List Nat)} (h:GrpR w F one ks xs vs fps) {i:Nat} {c:CK} (hi:ks[i]?=some c):∃x v fp,xs[i]?=some x∧vs[i]?=some v∧fps[i]?=some fp∧CR w F c x v fp:=by
 have hl:=h.lens
 have hlt:=(List.getElem?_eq_some_iff.1 hi).1
 obtain ⟨x,hx⟩:∃x,xs[i]?=some x:=⟨xs[i]'(by omega),List.getElem?_eq_getElem _⟩
 obtain ⟨k,v,fp,h1,h2,h3,h4,_⟩:=h.at i x hx
 rw[hi] at h1
 cases h1
 exact ⟨x,v,fp,hx,h2,h3,h4⟩
theorem Gh.sound (h:St w0 F0 X0 κ σ τ w F fp) {g:Gh} {tgt:Nat} (hg:g.act tgt κ=some κ1):
 ∃F1 fp1,St w0 F0 X0 κ1 σ τ w F1 fp1∧(∀b,F b→F1 b)∧(∀b∈fp tgt,b∈fp1 tgt)∧Zff g σ τ w F1 (fp1 tgt):=by
 unfold Gh.act at hg
 split at hg
 ·cases hg
 rename_i hst
 split at hg
 case isFalse=>cases hg
 rename_i hs
 obtain ⟨ks,hk,rfl⟩:=Option.map_eq_some_iff.1 hg
 obtain ⟨l,hn,hl,hsr⟩:=h.sr g.s
 unfold Gh.kind at hk
 split at hk
 ·
  rename_i c e1 e2
  rw[e1] at hsr
  split at hk
  case isFalse=>cases hk
  rename_i hc
  subst hc
  cases hk
  obtain ⟨ls,ex,hrow⟩:=hsr
  cases hfz:g.fz
  ·refine ⟨F,_,h.ghost (l:=[]) (fps:=[]) (G:=l) (d:=tgt) (ks:=.ck g.ck) (g.cut.fn g.s) hst hs (fun _ h=>h) (fun _ h=>.inl h) List.nodup_nil (by simp) (by simp only[Gh.ck,hfz];rfl) (by simp) (fun b hb=>⟨hl b hb,(h.pr _ b (hl b hb)).2.1⟩) rfl g.cut_ok (fun _ k hk hc=> ?_),fun _ h=>h,fun b hb=> ?_, ?_⟩
   ·have:=Zab hk;simp[Gh.cut,e2,Cut.fn,this] at hc
   ·have n1:¬tgt=g.s:=fun e=>hst e.symm
    simp only[n1,if_false,if_true];exact List.mem_append_left _ hb
   ·have n1:¬tgt=g.s:=fun e=>hst e.symm
    exact ⟨_,tv τ g.s,ls,l,by simp[GhV,e2,ex],rfl,hrow,hn,by simp only[hfz,n1,if_false,if_true,Bool.false_eq_true];exact fun b hb=>List.mem_append_right _ hb⟩
  ·have hF:∀b,F b→(fun b=>F b∨b∈l) b:=fun b hb=>.inl hb
   have hvr:=hrow.vr (F1:=fun b=>F b∨b∈l) (fun b hb=>.inr hb) hF
   refine ⟨fun b=>F b∨b∈l,_,h.ghost (l:=[]) (fps:=[]) (G:=[]) (d:=tgt) (ks:=.ck g.ck) (g.cut.fn g.s) hst hs hF (fun b hb=>by rcases hb with hb|hb;exact .inl hb;exact .inr (hl b hb)) List.nodup_nil (by simp) (by simp only[Gh.ck,hfz,if_true];exact ⟨by rw[ex];exact hvr,rfl⟩) (by simp) (by simp) rfl g.cut_ok (fun _ k hk hc=> ?_),hF,fun b hb=> ?_, ?_⟩
   ·have:=Zab hk;simp[Gh.cut,e2,Cut.fn,this] at hc
   ·have n1:¬tgt=g.s:=fun e=>hst e.symm
    simp only[n1,if_false,if_true];exact List.mem_append_left _ hb
   ·exact ⟨_,tv τ g.s,ls,l,by simp[GhV,e2,ex],rfl,hrow.keep ⟨hF,fun _ _=>rfl⟩ fun _ _=>rfl,hn,by simp only[hfz,if_true];exact ⟨hvr,fun b hb=>.inr hb⟩⟩
 ·
  rename_i T ks0 i e1 e2
  rw[e1] at hsr
  split at hk
  case isFalse=>cases hk
  rename_i hki
  cases hk
  obtain ⟨b0,cs,xs,fps,ev,ex,hheap,hgrp,rfl⟩:=hsr
  obtain ⟨x,v,lb,hx,hv,hfi,ls,rfl,hrow⟩:=hgrp.ks_at hki
  have hnf:fps.flatten.Nodup:=(List.nodup_cons.1 hn).2
  have hb0:b0∉fps.flatten:=(List.nodup_cons.1 hn).1
  have hlb:∀b∈lb,b∈fps.flatten:=fun b hb=>List.mem_flatten.2 ⟨lb,List.mem_of_getElem? hfi,hb⟩
  have hnl:lb.Nodup:=GrpR.flat_nodup_at (one:=true) (ks:=ks0) (xs:=xs) (vs:=cs.toList) hnf hfi
  have hn':(b0::(fps.set i []).flatten).Nodup:=List.nodup_cons.2 ⟨fun hc=>hb0 (ZM hc),List.nodup_flatten_set' i hnf⟩
  have hcv:cs[i]?=some v:=by simpa using hv
  have hgv:GhV g σ τ w (.lst ls) v:=by
   simp only[GhV,e2]
   left
   exact ⟨b0,xs,ev,by rw[cell_of_row w b0 i cs T (0,0) hheap];exact hcv,ex,hx⟩
  have n1:¬tgt=g.s:=fun e=>hst e.symm
  have hkeepf:(kd κ g.s).isBox=true→∀k:Kd,k.bdep=some g.s→g.cut.fn g.s k=false→(Kd.box T (ks0.set i g.ck)).isBox=true:=fun _ _ _ _=>rfl
  have hin:∀b∈b0::(fps.set i []).flatten,b∈fp g.s∧b∉lb:=fun b hb=>by
   rcases List.mem_cons.1 hb with rfl|hb
   ·exact ⟨hl _ (by simp),fun hc=>hb0 (hlb _ hc)⟩
   ·exact ⟨hl b (List.mem_cons_of_mem _ (ZM hb)),fun hc=>Zaf hnf hfi hc hb⟩
  cases hfz:g.fz
  ·have hg':=hgrp.weak (c:=g.ck) hx hv (by simp only[Gh.ck,hfz];rfl)
   refine ⟨F,_,h.ghost (l:=b0::(fps.set i []).flatten) (fps:=b0::(fps.set i []).flatten) (G:=lb) (d:=tgt) (ks:=.box T (ks0.set i g.ck)) (g.cut.fn g.s) hst hs (fun _ h=>h) (fun _ h=>.inl h) hn' (fun _ h=>h)
    ⟨b0,cs,xs,fps.set i [],ev,ex,hheap,hg',rfl⟩ (fun b hb=>⟨(hin b hb).1,(hin b hb).2,(h.pr _ b (hin b hb).1).2.1⟩) (fun b hb=>⟨hl b (List.mem_cons_of_mem _ (hlb b hb)),(h.pr _ b (hl b (List.mem_cons_of_mem _ (hlb b hb)))).2.1⟩) rfl g.cut_ok hkeepf,fun _ h=>h,fun b hb=> ?_, ?_⟩
   ·simp only[n1,if_false,if_true];exact List.mem_append_left _ hb
   ·exact ⟨_,v,ls,lb,hgv,rfl,hrow,hnl,by simp only[hfz,n1,if_false,if_true,Bool.false_eq_true];exact fun b hb=>List.mem_append_right _ hb⟩
  ·have hF:∀b,F b→(fun b=>F b∨b∈lb) b:=fun b hb=>.inl hb
   have hst':Stays w F w (fun b=>F b∨b∈lb):=⟨hF,fun _ _=>rfl⟩
   have hvr:=hrow.vr (F1:=fun b=>F b∨b∈lb) (fun b hb=>.inr hb) hF
   have hg':=(hgrp.keep hst' fun _ _=>rfl).weak (c:=g.ck) hx hv (by simp only[Gh.ck,hfz,if_true];exact ⟨hvr,rfl⟩)
   refine ⟨fun b=>F b∨b∈lb,_,h.ghost (l:=b0::(fps.set i []).flatten) (fps:=b0::(fps.set i []).flatten) (G:=[]) (d:=tgt) (ks:=.box T (ks0.set i g.ck)) (g.cut.fn g.s) hst hs hF (fun b hb=>by rcases hb with hb|hb;exact .inl hb;exact .inr (hl b (List.mem_cons_of_mem _ (hlb b hb)))) hn' (fun _ h=>h)
    ⟨b0,cs,xs,fps.set i [],ev,ex,hheap,hg',rfl⟩ (fun b hb=>⟨(hin b hb).1,by simp,fun hc=>by rcases hc with hc|hc;exact (h.pr _ b (hin b hb).1).2.1 hc;exact (hin b hb).2 hc⟩) (by simp) rfl g.cut_ok hkeepf,hF,fun b hb=> ?_, ?_⟩
   ·simp only[n1,if_false,if_true];exact List.mem_append_left _ hb
   ·exact ⟨_,v,ls,lb,hgv,rfl,hrow.keep hst' fun _ _=>rfl,hnl,by simp only[hfz,if_true];exact ⟨hvr,fun b hb=>.inr hb⟩⟩
 ·
  rename_i t ks0 i e1 e2
  rw[e1] at hsr
  split at hk
  case isFalse=>cases hk
  rename_i hki0
  obtain ⟨hki,hiB⟩:=hki0
  cases hk
  obtain ⟨cs,xs,fps,ev,ex,hgrp,rfl⟩:=hsr
  obtain ⟨x,v,lb,hx,hv,hfi,ls,rfl,hrow⟩:=hgrp.ks_at hki
  have hlb:∀b∈lb,b∈fps.flatten:=fun b hb=>List.mem_flatten.2 ⟨lb,List.mem_of_getElem? hfi,hb⟩
  have hnl:lb.Nodup:=GrpR.flat_nodup_at (one:= !t) (ks:=ks0) (xs:=xs) (vs:=cs.toList) hn hfi
  have hn':(fps.set i []).flatten.Nodup:=List.nodup_flatten_set' i hn
  have hcv:cs[i]?=some v:=by simpa using hv
  have hgv:GhV g σ τ w (.lst ls) v:=by
   simp only[GhV,e2]
   exact .inr (.inl ⟨t,cs,xs,ev,hcv,ex,hx,hiB⟩)
  have n1:¬tgt=g.s:=fun e=>hst e.symm
  have hkeepf:(kd κ g.s).isBox=true→∀k:Kd,k.bdep=some g.s→g.cut.fn g.s k=false→(Kd.grp t (ks0.set i g.ck)).isBox=true:=fun hb=>by rw[e1] at hb;cases hb
  have hin:∀b∈(fps.set i []).flatten,b∈fp g.s∧b∉lb:=fun b hb=>
   ⟨hl b (ZM hb),fun hc=>Zaf hn hfi hc hb⟩
  cases hfz:g.fz
  ·have hg':=hgrp.weak (c:=g.ck) hx hv (by simp only[Gh.ck,hfz];rfl)
   refine ⟨F,_,h.ghost (l:=(fps.set i []).flatten) (fps:=(fps.set i []).flatten) (G:=lb) (d:=tgt) (ks:=.grp t (ks0.set i g.ck)) (g.cut.fn g.s) hst hs (fun _ h=>h) (fun _ h=>.inl h) hn' (fun _ h=>h)
    ⟨cs,xs,fps.set i [],ev,ex,hg',rfl⟩ (fun b hb=>⟨(hin b hb).1,(hin b hb).2,(h.pr _ b (hin b hb).1).2.1⟩) (fun b hb=>⟨hl b (hlb b hb),(h.pr _ b (hl b (hlb b hb))).2.1⟩) rfl g.cut_ok hkeepf,fun _ h=>h,fun b hb=> ?_, ?_⟩
   ·simp only[n1,if_false,if_true];exact List.mem_append_left _ hb
   ·exact ⟨_,v,ls,lb,hgv,rfl,hrow,hnl,by simp only[hfz,n1,if_false,if_true,Bool.false_eq_true];exact fun b hb=>List.mem_append_right _ hb⟩
  ·have hF:∀b,F b→(fun b=>F b∨b∈lb) b:=fun b hb=>.inl hb
   have hst':Stays w F w (fun b=>F b∨b∈lb):=⟨hF,fun _ _=>rfl⟩
   have hvr:=hrow.vr (F1:=fun b=>F b∨b∈lb) (fun b hb=>.inr hb) hF
   have hg':=(hgrp.keep hst' fun _ _=>rfl).weak (c:=g.ck) hx hv (by simp only[Gh.ck,hfz,if_true];exact ⟨hvr,rfl⟩)
   refine ⟨fun b=>F b∨b∈lb,_,h.ghost (l:=(fps.set i []).flatten) (fps:=(fps.set i []).flatten) (G:=[]) (d:=tgt) (ks:=.grp t (ks0.set i g.ck)) (g.cut.fn g.s) hst hs hF (fun b hb=>by rcases hb with hb|hb;exact .inl hb;exact .inr (hl b (hlb b hb))) hn' (fun _ h=>h)
    ⟨cs,xs,fps.set i [],ev,ex,hg',rfl⟩ (fun b hb=>⟨(hin b hb).1,by simp,fun hc=>by rcases hc with hc|hc;exact (h.pr _ b (hin b hb).1).2.1 hc;exact (hin b hb).2 hc⟩) (by simp) rfl g.cut_ok hkeepf,hF,fun b hb=> ?_, ?_⟩
   ·simp only[n1,if_false,if_true];exact List.mem_append_left _ hb
   ·exact ⟨_,v,ls,lb,hgv,rfl,hrow.keep hst' fun _ _=>rfl,hnl,by simp only[hfz,if_true];exact ⟨hvr,fun b hb=>.inr hb⟩⟩
 ·
  rename_i sh ks0 i0 e1 e2
  obtain ⟨i,hii⟩:∃i,i0 - tgB=i:=⟨_,rfl⟩
  rw[e1] at hsr
  split at hk
  case isFalse=>cases hk
  rename_i hki0
  obtain ⟨hki,hiB⟩:=hki0
  rw[hii] at hki
  cases hk
  rw[hii]
  obtain ⟨cs,xs,fps,ev,ex,hsh,hgrp,rfl⟩:=hsr
  obtain ⟨x,v,lb,hx,hv,hfi,ls,rfl,hrow⟩:=hgrp.ks_at hki
  have hlb:∀b∈lb,b∈fps.flatten:=fun b hb=>List.mem_flatten.2 ⟨lb,List.mem_of_getElem? hfi,hb⟩
  have hnl:lb.Nodup:=GrpR.flat_nodup_at (one:=true) (ks:=ks0) (xs:=ZcL xs) (vs:=Zc2 cs.toList) hn hfi
  have hn':(fps.set i []).flatten.Nodup:=List.nodup_flatten_set' i hn
  have hgv:GhV g σ τ w (.lst ls) v:=by
   simp only[GhV,e2]
   exact .inr (.inr ⟨cs,xs,ev,by rw[hii];exact hv,ex,by rw[hii];exact hx,hiB⟩)
  have n1:¬tgt=g.s:=fun e=>hst e.symm
  have hkeepf:(kd κ g.s).isBox=true→∀k:Kd,k.bdep=some g.s→g.cut.fn g.s k=false→(Kd.tgr sh (ks0.set i g.ck)).isBox=true:=fun hb=>by rw[e1] at hb;cases hb
  have hin:∀b∈(fps.set i []).flatten,b∈fp g.s∧b∉lb:=fun b hb=>
   ⟨hl b (ZM hb),fun hc=>Zaf hn hfi hc hb⟩
  cases hfz:g.fz
  ·have hg':=hgrp.weak (c:=g.ck) hx hv (by simp only[Gh.ck,hfz];rfl)
   refine ⟨F,_,h.ghost (l:=(fps.set i []).flatten) (fps:=(fps.set i []).flatten) (G:=lb) (d:=tgt) (ks:=.tgr sh (ks0.set i g.ck)) (g.cut.fn g.s) hst hs (fun _ h=>h) (fun _ h=>.inl h) hn' (fun _ h=>h)
    ⟨cs,xs,fps.set i [],ev,ex,hsh,hg',rfl⟩ (fun b hb=>⟨(hin b hb).1,(hin b hb).2,(h.pr _ b (hin b hb).1).2.1⟩) (fun b hb=>⟨hl b (hlb b hb),(h.pr _ b (hl b (hlb b hb))).2.1⟩) rfl g.cut_ok hkeepf,fun _ h=>h,fun b hb=> ?_, ?_⟩
   ·simp only[n1,if_false,if_true];exact List.mem_append_left _ hb
   ·exact ⟨_,v,ls,lb,hgv,rfl,hrow,hnl,by simp only[hfz,n1,if_false,if_true,Bool.false_eq_true];exact fun b hb=>List.mem_append_right _ hb⟩
  ·have hF:∀b,F b→(fun b=>F b∨b∈lb) b:=fun b hb=>.inl hb
   have hst':Stays w F w (fun b=>F b∨b∈lb):=⟨hF,fun _ _=>rfl⟩
   have hvr:=hrow.vr (F1:=fun b=>F b∨b∈lb) (fun b hb=>.inr hb) hF
   have hg':=(hgrp.keep hst' fun _ _=>rfl).weak (c:=g.ck) hx hv (by simp only[Gh.ck,hfz,if_true];exact ⟨hvr,rfl⟩)
   refine ⟨fun b=>F b∨b∈lb,_,h.ghost (l:=(fps.set i []).flatten) (fps:=(fps.set i []).flatten) (G:=[]) (d:=tgt) (ks:=.tgr sh (ks0.set i g.ck)) (g.cut.fn g.s) hst hs hF (fun b hb=>by rcases hb with hb|hb;exact .inl hb;exact .inr (hl b (hlb b hb))) hn' (fun _ h=>h)
    ⟨cs,xs,fps.set i [],ev,ex,hsh,hg',rfl⟩ (fun b hb=>⟨(hin b hb).1,by simp,fun hc=>by rcases hc with hc|hc;exact (h.pr _ b (hin b hb).1).2.1 hc;exact (hin b hb).2 hc⟩) (by simp) rfl g.cut_ok hkeepf,hF,fun b hb=> ?_, ?_⟩
   ·simp only[n1,if_false,if_true];exact List.mem_append_left _ hb
   ·exact ⟨_,v,ls,lb,hgv,rfl,hrow.keep hst' fun _ _=>rfl,hnl,by simp only[hfz,if_true];exact ⟨hvr,fun b hb=>.inr hb⟩⟩
 ·cases hk
theorem Zbq {tgt:Nat}:∀(gs:List Gh) (κ κ1:List Kd) (F:Nat→Prop) (fp:Nat→List Nat),St w0 F0 X0 κ σ τ w F fp→Zac tgt gs κ=some κ1→
 ∃F1 fp1,St w0 F0 X0 κ1 σ τ w F1 fp1∧(∀b,F b→F1 b)∧(∀b∈fp tgt,b∈fp1 tgt)∧∀g∈gs,Zff g σ τ w F1 (fp1 tgt)
 | [],κ,κ1,F,fp,h,hg=>by
  cases hg
  exact ⟨F,fp,h,fun _ h=>h,fun _ h=>h,by simp⟩
 | g::r,κ,κ1,F,fp,h,hg=>by
  unfold Zac at hg
  obtain ⟨κm,h1,h2⟩:=Option.bind_eq_some_iff.1 hg
  obtain ⟨Fm,fpm,hm,hF,hfp,hgv⟩:=Gh.sound h h1
  obtain ⟨F1,fp1,hst,hF1,hfp1,hall⟩:=Zbq r κm κ1 Fm fpm hm h2
  refine ⟨F1,fp1,hst,fun b hb=>hF1 b (hF b hb),fun b hb=>hfp1 b (hfp b hb),fun g' hg'=> ?_⟩
  rcases List.mem_cons.1 hg' with rfl|hg'
  ·exact hgv.mono hF1 hfp1
  ·exact hall g' hg'
end
theorem Zb5 {R:Type} {P:Program} {o:Oper} {κ:List Kd} {E:Eff R} (hdst:o.dst=some E.tgt) (hput:E.put=true)
 (H :∀(w0:World) (F0:Nat→Prop) (X0:List Nat) (κ1:List Kd) (σ:List PV) (a:Act) (w:World) (F F1:Nat→Prop) (fp fp1:Nat→List Nat) (kk:PV→Option R) (r:R),
  St w0 F0 X0 κ σ a.tmps w F fp→St w0 F0 X0 κ1 σ a.tmps w F1 fp1→E.tgt<κ.length→Zac E.tgt E.gh κ=some κ1→(∀b,F b→F1 b)→(∀g∈E.gh,Zff g σ a.tmps w F1 (fp1 E.tgt))→
  Z7 κ σ o.op.operands.toList=true→E.dyn (o.op.operands.toList.map (dv κ σ)) kk=some r→
  ∃ (x:PV) (v:Value) (w':World) (F':Nat→Prop) (l:List Nat),(execOp a.eval o).run P w=.ok (.value v) w'∧kk x=some r∧
   w'.os=w.os∧w'.tape=w.tape∧w'.output=w.output∧w.heap.size≤w'.heap.size∧(∀b,b<w.heap.size→(b∉fp1 E.tgt∨E.gh=[])→w'.heap[b]?=w.heap[b]?)∧
   (∀b,F1 b→F' b)∧(∀b,F' b→F1 b∨w.heap.size≤b∨b∈fp1 E.tgt)∧(∀b,F' b→b<w'.heap.size)∧
   l.Nodup∧SR w' F' E.k x v l∧(∀b∈l,(w.heap.size≤b∨b∈fp1 E.tgt)∧b<w'.heap.size∧¬F' b)∧
   (x≠.undef→Al (a.tmps.setIfInBounds E.tgt v) w' E.k x v)∧(∀q,E.k.bdep=some q→q≠E.tgt∧(kd κ1 q).isBox=true)):ZN P o κ E:=by
 intro w0 F0 X0 κ' σ a w F fp kk r K Q h hκ hlv hd hK
 unfold Eff.κ at hκ
 split at hκ
 case isFalse=>cases hκ
 rename_i htgt
 obtain ⟨κ1,h1,h2⟩:=Option.map_eq_some_iff.1 hκ
 have h3:ZcJ (noCln E.md κ1) E.tgt E.k=κ':=by simpa[hput] using h2
 subst h3
 obtain ⟨F1,fp1,hst,hF,hfp,hall⟩:=Zbq E.gh κ κ1 F fp h h1
 obtain ⟨x,v,w',F',l,hrun,hkk,e1,e2,e3,e4,e5,e6,e7,e8,e9,e10,e11,e12,e13⟩:=H w0 F0 X0 κ1 σ a w F F1 fp fp1 kk r h hst htgt h1 hF hall hlv hd
 have hlen:κ1.length=κ.length:=by rw[hst.lk,h.lk]
 have:=(hst.noCln E.md).put (fpd:=l) (by rw[Zn,hlen];exact htgt) e1 e2 e3 e4 (fun b hb hn=>e5 b hb (.inl hn)) e6 e7 e8 e9 (fun _ h=>h) e10 e11 e12 (fun q hq=>by rw[Zc3];exact e13 q hq) (fun s hc b hb=>e5 b hb (.inr (by
  cases hmd:E.md with
  |true=>rw[hmd,Zbh] at hc;cases hc
  | false=>
   unfold Eff.md at hmd
   rw[hput] at hmd
   cases hg:E.gh with
   |nil=>rfl
   |cons _ _=>rw[hg] at hmd;simp[mdB] at hmd)))
 refine Zns hrun (hK x v w' F' (fun t=>if t=E.tgt then l else fp1 t) ?_ hkk)
 rw[hdst]
 exact this
theorem ZJ {R:Type} {P:Program} {o:Oper} {κ:List Kd} {E:Eff R} (hdst:o.dst=some E.tgt) (hput:E.put=true) (hgh:E.gh=[])
 (H :∀(w0:World) (F0:Nat→Prop) (X0:List Nat) (σ:List PV) (a:Act) (w:World) (F:Nat→Prop) (fp:Nat→List Nat) (kk:PV→Option R) (r:R),
  St w0 F0 X0 κ σ a.tmps w F fp→E.tgt<κ.length→Z7 κ σ o.op.operands.toList=true→E.dyn (o.op.operands.toList.map (dv κ σ)) kk=some r→
  ∃ (x:PV) (v:Value) (w':World) (F':Nat→Prop) (l:List Nat),(execOp a.eval o).run P w=.ok (.value v) w'∧kk x=some r∧Adds w F w' F'∧
   l.Nodup∧SR w' F' E.k x v l∧(∀b∈l,w.heap.size≤b∧b<w'.heap.size∧¬F' b)∧
   (x≠.undef→Al (a.tmps.setIfInBounds E.tgt v) w' E.k x v)∧(∀q,E.k.bdep=some q→q≠E.tgt∧(kd κ q).isBox=true)):ZN P o κ E:=by
 refine Zb5 hdst hput fun w0 F0 X0 κ1 σ a w F F1 fp fp1 kk r h h1 ht hg hF hall hlv hd=> ?_
 rw[hgh] at hg
 cases hg
 obtain ⟨x,v,w',F',l,hrun,hkk,hA,e9,e10,e11,e12,e13⟩:=H w0 F0 X0 σ a w F1 fp1 kk r h1 ht hlv hd
 exact ⟨x,v,w',F',l,hrun,hkk,hA.os,hA.tape,hA.output,hA.size,fun b hb _=>hA.block b hb,hA.sub,fun b hb=>by rcases hA.new b hb with h|h;exact .inl h;exact .inr (.inl h),hA.lt,e9,e10,fun b hb=>⟨.inl (e11 b hb).1,(e11 b hb).2⟩,e12,e13⟩
theorem ZaC {R:Type} {P:Program} {o:Oper} {κ:List Kd} {E:Eff R} (hdst:o.dst=some E.tgt) (hput:E.put=true) (hgh:E.gh=[]) (hk:E.k=.ck .val)
 (H:∀(w0:World) (F0:Nat→Prop) (X0:List Nat) (σ:List PV) (a:Act) (w:World) (F:Nat→Prop) (fp:Nat→List Nat) (kk:PV→Option R) (r:R),
  St w0 F0 X0 κ σ a.tmps w F fp→E.tgt<κ.length→Z7 κ σ o.op.operands.toList=true→E.dyn (o.op.operands.toList.map (dv κ σ)) kk=some r→
  ∃(x:PV) (v:Value),(execOp a.eval o).run P w=.ok (.value v) w∧kk x=some r∧VR w F x v):ZN P o κ E:=by
 refine ZJ hdst hput hgh fun w0 F0 X0 σ a w F fp kk r h ht hlv hd=> ?_
 obtain ⟨x,v,hrun,hkk,hv⟩:=H w0 F0 X0 σ a w F fp kk r h ht hlv hd
 refine ⟨x,v,w,F,[],hrun,hkk,Adds.refl w h.fl,List.nodup_nil, ?_,by simp, ?_, ?_⟩<;>rw[hk]
 ·exact ⟨hv,rfl⟩
 ·exact fun _=>trivial
 ·simp[Kd.bdep]
theorem ZdC {R:Type} {P:Program} {o:Oper} {κ:List Kd} {E:Eff R} (hdst:o.dst=none) (hput:E.put=false)
 (H :∀(w0:World) (F0:Nat→Prop) (X0:List Nat) (κ1:List Kd) (σ:List PV) (a:Act) (w:World) (F F1:Nat→Prop) (fp fp1:Nat→List Nat) (kk:PV→Option R) (r:R),
  St w0 F0 X0 κ σ a.tmps w F fp→St w0 F0 X0 κ1 σ a.tmps w F1 fp1→E.tgt<κ.length→Zac E.tgt E.gh κ=some κ1→(∀b,F b→F1 b)→(∀b∈fp E.tgt,b∈fp1 E.tgt)→(∀g∈E.gh,Zff g σ a.tmps w F1 (fp1 E.tgt))→
  Z7 κ σ o.op.operands.toList=true→E.dyn (o.op.operands.toList.map (dv κ σ)) kk=some r→
  ∃ (x:PV) (w':World) (l:List Nat),(execOp a.eval o).run P w=.ok .skip w'∧kk x=some r∧
   w'.os=w.os∧w'.tape=w.tape∧w'.output=w.output∧w'.heap.size=w.heap.size∧(∀b,b<w.heap.size→b∉fp1 E.tgt→w'.heap[b]?=w.heap[b]?)∧
   l.Nodup∧SR w' F1 E.k x (tv a.tmps E.tgt) l∧(∀b∈l,b∈fp1 E.tgt)∧E.k.dep=none∧
   ((kd κ1 E.tgt).isBox=true→E.k.isBox=true∧∀k y u,k.bdep=some E.tgt→E.cut.fn E.tgt k=false→Al a.tmps w k y u→Al a.tmps w' k y u)):ZN P o κ E:=by
 intro w0 F0 X0 κ' σ a w F fp kk r K Q h hκ hlv hd hK
 unfold Eff.κ at hκ
 split at hκ
 case isFalse=>cases hκ
 rename_i htgt
 obtain ⟨κ1,h1,h2⟩:=Option.map_eq_some_iff.1 hκ
 have hmd:E.md=true:=by unfold Eff.md;rw[hput];rfl
 have h3:Zga (noCln true κ1) E.tgt E.cut E.k=κ':=by simpa[hput,hmd] using h2
 subst h3
 obtain ⟨F1,fp1,hst,hF,hfp,hall⟩:=Zbq E.gh κ κ1 F fp h h1
 obtain ⟨x,w',l,hrun,hkk,e1,e2,e3,e4,e5,e6,e7,e8,e9,e10⟩:=H w0 F0 X0 κ1 σ a w F F1 fp fp1 kk r h hst htgt h1 hF hfp hall hlv hd
 have hlen:κ1.length=κ.length:=by rw[hst.lk,h.lk]
 have hst':Stays w F1 w' F1:=⟨fun _ h=>h,fun b hb=>e5 b (hst.fl b hb) fun hc=>(hst.pr _ b hc).2.1 hb⟩
 have:=(hst.noCln true).mod (ks:=E.k) (xs:=x) (l:=l) (fps:=l) (E.cut.fn E.tgt) (by rw[Zn,hlen];exact htgt) e1 e2 e3 (by rw[e4];exact Nat.le_refl _) e5 (fun _ h=>h) (fun _ h=>.inl h) (fun b hb=>by rw[e4];exact hst.fl b hb) e6 (fun _ h=>h) e7 (fun b hb=>⟨.inl (e8 b hb),by rw[e4];exact (hst.pr _ b (e8 b hb)).1,(hst.pr _ b (e8 b hb)).2.1⟩) (fun _=>ZbV e9 _ _) (Znr e9) (fun k hk=>by rw[Cut.fn_dep hk];simp) (Zbh κ1) (fun k hk hc hb=>let q:=e10 (by rw[Zc3] at hb;exact hb);⟨q.1,fun x v=>q.2 k x v hk hc⟩)
 refine Znt hrun (hK x undef w' F1 (fun t=>if t=E.tgt then l else fp1 t) ?_ hkk)
 rw[hdst]
 exact this
def Zj {R:Type} (d:Nat) (k:Kd) (dyn:List DV→(PV→Option R)→Option R):Eff R:={gh:=[],tgt:=d,put:=true,k:=k,cut:=.no,dyn:=dyn}
def Zbl {R:Type} (f:DV→Option PV):List DV→(PV→Option R)→Option R
 |[x],kk=>(f x).bind kk
 |_,_=>none
def ZaV {R:Type} (f:DV→DV→Option PV):List DV→(PV→Option R)→Option R
 |[x,y],kk=>(f x y).bind kk
 |_,_=>none
def dyn3 {R:Type} (f:DV→DV→DV→Option PV):List DV→(PV→Option R)→Option R
 |[x,y,z],kk=>(f x y z).bind kk
 |_,_=>none
def Zfi {R:Type}:List DV→(PV→Option R)→Option R
 |[x],kk=>kk x.v
 |_,_=>none
def dynP {R:Type}:List DV→(PV→Option R)→Option R
 |[x],kk=>kk x.pv
 |_,_=>none
def dynC {R:Type} (off:Nat):List DV→(PV→Option R)→Option R
 |[x],kk=>(x.pv.cells[off]?).bind kk
 |_,_=>none
def dynU {R:Type}:List DV→(PV→Option R)→Option R:=fun _ kk=>kk .undef
def ZiL {R:Type}:List DV→(PV→Option R)→Option R:=fun _ kk=>kk (.bool true)
def Kd.cell (k:Kd) (off:Nat):CK:=
 match k with
 |.box _ ks=>(ks[off]?).getD .none
 |_=>.none
def Zan {R:Type} (asg:Bool) (d:Nat) (x:SV):Option (Eff R):=
 match x.k with
 |.ck .val=>some (Zj d (.ck .val) Zfi)
 |.ck .nil=>some (Zj d (.ck .nil) Zfi)
 |.tt=>some (Zj d .tt Zfi)
 |.ck .none=>some (Zj d (.ck .none) dynU)
 |.ipt=>some (Zj d .ipt Zfi)
 |.clo f=>some (Zj d (.clo f) Zfi)
 |.cln f=>if d=Zl6 then none else some (Zj d (.cln f) Zfi)
 | .ck (.own app e sz)=>
  match x.slot with
  | some s=>
   if s=d then none else
   if asg then some {gh:=[⟨s,none,false,app,e,sz⟩],tgt:=d,put:=true,k:=.ck (.own app e sz),cut:=.no,dyn:=Zfi}
   else some (Zj d (.ali (.slot s)) ZiL)
  |none=>none
 | .box _ _|.grp _ _|.mp _ _|.tgr _ _=>
  match x.slot with
  |some s=>if s=d then none else some (Zj d (.ali (.slot s)) ZiL)
  |none=>none
 |.tip=>some (Zj d .tip Zfi)
 | .ali (.slot q)=>
  if q=d then none else
  match asg,x.pk with
  |true,.ck (.own app e sz)=>some {gh:=[⟨q,none,false,app,e,sz⟩],tgt:=d,put:=true,k:=.ck (.own app e sz),cut:=.no,dyn:=dynP}
  |_,_=>some (Zj d (.ali (.slot q)) ZiL)
 | .ali (.cell q off)=>
  if q=d then none else
  match asg,x.pk.cell off with
  |true,.own app e sz=>some {gh:=[⟨q,some off,false,app,e,sz⟩],tgt:=d,put:=true,k:=.ck (.own app e sz),cut:=.no,dyn:=dynC off}
  |_,_=>if x.pk.isBox then some (Zj d (.ali (.cell q off)) ZiL) else none
 | .elm p sz off=>if p.of=d then none else match p with
  |.slot q=>some (Zj d (.elm (.slot q) sz off) Zfi)
  |.cell q o=>if x.pk.isBox then some (Zj d (.elm (.cell q o) sz off) Zfi) else none
 |.bxf q off=>if q=d then none else if x.pk.isBox then some (Zj d (.bxf q off) Zfi) else none
 |.mbx _=>none
 |.tl _=>none
 |.gal _ _=>none
def asB :PV→Option Bool
 |.bool b=>some b
 |_=>none
def Zma {R:Type} (d:Nat) (c a b:SV):Option (Eff R):=
 if c.isV&&a.isV&&b.isV then some (Zj d (.ck .val) (dyn3 fun c a b=>(asB c.v).bind fun t=>some (if t then a.v else b.v))) else none
def ZoT {R:Type} (T:Tab) (d:Nat) (op:BinOp) (t:TypeId) (x y:SV):Option (Eff R):=
 match T.lookup t with
 |some i=>if x.isV&&y.isV then some (Zj d (.ck .val) (ZaV fun x y=>Ze op i.desc x.v y.v)) else none
 |none=>none
def Zsk {R:Type} (d:Nat) (op:UnOp) (x:SV):Option (Eff R):=
 if x.isV then some (Zj d (.ck .val) (Zbl fun x=>unV op x.v)) else none
def Zbi :PV→PV→Option PV
 |.str s,.int _ i=>if 0≤i then (s[i.toNat]?).map fun b=>.int .u8 b.toNat else none
 |_,_=>none
def ZjG {R:Type} (T:Tab) (d:Nat) (t:TypeId) (x i:SV):Option (Eff R):=
 match T.lookup t with
 |some ti=>if ti.desc=.str∧(x.isV&&i.isV)=true then some (Zj d (.ck .val) (ZaV fun x i=>Zbi x.v i.v)) else none
 |none=>none
section
variable {R :Type} {P:Program} {o:Oper} {κ:List Kd} {E:Eff R}
variable {w0 :World} {F0:Nat→Prop} {X0:List Nat} {σ:List PV} {a:Act} {w:World} {F:Nat→Prop} {fp:Nat→List Nat}
theorem St.at (h:St w0 F0 X0 κ σ a.tmps w F fp) (x:Operand) (hx:x≠.global (match x with|.global g=>g|_=>0)) (hf:∀f,x≠.func f):∃l,l.Nodup∧SR w F (sv κ x).k (dv κ σ x).v (a.eval x) l:=by
 cases x with
 |tmp t=>obtain ⟨l,h1,h2,h3⟩:=h.sr t;exact ⟨l,h1,h3⟩
 |const v=>exact ⟨[],List.nodup_nil,ZjF v⟩
 |global g=>exact absurd rfl hx
 |func f=>exact absurd rfl (hf f)
theorem St.at' (h:St w0 F0 X0 κ σ a.tmps w F fp) (x:Operand) (hx:(sv κ x).k≠.ck .none):∃l,l.Nodup∧SR w F (sv κ x).k (dv κ σ x).v (a.eval x) l:=by
 cases x with
 |tmp t=>obtain ⟨l,h1,h2,h3⟩:=h.sr t;exact ⟨l,h1,h3⟩
 |const v=>exact ⟨[],List.nodup_nil,ZjF v⟩
 |global g=>exact absurd rfl hx
 |func f=>exact ⟨[],List.nodup_nil, #[],[],rfl,rfl,rfl,by simp,rfl⟩
theorem St.al' (h:St w0 F0 X0 κ σ a.tmps w F fp) (x:Operand) (hl:ZaM κ σ x):Al a.tmps w (sv κ x).k (dv κ σ x).v (a.eval x):=by
 cases x with
 | tmp t=>
  cases hd:(kd κ t).dep with
  |none=>exact ZbV hd _ _
  |some q=>exact h.al t (hl (by show (kd κ t).hangs=true;unfold Kd.hangs;split;rfl;rw[hd];rfl))
 |const v=>simp only[sv,kOp];exact trivial
 |global g=>exact trivial
 |func f=>exact trivial
theorem Zav {x:Operand} {s:Nat} (h:(sv κ x).slot=some s):x=.tmp s:=by
 cases x<;>simp[sv] at h
 rw[h]
theorem Zfv {asg:Bool} {x:Operand} (hop:o.op=(if asg then .assign x else .move x)) (ρ:Operand→Value) (w:World):(execOp ρ o).run P w=.ok (.value (ρ x)) w:=by
 cases asg<;>simp at hop<;>simp[execOp,hop]
theorem ZdD {asg:Bool} {x:Operand} (hop:o.op=(if asg then .assign x else .move x)):o.op.operands.toList=[x]:=by
 cases asg<;>simp at hop<;>simp[Op.operands,hop]
theorem ZfW {asg:Bool} {x:Operand} {d:Nat} {k:Kd} (hop:o.op=(if asg then .assign x else .move x)) (hd:o.dst=some d) (hk:(sv κ x).k=k) (hn:k≠.ck .none)
 (h0:∀(w:World) (F:Nat→Prop) (x:PV) (v:Value) (l:List Nat),SR w F k x v l→l=[]) (hdep:k.dep=none):ZN P o κ (Zj (R:=R) d k Zfi):=by
 refine ZJ hd rfl rfl fun w0 F0 X0 σ a w F fp kk r h ht hlv hdy=> ?_
 rw[ZdD hop] at hdy
 obtain ⟨l,hnd,hsr⟩:=h.at' x (by rw[hk];exact hn)
 rw[hk] at hsr
 obtain rfl:=h0 _ _ _ _ _ hsr
 exact ⟨(dv κ σ x).v,a.eval x,w,F,[],Zfv hop _ _,hdy,Adds.refl w h.fl,List.nodup_nil,hsr,by simp,fun _=>ZbV hdep _ _,fun q hq=>by have h1:=Zab hq;change k.dep=some q at h1;rw[hdep] at h1;cases h1⟩
theorem Zb8 {asg:Bool} {x:Operand} {d:Nat} {k:Kd} {dyn:List DV→(PV→Option R)→Option R} (hop:o.op=(if asg then .assign x else .move x)) (hd:o.dst=some d)
 (hfree:∀(w:World) (F:Nat→Prop) (x:PV) (v:Value),SR w F k x v []) (hdep:k.dep≠some d)
 (hdyn:∀(w0:World) (F0:Nat→Prop) (X0:List Nat) (σ:List PV) (a:Act) (w:World) (F:Nat→Prop) (fp:Nat→List Nat) (kk:PV→Option R) (r:R),St w0 F0 X0 κ σ a.tmps w F fp→ZaM κ σ x→dyn [dv κ σ x] kk=some r→
  ∃y,kk y=some r∧Al a.tmps w k y (a.eval x)∧∀q,k.bdep=some q→(kd κ q).isBox=true):ZN P o κ (Zj (R:=R) d k dyn):=by
 refine ZJ hd rfl rfl fun w0 F0 X0 σ a w F fp kk r h ht hlv hdy=> ?_
 rw[ZdD hop] at hdy
 obtain ⟨y,hkk,hal,hb⟩:=hdyn w0 F0 X0 σ a w F fp kk r h (Zc hlv (by rw[ZdD hop];simp)) hdy
 refine ⟨y,a.eval x,w,F,[],Zfv hop _ _,hkk,Adds.refl w h.fl,List.nodup_nil,hfree _ _ _ _,by simp, ?_,fun q hq=>⟨?_,hb q hq⟩⟩
 ·exact fun _=>Al.keep h hal (fun q hq=>by rw[Za6,if_neg];rintro ⟨rfl,_⟩;exact hdep hq) (fun q hq=>⟨hb q hq,fun _ _=>rfl⟩) (fun _=>⟨Nat.le_refl _,fun _ _=>rfl⟩) ⟨[],hfree _ _ _ _⟩ (fun _ _=>rfl)
 ·rintro rfl;exact hdep (Zab hq)
theorem Zmb {asg:Bool} {x:Operand} {d:Nat} {g:Gh} {dyn:List DV→(PV→Option R)→Option R} (hop:o.op=(if asg then .assign x else .move x)) (hd:o.dst=some d) (hfz:g.fz=false)
 (hdyn:∀(w0:World) (F0:Nat→Prop) (X0:List Nat) (σ:List PV) (a:Act) (w:World) (F:Nat→Prop) (fp:Nat→List Nat) (kk:PV→Option R) (r:R) (y:PV) (v:Value),St w0 F0 X0 κ σ a.tmps w F fp→ZaM κ σ x→dyn [dv κ σ x] kk=some r→
  GhV g σ a.tmps w y v→v=a.eval x∧kk y=some r):
 ZN P o κ ({gh:=[g],tgt:=d,put:=true,k:=.ck (.own g.app g.e g.sz),cut:=.no,dyn:=dyn}:Eff R):=by
 refine Zb5 hd rfl fun w0 F0 X0 κ1 σ a w F F1 fp fp1 kk r h h1 ht hg hF hall hlv hdy=> ?_
 rw[ZdD hop] at hdy
 obtain ⟨y,v,l,lb,hgv,rfl,hrow,hnd,hown⟩:=hall g (by simp)
 obtain ⟨rfl,hkk⟩:=hdyn w0 F0 X0 σ a w F fp kk r _ _ h (Zc hlv (by rw[ZdD hop];simp)) hdy hgv
 simp only[hfz,Bool.false_eq_true,if_false] at hown
 exact ⟨_,a.eval x,w,F1,lb,Zfv hop _ _,hkk,rfl,rfl,rfl,Nat.le_refl _,fun _ _ _=>rfl,fun _ h=>h,fun _ h=>.inl h,h1.fl,hnd,⟨l,rfl,hrow⟩,fun b hb=>⟨.inr (hown b hb),(h1.pr _ b (hown b hb)).1,(h1.pr _ b (hown b hb)).2.1⟩,fun _=>trivial,fun q hq=>by simp[Kd.bdep] at hq⟩
theorem ZjH {asg:Bool} {x:Operand} {d:Nat} (hop:o.op=(if asg then .assign x else .move x)) (hd:o.dst=some d) (hE:Zan asg d (sv κ x)=some E):ZN P o κ E:=by
 unfold Zan at hE
 split at hE
 ·rename_i hk;cases hE
  exact ZfW hop hd hk (by simp) (fun _ _ _ _ _ h=>h.2) rfl
 ·rename_i hk;cases hE
  exact ZfW hop hd hk (by simp) (fun _ _ _ _ _ h=>h.2.2) rfl
 ·rename_i hk;cases hE
  exact ZfW hop hd hk (by simp) (fun _ _ _ _ _ h=>h.2) rfl
 ·rename_i hk;cases hE
  refine ZJ hd rfl rfl fun w0 F0 X0 σ a w F fp kk r h ht hlv hdy=> ?_
  exact ⟨.undef,a.eval x,w,F,[],Zfv hop _ _,hdy,Adds.refl w h.fl,List.nodup_nil,rfl,by simp,fun _=>trivial,fun q hq=>by simp[Zj,Kd.bdep] at hq⟩
 ·rename_i hk;cases hE
  exact ZfW hop hd hk (by simp) (fun _ _ _ _ _ h=>h.2) rfl
 ·rename_i f hk;cases hE
  exact ZfW hop hd hk (by simp) (fun _ _ _ _ _ h=>by obtain ⟨_,_,_,_,_,_,h6⟩:=h;exact h6) rfl
 ·rename_i f hk
  split at hE
  case isTrue=>cases hE
  rename_i hdc
  cases hE
  have hk':kOp κ x=.cln f:=hk
  refine ZJ hd rfl rfl fun w0 F0 X0 σ a w F fp kk r h ht hlv hdy=> ?_
  rw[ZdD hop] at hdy
  obtain ⟨l,hnd,hsr⟩:=h.at' x (by rw[hk];simp)
  rw[hk] at hsr
  obtain ⟨_,rfl⟩:=id hsr
  have hal:=h.al' x (Zc hlv (by rw[ZdD hop];simp))
  rw[hk] at hal
  exact ⟨(dv κ σ x).v,a.eval x,w,F,[],Zfv hop _ _,hdy,Adds.refl w h.fl,List.nodup_nil,hsr,by simp,fun _=>hal,fun q hq=>by simp[Zj,Kd.bdep] at hq⟩
 ·rename_i app e sz hk
  split at hE
  case h_2=>cases hE
  rename_i s hs
  obtain rfl:=Zav hs
  split at hE
  case isTrue=>cases hE
  rename_i hsd
  split at hE
  ·cases hE
   refine Zmb hop hd rfl fun w0 F0 X0 σ a w F fp kk r y v h hl hdy hgv=> ?_
   obtain ⟨e1,e2⟩:=hgv
   exact ⟨e1.symm,by rw[←e2];exact hdy⟩
  ·cases hE
   refine Zb8 hop hd (fun _ _ _ _=>rfl) (fun e=>hsd (by simpa[Kd.dep,Place.of] using e)) fun w0 F0 X0 σ a w F fp kk r h hl hdy=>⟨.bool true,hdy,rfl,fun q hq=>by simp[Kd.bdep] at hq⟩
 ·rename_i hk
  split at hE
  case h_2=>cases hE
  rename_i s hs
  obtain rfl:=Zav hs
  split at hE
  case isTrue=>cases hE
  rename_i hsd
  cases hE
  refine Zb8 hop hd (fun _ _ _ _=>rfl) (fun e=>hsd (by simpa[Kd.dep,Place.of] using e)) fun w0 F0 X0 σ a w F fp kk r h hl hdy=>⟨.bool true,hdy,rfl,fun q hq=>by simp[Kd.bdep] at hq⟩
 ·rename_i hk
  split at hE
  case h_2=>cases hE
  rename_i s hs
  obtain rfl:=Zav hs
  split at hE
  case isTrue=>cases hE
  rename_i hsd
  cases hE
  refine Zb8 hop hd (fun _ _ _ _=>rfl) (fun e=>hsd (by simpa[Kd.dep,Place.of] using e)) fun w0 F0 X0 σ a w F fp kk r h hl hdy=>⟨.bool true,hdy,rfl,fun q hq=>by simp[Kd.bdep] at hq⟩
 ·rename_i hk
  split at hE
  case h_2=>cases hE
  rename_i s hs
  obtain rfl:=Zav hs
  split at hE
  case isTrue=>cases hE
  rename_i hsd
  cases hE
  refine Zb8 hop hd (fun _ _ _ _=>rfl) (fun e=>hsd (by simpa[Kd.dep,Place.of] using e)) fun w0 F0 X0 σ a w F fp kk r h hl hdy=>⟨.bool true,hdy,rfl,fun q hq=>by simp[Kd.bdep] at hq⟩
 ·rename_i hk
  split at hE
  case h_2=>cases hE
  rename_i s hs
  obtain rfl:=Zav hs
  split at hE
  case isTrue=>cases hE
  rename_i hsd
  cases hE
  refine Zb8 hop hd (fun _ _ _ _=>rfl) (fun e=>hsd (by simpa[Kd.dep,Place.of] using e)) fun w0 F0 X0 σ a w F fp kk r h hl hdy=>⟨.bool true,hdy,rfl,fun q hq=>by simp[Kd.bdep] at hq⟩
 ·rename_i hk;cases hE
  exact ZfW hop hd hk (by simp) (fun _ _ _ _ _ h=>h.2) rfl
 ·rename_i q hk
  split at hE
  case isTrue=>cases hE
  rename_i hqd
  split at hE
  ·rename_i app e sz hasg hpk
   cases hE
   refine Zmb hop hd rfl fun w0 F0 X0 σ a w F fp kk r y v h hl hdy hgv=> ?_
   obtain ⟨e1,e2⟩:=hgv
   have hal:=h.al' x hl
   rw[hk] at hal
   have e3:tv a.tmps q=a.eval x:=hal
   have hk':kOp κ x=.ali (.slot q):=hk
   refine ⟨e1.symm.trans e3, ?_⟩
   rw[←e2]
   simpa[dynP,dv,hk',Kd.dep,Place.of] using hdy
  ·cases hE
   refine Zb8 hop hd (fun _ _ _ _=>rfl) (fun e=>hqd (by simpa[Kd.dep,Place.of] using e)) fun w0 F0 X0 σ a w F fp kk r h hl hdy=>⟨.bool true,hdy, ?_,fun q hq=>by simp[Kd.bdep] at hq⟩
   have hal:=h.al' x hl
   rw[hk] at hal
   exact hal
 ·rename_i q off hk
  split at hE
  case isTrue=>cases hE
  rename_i hqd
  have hk':kOp κ x=.ali (.cell q off):=hk
  split at hE
  ·rename_i app e sz hasg hpk
   cases hE
   refine Zmb hop hd rfl fun w0 F0 X0 σ a w F fp kk r y v h hl hdy hgv=> ?_
   have hal:=h.al' x hl
   rw[hk] at hal
   obtain ⟨b,hb1,hb2⟩:=hal
   have hdy':(vl σ q).cells[off]?.bind kk=some r:=by simpa[dynC,dv,hk',Kd.dep,Place.of] using hdy
   rcases hgv with ⟨b',xs,g1,g2,g3,g4⟩|⟨t,cs,xs,g1,g2,g3,g4,_⟩|⟨cs,xs,g1,_⟩
   ·simp only at g1 g3
    rw[hb1] at g1
    simp at g1
    subst g1
    rw[hb2] at g2
    rw[g3] at hdy'
    simp only[PV.cells,g4,Option.bind_some] at hdy'
    exact ⟨(Option.some.inj g2).symm,hdy'⟩
   ·simp only at g1
    rw[hb1] at g1
    cases t<;>simp at g1
   ·simp only at g1
    rw[hb1] at g1
    cases g1
  ·split at hE
   case isFalse=>cases hE
   rename_i hbox
   cases hE
   refine Zb8 hop hd (fun _ _ _ _=>rfl) (fun e=>hqd (by simpa[Kd.dep,Place.of] using e)) fun w0 F0 X0 σ a w F fp kk r h hl hdy=>⟨.bool true,hdy, ?_,fun q' hq=> ?_⟩
   ·have hal:=h.al' x hl
    rw[hk] at hal
    exact hal
   ·simp only[Kd.bdep,Option.some.injEq] at hq
    subst hq
    simpa[sv,hk',Kd.dep,Place.of] using hbox
 ·rename_i p sz off hk
  have hk':kOp κ x=.elm p sz off:=hk
  split at hE
  case isTrue=>cases hE
  rename_i hqd
  split at hE
  ·rename_i q
   cases hE
   refine Zb8 hop hd (fun _ _ _ _=>rfl) (fun e=>hqd (by simpa[Kd.dep,Place.of] using e)) fun w0 F0 X0 σ a w F fp kk r h hl hdy=>⟨_,hdy, ?_,fun q' hq=>by simp[Kd.bdep] at hq⟩
   have hal:=h.al' x hl
   rw[hk] at hal
   exact hal
  ·rename_i q oo
   split at hE
   case isFalse=>cases hE
   rename_i hbox
   cases hE
   refine Zb8 hop hd (fun _ _ _ _=>rfl) (fun e=>hqd (by simpa[Kd.dep,Place.of] using e)) fun w0 F0 X0 σ a w F fp kk r h hl hdy=>⟨_,hdy, ?_,fun q' hq=> ?_⟩
   ·have hal:=h.al' x hl
    rw[hk] at hal
    exact hal
   ·simp only[Kd.bdep,Option.some.injEq] at hq
    subst hq
    simpa[sv,hk',Kd.dep,Place.of] using hbox
 ·rename_i q off hk
  have hk':kOp κ x=.bxf q off:=hk
  split at hE
  case isTrue=>cases hE
  rename_i hqd
  split at hE
  case isFalse=>cases hE
  rename_i hbox
  cases hE
  refine Zb8 hop hd (fun _ _ _ _=>rfl) (fun e=>hqd (by simpa[Kd.dep] using e)) fun w0 F0 X0 σ a w F fp kk r h hl hdy=>⟨_,hdy, ?_,fun q' hq=> ?_⟩
  ·have hal:=h.al' x hl
   rw[hk] at hal
   exact hal
  ·simp only[Kd.bdep,Option.some.injEq] at hq
   subst hq
   simpa[sv,hk',Kd.dep,Place.of] using hbox
 ·cases hE
 ·cases hE
 ·cases hE
end
section
variable {R :Type} {P:Program} {T:Tab} {o:Oper} {κ:List Kd} {E:Eff R}
theorem Zsl {x:PV} {b:Bool} (h:asB x=some b):x=.bool b:=by cases x<;>simp[asB] at h;rw[h]
theorem ZoU {c x y:Operand} {d:Nat} (hop:o.op=.pick c x y) (hd:o.dst=some d) (hE:Zma d (sv κ c) (sv κ x) (sv κ y)=some E):ZN P o κ E:=by
 unfold Zma at hE
 split at hE
 case isFalse=>cases hE
 rename_i hv
 cases hE
 simp only[Bool.and_eq_true] at hv
 obtain ⟨⟨h1,h2⟩,h3⟩:=hv
 refine ZaC hd rfl rfl rfl fun w0 F0 X0 σ a w F fp kk r h ht hlv hdy=> ?_
 have hdy':(((asB (dv κ σ c).v).bind fun t=>some (if t then (dv κ σ x).v else (dv κ σ y).v)).bind kk)=some r:=by simpa[hop,Op.operands,Zj,dyn3] using hdy
 obtain ⟨z,hz,hkk⟩:=Option.bind_eq_some_iff.1 hdy'
 obtain ⟨t,ht1,ht2⟩:=Option.bind_eq_some_iff.1 hz
 have hc:=rdS h h1
 rw[Zsl ht1] at hc
 have hcb:=hc.bool_eq
 cases ht2
 refine ⟨_,if t then a.eval x else a.eval y, ?_,hkk, ?_⟩
 ·cases t<;>simp[execOp,hop,hcb,asBool]
 ·cases t
  ·exact rdS h h3
  ·exact rdS h h2
theorem ZqL (hT:TabOk P T) {op:BinOp} {t ty:TypeId} {x y:Operand} {d:Nat} (hop:o.op=.binOp op t x y ty) (hd:o.dst=some d) (hE:ZoT T d op t (sv κ x) (sv κ y)=some E):ZN P o κ E:=by
 unfold ZoT at hE
 split at hE
 case h_2=>cases hE
 rename_i i hi
 obtain ⟨ht⟩:=hT.ty hi
 split at hE
 case isFalse=>cases hE
 rename_i hv
 cases hE
 simp only[Bool.and_eq_true] at hv
 refine ZaC hd rfl rfl rfl fun w0 F0 X0 σ a w F fp kk r h htt hlv hdy=> ?_
 have hdy':((Ze op i.desc (dv κ σ x).v (dv κ σ y).v).bind kk)=some r:=by simpa[hop,Op.operands,Zj,ZaV] using hdy
 obtain ⟨z,hz,hkk⟩:=Option.bind_eq_some_iff.1 hdy'
 obtain ⟨rr,hr1,hr2,hr3⟩:=Ztq (P:=P) (t:=t) (u:=a.eval x) (v:=a.eval y) (w:=w) hz (rdS h hv.1) (rdS h hv.2) (fun e=>by
  rw[ht.hd] at e
  have:=ht.hdesc
  cases hdd:ht.desc<;>rw[hdd] at e<;>simp[ZeR] at e
  rw[←hdd];exact this)
 refine ⟨z,rr, ?_,hkk,hr2⟩
 have hg:=ZdB (P:=P) op t x y (a.eval x) (a.eval y) w hr3
 simp[execOp,hop,hg,hr1]
theorem Zsm {op:UnOp} {t:TypeId} {x:Operand} {d:Nat} (hop:o.op=.unOp op t x) (hd:o.dst=some d) (hE:Zsk d op (sv κ x)=some E):ZN P o κ E:=by
 unfold Zsk at hE
 split at hE
 case isFalse=>cases hE
 rename_i hv
 cases hE
 refine ZaC hd rfl rfl rfl fun w0 F0 X0 σ a w F fp kk r h htt hlv hdy=> ?_
 have hdy':((unV op (dv κ σ x).v).bind kk)=some r:=by simpa[hop,Op.operands,Zj,Zbl] using hdy
 obtain ⟨z,hz,hkk⟩:=Option.bind_eq_some_iff.1 hdy'
 obtain ⟨rr,hr1,hr2⟩:=unV_ok (P:=P) (u:=a.eval x) (w:=w) hz (rdS h hv)
 exact ⟨z,rr,by simp[execOp,hop,hr1],hkk,hr2⟩
theorem Znu (hT:TabOk P T) {t:TypeId} {x i:Operand} {d:Nat} (hop:o.op=.index t x i) (hd:o.dst=some d) (hE:ZjG T d t (sv κ x) (sv κ i)=some E):ZN P o κ E:=by
 unfold ZjG at hE
 split at hE
 case h_2=>cases hE
 rename_i ti hi
 obtain ⟨ht⟩:=hT.ty hi
 split at hE
 case isFalse=>cases hE
 rename_i hv
 cases hE
 simp only[Bool.and_eq_true] at hv
 refine ZaC hd rfl rfl rfl fun w0 F0 X0 σ a w F fp kk r h htt hlv hdy=> ?_
 have hdy':((Zbi (dv κ σ x).v (dv κ σ i).v).bind kk)=some r:=by simpa[hop,Op.operands,Zj,ZaV] using hdy
 obtain ⟨z,hz,hkk⟩:=Option.bind_eq_some_iff.1 hdy'
 have hx:=rdS h hv.2.1
 have hii:=rdS h hv.2.2
 unfold Zbi at hz
 split at hz
 case h_2=>cases hz
 rename_i s k n e1 e2
 rw[e1] at hx
 rw[e2] at hii
 have hx:=hx.str_eq
 have hii:=hii.int_eq
 split at hz
 case isFalse=>cases hz
 rename_i hn
 obtain ⟨b,hb,rfl⟩:=Option.map_eq_some_iff.1 hz
 have hds:P.underlying t=some .string:=by
  have e:=hv.1
  rw[ht.hd] at e
  have:=ht.hdesc
  cases hdd:ht.desc<;>rw[hdd] at e<;>simp[ZeR] at e
  rw[←hdd];exact this
 have hbb:(⟨s.toArray⟩:ByteArray)[n.toNat]?=some b:=by
  obtain ⟨hlt,rfl⟩:=List.getElem?_eq_some_iff.1 hb
  have hlt':n.toNat<(⟨s.toArray⟩:ByteArray).size:=by simpa[ByteArray.size] using hlt
  rw[ByteArray.getElem?_lt' _ _ hlt']
  rfl
 refine ⟨.int .u8 b.toNat,.int .u8 b.toNat, ?_,hkk,.int _ _⟩
 simp[execOp,hop,Instr.index,hx,hii,asIntOf,underlying,hds,hn,hbb]
theorem ZjI {t:TypeId} {e:TypeId} {A:Option Addr} {n c:Nat} {ty:TypeId} (h:P.underlying t=some (.slice e)) (w:World):(Builtin.len_ #[t] ty #[.slice A n c]).run P w=.ok (.int .i64 n) w:=by
 simp[Builtin.len_,underlying,h,goInt]
theorem Zmc {t:TypeId} {s:List UInt8} {ty:TypeId} (h:P.underlying t=some .string) (w:World):(Builtin.len_ #[t] ty #[.string ⟨s.toArray⟩]).run P w=.ok (.int .i64 s.length) w:=by
 rw[run_len_string w t ty _ h]
 simp[ByteArray.size,goInt]
theorem Zai {b:Builtin} {args:Array Operand} {ts:Array TypeId} (hop:o.op=.call {callee:=.builtin b,args:=args,argTypes:=ts}) (ρ:Operand→Value) (w:World):
 ∃cs,(execOp ρ o).run P w=(builtin b ts o.type cs (args.map ρ)).run P w:=by
 refine ⟨args.map fun|.const _=>true|_=>false, ?_⟩
 simp only[execOp,hop,resolve,invoke,Sem.run_bind,Sem.run_pure,Result.andThen]
 rfl
theorem VR.lst_eq {w:World} {F:Nat→Prop} {l:List PV} {v:Value} (h:VR w F (.lst l) v):∃A c,v=.slice A l.length c:=by cases h;exact ⟨_,_,rfl⟩
theorem Zfh.slice_eq {w:World} {F:Nat→Prop} {app:Bool} {e:TypeId} {sz:Nat} {l:List PV} {v:Value} {lb:List Nat} (h:Zfh w F app e sz l v lb):∃A c,v=.slice A l.length c:=by
 rcases h with ⟨rfl,rfl,_⟩|⟨g,cap,cur,fr,rfl,_⟩
 ·exact ⟨_,_,rfl⟩
 ·exact ⟨_,_,rfl⟩
theorem Zal.slice_eq {w:World} {F:Nat→Prop} {app:Bool} {e:TypeId} {sz:Nat} {l:List PV} {v:Value} {lb:List Nat} (h:Zal w F app e sz l v lb):∃A c,v=.slice A l.length c:=by
 unfold Zal at h
 split at h
 ·rcases h with ⟨rfl,rfl,_⟩|⟨g,cap,cur,fr,rfl,_⟩
  ·exact ⟨_,_,rfl⟩
  ·exact ⟨_,_,rfl⟩
 ·rcases h.2 with ⟨rfl,rfl,_⟩|⟨g,cap,cur,fr,rfl,_⟩
  ·exact ⟨_,_,rfl⟩
  ·exact ⟨_,_,rfl⟩
theorem Zal.slice_ne {w:World} {F:Nat→Prop} {app:Bool} {e:TypeId} {sz:Nat} {l:List PV} {v:Value} {lb:List Nat} (h:Zal w F app e sz l v lb) (hne:l≠[]):∃g cap,v=.slice (some ⟨g,0,none⟩) l.length cap:=by
 unfold Zal at h
 split at h
 ·rcases h with ⟨_,h2,_⟩|⟨g,cap,cur,fr,h1,_⟩
  ·exact absurd h2 hne
  ·exact ⟨g,cap,h1⟩
 ·rcases h.2 with ⟨_,h2,_⟩|⟨g,cap,cur,fr,h1,_⟩
  ·exact absurd h2 hne
  ·exact ⟨g,cap,h1⟩
def Znv (κ:List Kd) (σ:List PV) (x:Operand):Option (List PV):=
 let s:=sv κ x
 let d:=dv κ σ x
 if s.isV then (match d.v with|.lst l=>some l|_=>none)
 else match s.k with
  |.ck (.own _ _ _)=>match d.v with|.lst l=>some l|_=>none
  | .ali (.slot _)=>match s.pk with
   |.ck (.own _ _ _)=>match d.pv with|.lst l=>some l|_=>none
   |_=>none
  | .ali (.cell _ off)=>match s.pk.cell off with
   |.own _ _ _=>(d.pv.cells[off]?).bind fun y=>match y with|.lst l=>some l|_=>none
   |_=>none
  |_=>none
end
section
variable {R :Type} {P:Program} {T:Tab} {o:Oper} {κ:List Kd} {E:Eff R}
variable {w0 :World} {F0:Nat→Prop} {X0:List Nat} {σ:List PV} {a:Act} {w:World} {F:Nat→Prop} {fp:Nat→List Nat}
def Z8 (s:SV):Option (Option (Bool×TypeId×Nat)):=
 if s.isV then some none
 else match s.k with
  |.ck (.own a e sz)=>some (some (a,e,sz))
  | .ali (.slot _)=>match s.pk with
   |.ck (.own a e sz)=>some (some (a,e,sz))
   |_=>none
  | .ali (.cell _ off)=>match s.pk.cell off with
   |.own a e sz=>some (some (a,e,sz))
   |_=>none
  |_=>none
def ZaJ (s:SV):Option (Nat×Option Nat):=
 match s.k with
 |.ck (.own _ _ _)=>s.slot.map fun t=>(t,none)
 |.ali (.slot q)=>some (q,none)
 |.ali (.cell q off)=>some (q,some off)
 |_=>none
theorem ZcP {k:Kd} {off:Nat} {a:Bool} {e:TypeId} {sz:Nat} (h:k.cell off=.own a e sz):∃T ks,k=.box T ks∧ks[off]?=some (.own a e sz):=by
 unfold Kd.cell at h
 split at h
 ·rename_i T ks
  cases hk:ks[off]?<;>rw[hk] at h<;>simp at h
  exact ⟨T,ks,rfl,by rw[h] at hk;exact hk⟩
 ·cases h
theorem ZbA (h:St w0 F0 X0 κ σ a.tmps w F fp) {x:Operand} (hlx:ZaM κ σ x) {l:List PV} {app:Bool} {e:TypeId} {sz:Nat} (hl:Znv κ σ x=some l) (hk:Z8 (sv κ x)=some (some (app,e,sz))):
 ∃(q:Nat) (i:Option Nat) (lb:List Nat),ZaJ (sv κ x)=some (q,i)∧Zal w F app e sz l (a.eval x) lb∧lb.Nodup∧(∀b∈lb,b∈fp q):=by
 unfold Znv at hl
 unfold Z8 at hk
 dsimp only at hl
 split at hk
 case isTrue=>cases hk
 rename_i hv
 rw[if_neg hv] at hl
 split at hk
 ·rename_i a' e' sz' hkk
  cases hk
  rw[hkk] at hl
  dsimp only at hl
  cases x with
  | tmp t=>
   obtain ⟨lb,hn,hsub,hsr⟩:=h.sr t
   have hk':kd κ t=.ck (.own app e sz):=hkk
   rw[hk'] at hsr
   obtain ⟨l',e1,hrow⟩:=hsr
   have e1':(dv κ σ (.tmp t)).v=.lst l':=e1
   rw[e1'] at hl
   cases hl
   refine ⟨t,none,lb, ?_,hrow,hn,hsub⟩
   unfold ZaJ;rw[hkk];rfl
  |const v=>simp only[sv,kOp,Kd.ck.injEq] at hkk;unfold ckOf at hkk;split at hkk<;>cases hkk
  |global g=>simp[sv,kOp] at hkk
  |func f=>simp[sv,kOp] at hkk
 ·rename_i q hkk
  split at hk
  case h_2=>cases hk
  rename_i a' e' sz' hpk
  cases hk
  have hk':kOp κ x=.ali (.slot q):=hkk
  have hq:kd κ q=.ck (.own app e sz):=by simpa[sv,hk',Kd.dep,Place.of] using hpk
  rw[hkk] at hl
  dsimp only at hl
  rw[hpk] at hl
  dsimp only at hl
  obtain ⟨lb,hn,hsub,hsr⟩:=h.sr q
  rw[hq] at hsr
  obtain ⟨l',e1,hrow⟩:=hsr
  have e2:(dv κ σ x).pv=.lst l':=by simpa[dv,hk',Kd.dep,Place.of] using e1
  rw[e2] at hl
  cases hl
  have hal:=h.al' x hlx
  rw[hkk] at hal
  have e3:tv a.tmps q=a.eval x:=hal
  rw[e3] at hrow
  refine ⟨q,none,lb, ?_,hrow,hn,hsub⟩
  unfold ZaJ;rw[hkk]
 ·rename_i q off hkk
  split at hk
  case h_2=>cases hk
  rename_i a' e' sz' hpk
  cases hk
  have hk':kOp κ x=.ali (.cell q off):=hkk
  rw[hkk] at hl
  dsimp only at hl
  rw[hpk] at hl
  dsimp only at hl
  obtain ⟨TT,ks,hbox,hks⟩:=ZcP hpk
  have hq:kd κ q=.box TT ks:=by simpa[sv,hk',Kd.dep,Place.of] using hbox
  obtain ⟨lb,hn,hsub,hsr⟩:=h.sr q
  rw[hq] at hsr
  obtain ⟨b0,cs,xs,fps,ev,ex,hheap,hgrp,rfl⟩:=hsr
  obtain ⟨y,v,lb',hx,hv',hfi,hcr⟩:=hgrp.ks_at hks
  obtain ⟨l',rfl,hrow⟩:=hcr
  have e2:(dv κ σ x).pv=.agg xs:=by simpa[dv,hk',Kd.dep,Place.of] using ex
  rw[e2] at hl
  simp only[PV.cells,hx,Option.bind_some] at hl
  cases hl
  have hal:=h.al' x hlx
  rw[hkk] at hal
  obtain ⟨b,hb1,hb2⟩:=hal
  rw[ev] at hb1
  simp at hb1
  subst hb1
  rw[cell_of_row w b0 off cs TT (0,0) hheap] at hb2
  have e3:v=a.eval x:=by
   have:cs[off]?=some v:=by simpa using hv'
   rw[this] at hb2
   exact Option.some.inj hb2
  rw[e3] at hrow
  refine ⟨q,some off,lb', ?_,hrow,GrpR.flat_nodup_at (one:=true) (ks:=ks) (xs:=xs) (vs:=cs.toList) (List.nodup_cons.1 hn).2 hfi,fun b hb=>hsub b (List.mem_cons_of_mem _ (List.mem_flatten.2 ⟨lb',List.mem_of_getElem? hfi,hb⟩))⟩
  unfold ZaJ;rw[hkk]
 ·cases hk
theorem Zld (h:St w0 F0 X0 κ σ a.tmps w F fp) {x:Operand} (hlx:ZaM κ σ x) {l:List PV} (hl:Znv κ σ x=some l):∃A c,a.eval x=.slice A l.length c:=by
 by_cases hv:(sv κ x).isV=true
 ·have hx:=rdS h hv
  unfold Znv at hl
  dsimp only at hl
  rw[if_pos hv] at hl
  split at hl
  ·rename_i l' e1;cases hl;rw[e1] at hx;exact hx.lst_eq
  ·cases hl
 ·have hk:∃k,Z8 (sv κ x)=some (some k):=by
   unfold Znv at hl
   unfold Z8
   dsimp only at hl
   rw[if_neg hv] at hl⊢
   split at hl
   ·exact ⟨_,rfl⟩
   ·split at hl
    ·exact ⟨_,rfl⟩
    ·cases hl
   ·split at hl
    ·exact ⟨_,rfl⟩
    ·cases hl
   ·cases hl
  obtain ⟨⟨app,e,sz⟩,hk⟩:=hk
  obtain ⟨q,i,lb,h1,h2,h3,h4⟩:=ZbA h hlx hl hk
  exact h2.slice_eq
def Zh (s:SV) (d:DV):Option (List PV):=
 if s.isV then (match d.v with|.lst l=>some l|_=>none)
 else match s.k with
  |.ck (.own _ _ _)=>match d.v with|.lst l=>some l|_=>none
  | .ali (.slot _)=>match s.pk with
   |.ck (.own _ _ _)=>match d.pv with|.lst l=>some l|_=>none
   |_=>none
  | .ali (.cell _ off)=>match s.pk.cell off with
   |.own _ _ _=>(d.pv.cells[off]?).bind fun y=>match y with|.lst l=>some l|_=>none
   |_=>none
  |_=>none
def ZX :PV→Option PV
 |.str s=>some (.int .i64 s.length)
 |_=>none
def Zmd (T:Tab) (d:Nat) (t:TypeId) (x:SV):Option (Eff R):=
 match T.lookup t with
 | some ti=>
  match ti.desc with
  |.str=>if x.isV then some (Zj d (.ck .val) (Zbl fun y=>ZX y.v)) else none
  |.slice _=>if (Z8 x).isSome then some (Zj d (.ck .val) (Zbl fun y=>(Zh x y).map fun l=>.int .i64 l.length)) else none
  |_=>none
 |none=>none
theorem ZqM (hT:TabOk P T) {t:TypeId} {x f:Operand} {d:Nat} (hop:o.op=.call {callee:=.builtin .len,args:= #[x],argTypes:= #[t]}) (hd:o.dst=some d) (hE:Zmd T d t (sv κ x)=some E):ZN P o κ E:=by
 unfold Zmd at hE
 split at hE
 case h_2=>cases hE
 rename_i ti hi
 obtain ⟨ht⟩:=hT.ty hi
 have hdd:=ht.hd
 have hu:=ht.hdesc
 split at hE
 ·rename_i hds
  split at hE
  case isFalse=>cases hE
  rename_i hv
  cases hE
  refine ZaC hd rfl rfl rfl fun w0 F0 X0 σ a w F fp kk r h htt hlv hdy=> ?_
  have hdy':((ZX (dv κ σ x).v).bind kk)=some r:=by simpa[hop,Op.operands,Call.operands,Zj,Zbl] using hdy
  obtain ⟨z,hz,hkk⟩:=Option.bind_eq_some_iff.1 hdy'
  have hx:=rdS h hv
  unfold ZX at hz
  split at hz
  case h_2=>cases hz
  rename_i s e1
  cases hz
  rw[e1] at hx
  have hx:=hx.str_eq
  have hus:P.underlying t=some .string:=by
   rw[hds] at hdd
   cases hd2:ht.desc<;>rw[hd2] at hdd<;>simp[ZeR] at hdd
   rw[←hd2];exact hu
  refine ⟨_,.int .i64 s.length, ?_,hkk,.int _ _⟩
  obtain ⟨cs,hcs⟩:=Zai (P:=P) hop a.eval w
  rw[hcs]
  simp[builtin,hx,Zmc hus]
 ·rename_i ee hds
  split at hE
  case isFalse=>cases hE
  cases hE
  refine ZaC hd rfl rfl rfl fun w0 F0 X0 σ a w F fp kk r h htt hlv hdy=> ?_
  have hdy':(((Zh (sv κ x) (dv κ σ x)).map fun l=>PV.int .i64 l.length).bind kk)=some r:=by simpa[hop,Op.operands,Call.operands,Zj,Zbl] using hdy
  obtain ⟨z,hz,hkk⟩:=Option.bind_eq_some_iff.1 hdy'
  obtain ⟨l,hl,rfl⟩:=Option.map_eq_some_iff.1 hz
  obtain ⟨A,c,hx⟩:=Zld h (x:=x) (Zc hlv (by rw[hop];simp[Op.operands,Call.operands])) (l:=l) hl
  have hus:∃e,P.underlying t=some (.slice e):=by
   rw[hds] at hdd
   cases hd2:ht.desc<;>rw[hd2] at hdd<;>simp[ZeR] at hdd
   exact ⟨_,by rw[←hd2];exact hu⟩
  obtain ⟨e,hus⟩:=hus
  refine ⟨_,.int .i64 l.length, ?_,hkk,.int _ _⟩
  obtain ⟨cs,hcs⟩:=Zai (P:=P) hop a.eval w
  rw[hcs]
  simp[builtin,hx,ZjI hus]
 ·cases hE
end
def Zd (n:Nat):PV→Option (List PV)
 |.agg l=>if l.length=n then some l else none
 |.undef=>none
 |.tup _=>none
 |x=>if n=1 then some [x] else none
theorem Za8 {n:Nat} {x:PV} {l:List PV} (h:Zd n x=some l):l=x.cells∧l.length=n∧x.width=n∧x≠.undef:=by
 cases x<;>simp[Zd] at h<;>obtain ⟨rfl,rfl⟩:=h<;>simp[PV.cells,PV.width]
def ZoV {R:Type} (T:Tab) (d:Nat) (t:TypeId) (x:SV):Option (Eff R):=
 match T.lookup t with
 |some ti=>if x.isV then some (Zj d (.box t (List.replicate ti.size .val)) (Zbl fun x=>(Zd ti.size x.v).map .agg)) else none
 |none=>none
def ZjJ {R:Type} (T:Tab) (d:Nat) (t:TypeId):Option (Eff R):=
 match T.lookup t with
 |some ti=>some {gh:=[],tgt:=d,put:=true,k:=.box t (ti.zero.map ZC.ck),cut:=.no,dyn:=fun _ kk=>kk (.agg (ti.zero.map ZC.pv))}
 |none=>none
def SV.boxAt (a:SV):Option (Nat×List CK×Nat):=
 match a.k with
 |.box _ ks=>a.slot.map fun s=>(s,ks,0)
 |.bxf q off=>match a.pk with|.box _ ks=>some (q,ks,off)|_=>none
 |.ali (.slot q)=>match a.pk with|.box _ ks=>some (q,ks,0)|_=>none
 |_=>none
def ZcQ (a:SV) (d:DV):List PV:=
 match a.k with
 |.box _ _=>d.v.cells
 |_=>d.pv.cells
def Zbw (a:SV) (d:DV):Option (List PV):=
 match a.k with
 | .elm (.slot _) _ _=>match a.pk with
  |.ck (.own _ _ _)=>match d.pv with|.lst l=>some l|_=>none
  |_=>none
 | .elm (.cell _ off) _ _=>match a.pk.cell off with
  |.own _ _ _=>(d.pv.cells[off]?).bind fun y=>match y with|.lst l=>some l|_=>none
  |_=>none
 |_=>none
def Zhj (a:SV) (d:DV):Option PV:=
 match d.v with
 |.int _ i=>(Zbw a d).bind fun l=>l[i.toNat]?
 |_=>none
def Zfj (a:SV):Option (Bool×TypeId×Nat):=
 match a.k with
 | .elm (.slot _) _ _=>match a.pk with
  |.ck (.own a e sz)=>some (a,e,sz)
  |_=>none
 | .elm (.cell _ off) _ _=>match a.pk.cell off with
  |.own a e sz=>some (a,e,sz)
  |_=>none
 |_=>none
def ckV :CK→Bool
 |.val|.nil=>true
 |_=>false
def Zb (agg:Bool) (off n:Nat) (l:List PV):Option PV:=
 if agg then (if off+n≤l.length then some (.agg ((l.drop off).take n)) else none) else l[off]?
def Zi0 {R:Type} (T:Tab) (d:Nat) (t:TypeId) (a:SV):Option (Eff R):=
 match T.lookup t with
 |none=>none
 | some ti=>
  match a.boxAt with
  | some (q,ks,off)=>
   if ti.agg then
    if ((ks.drop off).take ti.size).all ckV then some (Zj d (.ck .val) (Zbl fun x=>Zb true off ti.size (ZcQ a x))) else none
   else match ks[off]? with
    |some .val=>some (Zj d (.ck .val) (Zbl fun x=>Zb false off 1 (ZcQ a x)))
    |some .nil=>some (Zj d (.ck .nil) (Zbl fun x=>Zb false off 1 (ZcQ a x)))
    |some (.own _ _ _)=>if q=d then none else some (Zj d (.ali (.cell q off)) ZiL)
    |_=>none
  | none=>
   match a.k with
   |.ipt=>some (Zj d (.ck .val) (Zbl fun x=>Zb ti.agg 0 ti.size x.v.cells))
   |.elm _ sz off=>if (Zfj a).map (·.2.2)=some sz∧sz<dB then some (Zj d (.ck .val) (Zbl fun x=>(Zhj a x).bind fun y=>Zb ti.agg off ti.size y.cells)) else none
   |_=>none
def Zcw {R:Type} (T:Tab) (d:Nat) (t:TypeId) (f:Nat) (a:SV):Option (Eff R):=
 match T.lookup t with
 |none=>none
 | some ti=>
  match ti.flds[f]? with
  |none=>none
  | some (fo,ft)=>
   match T.lookup ft with
   |none=>none
   | some fi=>
    if fi.size=0∨ti.desc≠.struct then none else
    match a.boxAt with
    |some (q,ks,off)=>if q=d then none else some (Zj d (.bxf q (off+fo)) ZiL)
    | none=>
     match a.k with
     |.ipt=>some (Zj d .ipt (Zbl fun x=>some (.agg (x.v.cells.drop fo))))
     |.elm (.slot q) sz off=>if q=d then none else some (Zj d (.elm (.slot q) sz (off+fo)) Zfi)
     |.elm (.cell q oo) sz off=>if q=d then none else if a.pk.isBox then some (Zj d (.elm (.cell q oo) sz (off+fo)) Zfi) else none
     |_=>none
def ZdE {R:Type} (d:Nat) (a:SV):Option (Eff R):=
 match a.boxAt with
 |some (q,ks,off)=>if q=d then none else some (Zj d (.bxf q off) ZiL)
 | none=>match a.k with
  |.ipt=>some (Zj d .ipt Zfi)
  |_=>none
def Zz (x i:PV):Option PV:=
 match x,i with
 |.lst l,.int _ n=>if 0≤n then l[n.toNat]? else none
 |_,_=>none
def Zfw (l:List PV):PV→Option PV
 |.int _ n=>if 0≤n∧n<l.length then some (.int .i64 (n.toNat:Nat)) else none
 |_=>none
def ZoW {R:Type} (T:Tab) (d:Nat) (t:TypeId) (x i:SV):Option (Eff R):=
 match T.lookup t with
 |none=>none
 | some ti=>
  match ti.desc with
  | .slice e=>
   match T.lookup e with
   |none=>none
   | some te=>
    if i.isV then
     if x.isV then some (Zj d .ipt (ZaV fun x i=>(Zz x.v i.v).bind fun y=>(Zd te.size y).map .agg))
     else match Z8 x,ZaJ x with
      | some (some (_,_,sz)),some (q,none)=>if q=d∨(sz≠te.size∧sz<dB) then none else
       some (Zj d (.elm (.slot q) te.size 0) (ZaV fun y j=>(Zh x y).bind fun l=>Zfw l j.v))
      | some (some (_,_,sz)),some (q,some off)=>if q=d∨(sz≠te.size∧sz<dB) then none else
       some (Zj d (.elm (.cell q off) te.size 0) (ZaV fun y j=>(Zh x y).bind fun l=>Zfw l j.v))
      |_,_=>none
    else none
  |_=>none
section
variable {R :Type} {P:Program} {T:Tab} {o:Oper} {κ:List Kd} {E:Eff R}
variable {w0 :World} {F0:Nat→Prop} {X0:List Nat} {σ:List PV} {a:Act} {w:World} {F:Nat→Prop} {fp:Nat→List Nat}
theorem Zhk {one:Bool}:∀(xs:List PV) (vs:List Value),xs.length=vs.length→(∀(i:Nat) (y:PV),xs[i]?=some y→y.one=true∧VR w F y (vs.getD i Go.undef))→GrpR w F one (List.replicate xs.length .val) xs vs (List.replicate xs.length [])
 |[],[],_,_=>.nil
 | x::xs,v::vs,hl,h=>by
  simp only[List.length_cons,List.replicate_succ]
  refine .cons ⟨(h 0 x rfl).2,rfl⟩ (fun _=>(h 0 x rfl).1) (Zhk xs vs (by simpa using hl) fun i y hy=> ?_)
  simpa using h (i+1) y (by simpa using hy)
theorem Zao (n:Nat):(List.replicate n ([]:List Nat)).flatten=[]:=by induction n<;>simp_all [List.replicate_succ]
theorem Znw {one:Bool}:∀(zs:List ZC) (vs:List Value),vs.map ZeQ=zs→GrpR w F one (zs.map ZC.ck) (zs.map ZC.pv) vs (List.replicate zs.length [])
 |[],[],_=>.nil
 | z::zs,v::vs,h=>by
  simp only[List.map_cons,List.cons.injEq] at h
  simp only[List.map_cons,List.length_cons,List.replicate_succ]
  obtain ⟨rfl,h2⟩:=h
  exact .cons (Zsi v) (fun _=>ZjE _) (Znw zs vs h2)
 |[],_::_,h=>by simp at h
 |_::_,[],h=>by simp at h
theorem Zex {t:TypeId} {ti:TI} (ht:TyOk P t ti) (hagg:ti.agg=true) {b off:Nat} (cs:List Value) (hl:cs.length=ti.size) (h:∀(j:Nat) (v:Value),cs[j]?=some v→w.cell? ⟨b,off+j,none⟩=some v):
 (Instr.loadAt t (.pointer (some ⟨b,off,none⟩))).run P w=.ok (.agg cs.toArray) w:=by
 have h1:=ht.run_isAgg w
 have h2:=ht.run_sizeOf w
 have h3:=run_loadCells_list (P:=P) (w:=w) ⟨b,off,none⟩ cs (fun j v hj=>by rw[Addr.add_lit];exact h j v hj)
 rw[hl] at h3
 simp[Instr.loadAt,Instr.sureAddr,loadVar,h1,hagg,h2,h3]
theorem Zhl {t:TypeId} {ti:TI} (ht:TyOk P t ti) (hagg:ti.agg=false) {b off:Nat} {v:Value} (h:w.cell? ⟨b,off,none⟩=some v):(Instr.loadAt t (.pointer (some ⟨b,off,none⟩))).run P w=.ok v w:=by
 have h1:=ht.run_isAgg w
 simp[Instr.loadAt,Instr.sureAddr,loadVar,h1,hagg,load,Sem.run,h]
theorem ZfX {t:TypeId} {ti:TI} (ht:TyOk P t ti) {b base:Nat} {l:List PV} {z:PV} {off:Nat} (hz:Zb ti.agg off ti.size l=some z)
 (hc:∀(j:Nat) (y:PV),l[j]?=some y→(ti.agg=true→off≤j∧j<off+ti.size)→(ti.agg=false→j=off)→∃c,w.cell? ⟨b,base+j,none⟩=some c∧VR w F y c∧y.one=true):∃v,(Instr.loadAt t (.pointer (some ⟨b,base+off,none⟩))).run P w=.ok v w∧VR w F z v:=by
 unfold Zb at hz
 cases hagg:ti.agg
 ·rw[hagg] at hz
  simp only[Bool.false_eq_true,if_false] at hz
  obtain ⟨c,h1,h2,h3⟩:=hc off z hz (fun e=>by rw[hagg] at e;cases e) (fun _=>rfl)
  exact ⟨c,Zhl ht hagg h1,h2⟩
 ·rw [hagg] at hz
  simp only[if_true] at hz
  split at hz
  case isFalse=>cases hz
  rename_i hle
  cases hz
  have hex:∀j,∃c:Value,∀y,l[off+j]?=some y→j<ti.size→w.cell? ⟨b,base+(off+j),none⟩=some c∧VR w F y c∧y.one=true:=by
   intro j
   by_cases hj:j<ti.size
   ·cases hy:l[off+j]? with
    |none=>exact ⟨Go.undef,fun y h=>by cases h⟩
    | some y=>
     obtain ⟨c,h1,h2,h3⟩:=hc (off+j) y hy (fun _=>⟨by omega,by omega⟩) (fun e=>by rw[hagg] at e;cases e)
     exact ⟨c,fun y' hy' _=>by cases hy';exact ⟨h1,h2,h3⟩⟩
   ·exact ⟨Go.undef,fun y _ h=>absurd h hj⟩
  let f:Nat→Value:=fun j=>Classical.choose (hex j)
  have hf:∀j y,l[off+j]?=some y→j<ti.size→w.cell? ⟨b,base+(off+j),none⟩=some (f j)∧VR w F y (f j)∧y.one=true:=fun j y hy hj=>Classical.choose_spec (hex j) y hy hj
  have hlen:((List.range ti.size).map f).length=ti.size:=by simp
  refine ⟨.agg ((List.range ti.size).map f).toArray,Zex ht hagg _ hlen (fun j v hj=> ?_),VR.of_cells (by simp;omega) fun i x hx=> ?_⟩
  ·have hjs:j<ti.size:=by have:=(List.getElem?_eq_some_iff.1 hj).1;simpa using this
   simp[hjs] at hj
   subst hj
   obtain ⟨y,hy⟩:∃y,l[off+j]?=some y:=⟨l[off+j]'(by omega),List.getElem?_eq_getElem _⟩
   rw[Nat.add_assoc]
   exact (hf j y hy hjs).1
  ·have hi:i<ti.size:=by have:=(List.getElem?_eq_some_iff.1 hx).1;simp at this;omega
   have hx':l[off+i]?=some x:=by
    rw[List.getElem?_take,if_pos hi,List.getElem?_drop] at hx
    exact hx
   obtain ⟨_,h2,h3⟩:=hf i x hx' hi
   refine ⟨h3, ?_⟩
   have:(((List.range ti.size).map f).toArray).getD i Go.undef=f i:=by simp[Array.getD,hi]
   rw[this]
   exact h2
theorem Zda (h:St w0 F0 X0 κ σ a.tmps w F fp) {x:Operand} (hlx:ZaM κ σ x) {q off:Nat} {ks:List CK} (hb:(sv κ x).boxAt=some (q,ks,off)):
 ∃ (b:Nat) (cs:Array Value) (T:TypeId) (xs:List PV) (fps:List (List Nat)) (l:List Nat),kd κ q=.box T ks∧vl σ q=.agg xs∧ZcQ (sv κ x) (dv κ σ x)=xs∧tv a.tmps q=.pointer (some ⟨b,0,none⟩)∧a.eval x=.pointer (some ⟨b,off,none⟩)∧
  w.heap[b]?=some (.cells cs T (0,0))∧GrpR w F true ks xs cs.toList fps∧(b::fps.flatten).Nodup∧(∀c∈b::fps.flatten,c∈fp q):=by
 have key:∀q T ks,kd κ q=.box T ks→∃(b:Nat) (cs:Array Value) (xs:List PV) (fps:List (List Nat)),vl σ q=.agg xs∧tv a.tmps q=.pointer (some ⟨b,0,none⟩)∧w.heap[b]?=some (.cells cs T (0,0))∧GrpR w F true ks xs cs.toList fps∧(b::fps.flatten).Nodup∧(∀c∈b::fps.flatten,c∈fp q):=by
  intro q T ks hk
  obtain ⟨l,hn,hs,hsr⟩:=h.sr q
  rw[hk] at hsr
  obtain ⟨b,cs,xs,fps,e1,e2,e3,e4,rfl⟩:=hsr
  exact ⟨b,cs,xs,fps,e2,e1,e3,e4,hn,hs⟩
 unfold SV.boxAt at hb
 split at hb
 ·rename_i T ks' hk
  obtain ⟨s,hs,e⟩:=Option.map_eq_some_iff.1 hb
  cases e
  obtain rfl:=Zav hs
  have hk':kd κ q=.box T ks:=hk
  obtain ⟨b,cs,xs,fps,e1,e2,e3,e4,e5,e6⟩:=key q T ks hk'
  refine ⟨b,cs,T,xs,fps,[],hk',e1, ?_,e2,e2,e3,e4,e5,e6⟩
  have:(dv κ σ (.tmp q)).v=.agg xs:=e1
  unfold ZcQ;rw[hk];dsimp only;rw[this];rfl
 ·rename_i q' off' hk
  split at hb
  case h_2=>cases hb
  rename_i T ks' hpk
  cases hb
  have hk':kOp κ x=.bxf q off:=hk
  have hq:kd κ q=.box T ks:=by simpa[sv,hk',Kd.dep] using hpk
  obtain ⟨b,cs,xs,fps,e1,e2,e3,e4,e5,e6⟩:=key q T ks hq
  have hal:=h.al' x hlx
  rw[hk] at hal
  obtain ⟨b',h1,h2⟩:=hal
  rw[e2] at h1
  simp at h1
  subst h1
  refine ⟨b,cs,T,xs,fps,[],hq,e1, ?_,e2,h2,e3,e4,e5,e6⟩
  have:(dv κ σ x).pv=.agg xs:=by simpa[dv,hk',Kd.dep] using e1
  unfold ZcQ;rw[hk];dsimp only;rw[this];rfl
 ·rename_i q' hk
  split at hb
  case h_2=>cases hb
  rename_i T ks' hpk
  cases hb
  have hk':kOp κ x=.ali (.slot q):=hk
  have hq:kd κ q=.box T ks:=by simpa[sv,hk',Kd.dep,Place.of] using hpk
  obtain ⟨b,cs,xs,fps,e1,e2,e3,e4,e5,e6⟩:=key q T ks hq
  have hal:=h.al' x hlx
  rw[hk] at hal
  have e7:tv a.tmps q=a.eval x:=hal
  refine ⟨b,cs,T,xs,fps,[],hq,e1, ?_,e2,by rw[←e7];exact e2,e3,e4,e5,e6⟩
  have:(dv κ σ x).pv=.agg xs:=by simpa[dv,hk',Kd.dep,Place.of] using e1
  unfold ZcQ;rw[hk];dsimp only;rw[this];rfl
 ·cases hb
theorem ZqN (hT:TabOk P T) {t:TypeId} {x:Operand} {d:Nat} (hop:o.op=.box t x) (hd:o.dst=some d) (hE:ZoV T d t (sv κ x)=some E):ZN P o κ E:=by
 unfold ZoV at hE
 split at hE
 case h_2=>cases hE
 rename_i ti hi
 split at hE
 case isFalse=>cases hE
 rename_i hv
 cases hE
 refine ZJ hd rfl rfl fun w0 F0 X0 σ a w F fp kk r h ht hlv hdy=> ?_
 have hdy':(((Zd ti.size (dv κ σ x).v).map PV.agg).bind kk)=some r:=by simpa[hop,Op.operands,Zj,Zbl] using hdy
 obtain ⟨z,hz,hkk⟩:=Option.bind_eq_some_iff.1 hdy'
 obtain ⟨l,hl,rfl⟩:=Option.map_eq_some_iff.1 hz
 obtain ⟨rfl,h1,h2,h3⟩:=Za8 hl
 have hx:=rdS h hv
 have hA:=(Adds.refl w h.fl).alloc (.cells (a.eval x).cells t)
 have hx':=hx.keep (hA.stays h.fl)
 obtain ⟨c1,c2⟩:=hx'.cells h3
 have hrun:(execOp a.eval o).run P w=.ok (.value (.pointer (some ⟨w.heap.size,0,none⟩))) (w.alloc (.cells (a.eval x).cells t)):=by
  simp[execOp,hop,Instr.box,newVar,newRow]
 have hlen:(dv κ σ x).v.cells.length=(a.eval x).cells.toList.length:=by rw[PV.length_cells];simpa using c1
 have hg:=Zhk (w:=w.alloc (.cells (a.eval x).cells t)) (F:=F) (one:=true) (dv κ σ x).v.cells (a.eval x).cells.toList hlen (fun i y hy=>by
  obtain ⟨e1,e2⟩:=c2 i y hy
  refine ⟨e1, ?_⟩
  have:(a.eval x).cells.toList.getD i Go.undef=(a.eval x).cells.getD i Go.undef:=by simp[List.getD,Array.getD_eq_getD_getElem?]
  rw[this];exact e2)
 rw[h1] at hg
 refine ⟨_,_,_,F,[w.heap.size],hrun,hkk,hA,by simp,⟨w.heap.size,(a.eval x).cells,_,_,rfl,rfl,heap_alloc_new w _,hg,by rw[Zao]⟩,fun b hb=> ?_,fun _=>trivial,fun q hq=>by simp[Zj,Kd.bdep] at hq⟩
 simp at hb
 subst hb
 exact ⟨Nat.le_refl _,by simp,fun hc=>by have:=h.fl _ hc;omega⟩
theorem Znx (hT:TabOk P T) {t:TypeId} {d:Nat} (hop:o.op=.alloc t) (hd:o.dst=some d) (hE:ZjJ T d t=some E):ZN P o κ E:=by
 unfold ZjJ at hE
 split at hE
 case h_2=>cases hE
 rename_i ti hi
 obtain ⟨ht⟩:=hT.ty hi
 cases hE
 refine ZJ hd rfl rfl fun w0 F0 X0 σ a w F fp kk r h htt hlv hdy=> ?_
 have hA:=(Adds.refl w h.fl).alloc (.cells ht.zv.cells t)
 have hz:=ht.run_zero w
 have hrun:(execOp a.eval o).run P w=.ok (.value (.pointer (some ⟨w.heap.size,0,none⟩))) (w.alloc (.cells ht.zv.cells t)):=by
  simp[execOp,hop,Instr.alloc,hz,newVar,newRow]
 have hg:=Znw (w:=w.alloc (.cells ht.zv.cells t)) (F:=F) (one:=true) ti.zero ht.zv.cells.toList ht.hzero.symm
 refine ⟨_,_,_,F,[w.heap.size],hrun,hdy,hA,by simp,⟨w.heap.size,ht.zv.cells,_,_,rfl,rfl,heap_alloc_new w _,hg,by rw[Zao]⟩,fun b hb=> ?_,fun _=>trivial,fun q hq=>by simp[Kd.bdep] at hq⟩
 simp at hb
 subst hb
 exact ⟨Nat.le_refl _,by simp,fun hc=>by have:=h.fl _ hc;omega⟩
end
section
variable {R :Type} {P:Program} {T:Tab} {o:Oper} {κ:List Kd} {E:Eff R}
variable {w0 :World} {F0:Nat→Prop} {X0:List Nat} {σ:List PV} {a:Act} {w:World} {F:Nat→Prop} {fp:Nat→List Nat}
theorem ZbW {t:TypeId} {x:Operand} (hop:o.op=.load t x) {ρ:Operand→Value} {v:Value} (h:(Instr.loadAt t (ρ x)).run P w=.ok v w):(execOp ρ o).run P w=.ok (.value v) w:=by
 simp[execOp,hop,h]
theorem ZfY (h:St w0 F0 X0 κ σ a.tmps w F fp) {x:Operand} (hlx:ZaM κ σ x) {p:Place} {sz off:Nat} {l:List PV} {app:Bool} {e:TypeId} {sz':Nat} (hk:(sv κ x).k=.elm p sz off) (hl:Zbw (sv κ x) (dv κ σ x)=some l) (hK:Zfj (sv κ x)=some (app,e,sz')) (hfl:ZgB sz'=none):
 ∃ (i n cap g:Nat) (cur:Array Value) (fr:Nat×Nat) (lb:List Nat),(dv κ σ x).v=.int .i64 i∧i<l.length∧a.eval x=.pointer (some ⟨g,i * sz+off,none⟩)∧w.heap[g]?=some (.cells cur e fr)∧(fr.2≤fr.1∨cur.size≤fr.1)∧(app=true→fr=(0,0))∧
  l.length≤cap∧cap≤maxLen∧cur.size=cap * sz'∧Zb3 w F sz' l cur∧g∈fp p.of∧PlV a.tmps w p (.slice (some ⟨g,0,none⟩) l.length cap):=by
 have hal:=h.al' x hlx
 rw[hk] at hal
 obtain ⟨i,g,n,cap,e1,e2,e3,e4⟩:=hal
 have row:∀{v:Value} {lb:List Nat},Zal w F app e sz' l v lb→(∀b∈lb,b∈fp p.of)→v=.slice (some ⟨g,0,none⟩) n cap→∃(n cap:Nat) (cur:Array Value) (fr:Nat×Nat) (lb:List Nat),i<l.length∧w.heap[g]?=some (.cells cur e fr)∧(fr.2≤fr.1∨cur.size≤fr.1)∧(app=true→fr=(0,0))∧l.length≤cap∧cap≤maxLen∧cur.size=cap * sz'∧Zb3 w F sz' l cur∧g∈fp p.of∧PlV a.tmps w p (.slice (some ⟨g,0,none⟩) l.length cap):=by
  intro v lb hr hlb hv
  rw[Zr hfl] at hr
  rcases hr with ⟨rfl,rfl,rfl⟩|⟨g',cap',cur,fr,rfl,rfl,h3,h4,h5,h6,h7,h8,h9⟩
  ·simp at hv
  ·simp at hv
   obtain ⟨rfl,rfl,rfl⟩:=hv
   exact ⟨l.length,cap',cur,fr,[g'],e2,h3,h5,h4,h6,h7,h8,h9,hlb g' (by simp),e3⟩
 unfold Zbw at hl
 unfold Zfj at hK
 rw[hk] at hl hK
 cases p with
 | slot q=>
  dsimp only at hl hK
  have hk':kOp κ x=.elm (.slot q) sz off:=hk
  split at hK
  case h_2=>cases hK
  rename_i a' e' s' hpk
  cases hK
  rw[hpk] at hl
  dsimp only at hl
  have hq:kd κ q=.ck (.own app e sz'):=by simpa[sv,hk',Kd.dep,Place.of] using hpk
  obtain ⟨lb,hn,hsub,hsr⟩:=h.sr q
  rw[hq] at hsr
  obtain ⟨l',ex,hrow⟩:=hsr
  have e5:(dv κ σ x).pv=.lst l':=by simpa[dv,hk',Kd.dep,Place.of] using ex
  rw[e5] at hl
  cases hl
  obtain ⟨n',cap',cur,fr,lb',h1,h2,h3,h4,h5,h6,h7,h8,h9,h10⟩:=row hrow hsub e3
  exact ⟨i,n',cap',g,cur,fr,lb',e1,h1,e4,h2,h3,h4,h5,h6,h7,h8,h9,h10⟩
 | cell q oo=>
  dsimp only at hl hK
  have hk':kOp κ x=.elm (.cell q oo) sz off:=hk
  split at hK
  case h_2=>cases hK
  rename_i a' e' s' hpk
  cases hK
  rw[hpk] at hl
  dsimp only at hl
  obtain ⟨TT,ks,hbox,hks⟩:=ZcP hpk
  have hq:kd κ q=.box TT ks:=by simpa[sv,hk',Kd.dep,Place.of] using hbox
  obtain ⟨lb,hn,hsub,hsr⟩:=h.sr q
  rw[hq] at hsr
  obtain ⟨b0,cs,xs,fps,ev,ex,hheap,hgrp,rfl⟩:=hsr
  obtain ⟨y,v,lb',hx,hv',hfi,hcr⟩:=hgrp.ks_at hks
  obtain ⟨l',rfl,hrow⟩:=hcr
  have e5:(dv κ σ x).pv=.agg xs:=by simpa[dv,hk',Kd.dep,Place.of] using ex
  rw[e5] at hl
  simp only[PV.cells,hx,Option.bind_some] at hl
  cases hl
  obtain ⟨b,hb1,hb2⟩:=e3
  rw[ev] at hb1
  simp at hb1
  subst hb1
  have hb3:=hb2
  rw[cell_of_row w b0 oo cs TT (0,0) hheap] at hb2
  have e6:v=.slice (some ⟨g,0,none⟩) n cap:=by
   have:cs[oo]?=some v:=by simpa using hv'
   rw[this] at hb2
   exact Option.some.inj hb2
  have e3:PlV a.tmps w (.cell q oo) (.slice (some ⟨g,0,none⟩) n cap):=⟨b0,ev,hb3⟩
  obtain ⟨n',cap',cur,fr,lb'',h1,h2,h3,h4,h5,h6,h7,h8,h9,h10⟩:=row hrow (fun b hb=>hsub b (List.mem_cons_of_mem _ (List.mem_flatten.2 ⟨lb',List.mem_of_getElem? hfi,hb⟩))) e6
  exact ⟨i,n',cap',g,cur,fr,lb'',e1,h1,e4,h2,h3,h4,h5,h6,h7,h8,h9,h10⟩
theorem Zcx {k:CK} {x:PV} {v:Value} {l:List Nat} (h:CR w F k x v l) (hk:ckV k=true):VR w F x v∧l=[]:=by
 cases k<;>simp[ckV] at hk
 ·exact h.vr (.inl rfl)
 ·exact h.vr (.inr rfl)
theorem ZjK (hT:TabOk P T) {t:TypeId} {x:Operand} {d:Nat} (hop:o.op=.load t x) (hd:o.dst=some d) (hE:Zi0 T d t (sv κ x)=some E):ZN P o κ E:=by
 unfold Zi0 at hE
 split at hE
 case h_1=>cases hE
 rename_i ti hi
 obtain ⟨ht⟩:=hT.ty hi
 split at hE
 ·rename_i q ks off hb
  split at hE
  ·rename_i hagg
   split at hE
   case isFalse=>cases hE
   rename_i hall
   cases hE
   refine ZaC hd rfl rfl rfl fun w0 F0 X0 σ a w F fp kk r h htt hlv hdy=> ?_
   have hdy':((Zb true off ti.size (ZcQ (sv κ x) (dv κ σ x))).bind kk)=some r:=by simpa[hop,Op.operands,Zj,Zbl] using hdy
   obtain ⟨z,hz,hkk⟩:=Option.bind_eq_some_iff.1 hdy'
   obtain ⟨b,cs,TT,xs,fps,_,e1,e2,e3,e4,e5,e6,e7,e8,e9⟩:=Zda h (Zc hlv (by rw[hop];exact .head _)) hb
   rw[e3] at hz
   rw[←hagg] at hz
   obtain ⟨v,h1,h2⟩:=ZfX (w:=w) (F:=F) (b:=b) (base:=0) ht hz (fun j y hy hj _=>by
    obtain ⟨hj1,hj2⟩:=hj hagg
    obtain ⟨k,c,f,g1,g2,g3,g4,g5⟩:=e7.at j y hy
    rw[Nat.zero_add,cell_of_row w b j cs TT (0,0) e6]
    have hk:ckV k=true:=by
     rw[List.all_eq_true] at hall
     refine hall k (List.mem_of_getElem? (i:=j - off) ?_)
     rw[List.getElem?_take,if_pos (by omega),List.getElem?_drop]
     rw[show off+(j - off)=j from by omega]
     exact g1
    exact ⟨c,by simpa using g2,(Zcx g4 hk).1,g5 rfl⟩)
   refine ⟨z,v,ZbW hop ?_,hkk,h2⟩
   rw[e5]
   simpa using h1
  ·rename_i hagg
   have hagg':ti.agg=false:=by simpa using hagg
   have key:∀(k:CK),ks[off]?=some k→ckV k=true→∀(w0:World) (F0:Nat→Prop) (X0:List Nat) (σ:List PV) (a:Act) (w:World) (F:Nat→Prop) (fp:Nat→List Nat) (kk:PV→Option R) (r:R),St w0 F0 X0 κ σ a.tmps w F fp→ZaM κ σ x→
    ((Zb false off 1 (ZcQ (sv κ x) (dv κ σ x))).bind kk)=some r→∃z v,kk z=some r∧(execOp a.eval o).run P w=.ok (.value v) w∧CR w F k z v []:=by
    intro k hks hkv w0 F0 X0 σ a w F fp kk r h hlx hdy
    obtain ⟨z,hz,hkk⟩:=Option.bind_eq_some_iff.1 hdy
    obtain ⟨b,cs,TT,xs,fps,_,e1,e2,e3,e4,e5,e6,e7,e8,e9⟩:=Zda h hlx hb
    rw[e3] at hz
    have hz':xs[off]?=some z:=by simpa[Zb] using hz
    obtain ⟨k',c,f,g1,g2,g3,g4,g5⟩:=e7.at off z hz'
    rw[hks] at g1
    cases g1
    obtain rfl:=(Zcx g4 hkv).2
    refine ⟨z,c,hkk,ZbW hop ?_,g4⟩
    rw[e5]
    exact Zhl ht hagg' (by rw[cell_of_row w b off cs TT (0,0) e6];simpa using g2)
   split at hE
   ·rename_i hks
    cases hE
    refine ZJ hd rfl rfl fun w0 F0 X0 σ a w F fp kk r h htt hlv hdy=> ?_
    obtain ⟨z,v,hkk,hrun,hcr⟩:=key _ hks rfl w0 F0 X0 σ a w F fp kk r h (Zc hlv (by rw[hop];exact .head _)) (by simpa[hop,Op.operands,Zj,Zbl] using hdy)
    exact ⟨z,v,w,F,[],hrun,hkk,Adds.refl w h.fl,List.nodup_nil,hcr,by simp,fun _=>trivial,fun q hq=>by simp[Zj,Kd.bdep] at hq⟩
   ·rename_i hks
    cases hE
    refine ZJ hd rfl rfl fun w0 F0 X0 σ a w F fp kk r h htt hlv hdy=> ?_
    obtain ⟨z,v,hkk,hrun,hcr⟩:=key _ hks rfl w0 F0 X0 σ a w F fp kk r h (Zc hlv (by rw[hop];exact .head _)) (by simpa[hop,Op.operands,Zj,Zbl] using hdy)
    exact ⟨z,v,w,F,[],hrun,hkk,Adds.refl w h.fl,List.nodup_nil,hcr,by simp,fun _=>trivial,fun q hq=>by simp[Zj,Kd.bdep] at hq⟩
   ·rename_i app e sz hks
    split at hE
    case isTrue=>cases hE
    rename_i hqd
    cases hE
    refine ZJ hd rfl rfl fun w0 F0 X0 σ a w F fp kk r h htt hlv hdy=> ?_
    have hdy':kk (.bool true)=some r:=by simpa[hop,Op.operands,Zj,ZiL] using hdy
    obtain ⟨b,cs,TT,xs,fps,_,e1,e2,e3,e4,e5,e6,e7,e8,e9⟩:=Zda h (Zc hlv (by rw[hop];exact .head _)) hb
    obtain ⟨y,v,lb,g1,g2,g3,g4⟩:=e7.ks_at hks
    have hc:w.cell? ⟨b,off,none⟩=some v:=by rw[cell_of_row w b off cs TT (0,0) e6];simpa using g2
    refine ⟨.bool true,v,w,F,[],ZbW hop (by rw[e5];exact Zhl ht hagg' hc),hdy',Adds.refl w h.fl,List.nodup_nil,rfl,by simp, ?_,fun q' hq=> ?_⟩
    ·refine fun _=>⟨b, ?_,hc⟩
     rw[Za6,if_neg (by rintro ⟨e,_⟩;exact hqd e)]
     exact e4
    ·simp only[Zj,Kd.bdep,Option.some.injEq] at hq
     subst hq
     exact ⟨hqd,by rw[e1];rfl⟩
   ·cases hE
 ·split at hE
  ·rename_i hb hk
   cases hE
   refine ZaC hd rfl rfl rfl fun w0 F0 X0 σ a w F fp kk r h htt hlv hdy=> ?_
   have hdy':((Zb ti.agg 0 ti.size (dv κ σ x).v.cells).bind kk)=some r:=by simpa[hop,Op.operands,Zj,Zbl] using hdy
   obtain ⟨z,hz,hkk⟩:=Option.bind_eq_some_iff.1 hdy'
   obtain ⟨l,_,hsr⟩:=h.at' x (by rw[hk];simp)
   rw[hk] at hsr
   obtain ⟨b,off,xs,e1,e2,e3,e4⟩:=hsr.1 ((Zc hlv (by rw[hop];exact .head _)) (by show (kOp κ x).hangs=true;rw[show kOp κ x=.ipt from hk];rfl))
   rw[e2] at hz
   obtain ⟨v,h1,h2⟩:=ZfX (w:=w) (F:=F) (b:=b) (base:=off) ht hz (fun j y hy _ _=>by
    obtain ⟨g1,c,g2,g3⟩:=e4 j y hy
    exact ⟨c,g2,g3,g1⟩)
   refine ⟨z,v,ZbW hop ?_,hkk,h2⟩
   rw[e1]
   simpa using h1
  ·rename_i p sz off hk
   split at hE
   case isFalse=>cases hE
   rename_i hK
   cases hE
   obtain ⟨hK,hsm⟩:=hK
   obtain ⟨⟨app,e,sz'⟩,hK1,hK2⟩:=Option.map_eq_some_iff.1 hK
   simp only at hK2
   subst hK2
   refine ZaC hd rfl rfl rfl fun w0 F0 X0 σ a w F fp kk r h htt hlv hdy=> ?_
   have hdy':(((Zhj (sv κ x) (dv κ σ x)).bind fun y=>Zb ti.agg off ti.size y.cells).bind kk)=some r:=by simpa[hop,Op.operands,Zj,Zbl] using hdy
   obtain ⟨z,hz,hkk⟩:=Option.bind_eq_some_iff.1 hdy'
   obtain ⟨y,hy,hz⟩:=Option.bind_eq_some_iff.1 hz
   unfold Zhj at hy
   split at hy
   case h_2=>cases hy
   rename_i kd' i hvi
   obtain ⟨l,hl,hli⟩:=Option.bind_eq_some_iff.1 hy
   obtain ⟨i',n,cap,g,cur,fr,lb,g1,g2,g3,g4,g5,g6,g7,g8,g9,g10,g11,g12⟩:=ZfY h (Zc hlv (by rw[hop];exact .head _)) hk hl hK1 (Zaa hsm)
   rw[hvi] at g1
   cases g1
   have hli':l[i']?=some y:=by simpa using hli
   obtain ⟨k1,k2,u,k3,k4⟩:=g10 i' y hli'
   obtain ⟨c1,c2⟩:=k3.cells k2
   obtain ⟨v,h1,h2⟩:=ZfX (w:=w) (F:=F) (b:=g) (base:=i' * sz') ht hz (fun j y' hy' _ _=>by
    obtain ⟨m1,m2⟩:=c2 j y' hy'
    have hjl:j<u.cells.size:=by
     have:=(List.getElem?_eq_some_iff.1 hy').1
     rw[PV.length_cells] at this
     omega
    have hcj:u.cells[j]?=some (u.cells.getD j Go.undef):=by simp[Array.getD,hjl]
    refine ⟨u.cells.getD j Go.undef, ?_,m2,m1⟩
    rw[cell_of_row w g _ cur e fr g4]
    exact k4 j _ hcj)
   refine ⟨z,v,ZbW hop ?_,hkk,h2⟩
   rw[g3]
   exact h1
  ·cases hE
theorem ZqO {t:TypeId} {ti:TI} (ht:TyOk P t ti) {f fo:Nat} {ft:TypeId} {fi:TI} (hs:ti.desc=.struct) (hf:ti.flds[f]?=some (fo,ft)) (hft:TyOk P ft fi) (hz:fi.size≠0) (b off:Nat) (w:World):
 (Instr.fieldAt t (.pointer (some ⟨b,off,none⟩)) f).run P w=.ok (.pointer (some ⟨b,off+fo,none⟩)) w:=by
 have h1:=ht.run_underlying w
 have h2:=ht.hd
 have h3:=ht.hflds
 have h4:=hft.run_sizeOf w
 rw[hs] at h2
 cases hdd:ht.desc<;>rw[hdd] at h2<;>simp[ZeR] at h2
 rename_i fs
 rw[hdd] at h3 h1
 simp only[ZoQ] at h3
 rw[h3] at hf
 rw[List.getElem?_map] at hf
 obtain ⟨fld,hfl,he⟩:=Option.map_eq_some_iff.1 hf
 simp only[Prod.mk.injEq] at he
 obtain ⟨rfl,rfl⟩:=he
 have hfl':fs[f]?=some fld:=by simpa using hfl
 simp[Instr.fieldAt,h1,hfl',Instr.sureAddr,fieldPlace,h4,hz,Addr.add_lit]
theorem Zny (hT:TabOk P T) {t:TypeId} {f:Nat} {x:Operand} {d:Nat} (hop:o.op=.fieldAddr t x f) (hd:o.dst=some d) (hE:Zcw T d t f (sv κ x)=some E):ZN P o κ E:=by
 unfold Zcw at hE
 split at hE
 case h_1=>cases hE
 rename_i ti hi
 obtain ⟨ht⟩:=hT.ty hi
 split at hE
 case h_1=>cases hE
 rename_i fo ft hf
 split at hE
 case h_1=>cases hE
 rename_i fi hfi
 obtain ⟨hft⟩:=hT.ty hfi
 split at hE
 case isTrue=>cases hE
 rename_i hc
 have hz:fi.size≠0:=fun e=>hc (.inl e)
 have hs:ti.desc=.struct:=Classical.byContradiction fun e=>hc (.inr e)
 have hrun:∀(ρ:Operand→Value) (b off:Nat) (w:World),ρ x=.pointer (some ⟨b,off,none⟩)→(execOp ρ o).run P w=.ok (.value (.pointer (some ⟨b,off+fo,none⟩))) w:=by
  intro ρ b off w hx
  have:=ZqO ht hs hf hft hz b off w
  simp[execOp,hop,hx,this]
 split at hE
 ·rename_i q ks off hb
  split at hE
  case isTrue=>cases hE
  rename_i hqd
  cases hE
  refine ZJ hd rfl rfl fun w0 F0 X0 σ a w F fp kk r h htt hlv hdy=> ?_
  have hdy':kk (.bool true)=some r:=by simpa[hop,Op.operands,Zj,ZiL] using hdy
  obtain ⟨b,cs,TT,xs,fps,_,e1,e2,e3,e4,e5,e6,e7,e8,e9⟩:=Zda h (Zc hlv (by rw[hop];exact .head _)) hb
  refine ⟨.bool true,_,w,F,[],hrun _ b off w e5,hdy',Adds.refl w h.fl,List.nodup_nil,rfl,by simp, ?_,fun q' hq=> ?_⟩
  ·refine fun _=>⟨b, ?_,rfl⟩
   rw[Za6,if_neg (by rintro ⟨e,_⟩;exact hqd e)]
   exact e4
  ·simp only[Zj,Kd.bdep,Option.some.injEq] at hq
   subst hq
   exact ⟨hqd,by rw[e1];rfl⟩
 ·split at hE
  ·rename_i hk
   cases hE
   refine ZJ hd rfl rfl fun w0 F0 X0 σ a w F fp kk r h htt hlv hdy=> ?_
   have hdy':kk (.agg ((dv κ σ x).v.cells.drop fo))=some r:=by simpa[hop,Op.operands,Zj,Zbl] using hdy
   obtain ⟨l,_,hsr⟩:=h.at' x (by rw[hk];simp)
   rw[hk] at hsr
   obtain ⟨b,off,xs,e1,e2,e3,e4⟩:=hsr.1 ((Zc hlv (by rw[hop];exact .head _)) (by show (kOp κ x).hangs=true;rw[show kOp κ x=.ipt from hk];rfl))
   rw[e2] at hdy'
   refine ⟨_,_,w,F,[],hrun _ b off w e1,hdy',Adds.refl w h.fl,List.nodup_nil,⟨fun _=>⟨b,off+fo,_,rfl,rfl,e3,fun j y hy=> ?_⟩,rfl⟩,by simp,fun _=>trivial,fun q hq=>by simp[Zj,Kd.bdep] at hq⟩
   have:=e4 (fo+j) y (by rw[List.getElem?_drop] at hy;exact hy)
   rw[Nat.add_assoc]
   exact this
  ·rename_i q sz off hk
   split at hE
   case isTrue=>cases hE
   rename_i hqd
   cases hE
   refine ZJ hd rfl rfl fun w0 F0 X0 σ a w F fp kk r h htt hlv hdy=> ?_
   have hdy':kk (dv κ σ x).v=some r:=by simpa[hop,Op.operands,Zj,Zfi] using hdy
   have hal:=h.al' x (Zc hlv (by rw[hop];exact .head _))
   rw[hk] at hal
   obtain ⟨i,b,n,cap,h1,h2,h3,h4⟩:=hal
   refine ⟨_,_,w,F,[],hrun _ b _ w h4,hdy',Adds.refl w h.fl,List.nodup_nil,rfl,by simp,fun _=>⟨i,b,n,cap,h1,h2, ?_,by rw[Nat.add_assoc]⟩,fun q' hq=>by simp[Zj,Kd.bdep] at hq⟩
   show tv _ q=_
   rw[Za6,if_neg (by rintro ⟨e,_⟩;exact hqd e)]
   exact h3
  ·rename_i q oo sz off hk
   split at hE
   case isTrue=>cases hE
   rename_i hqd
   split at hE
   case isFalse=>cases hE
   rename_i hbox
   cases hE
   have hk':kOp κ x=.elm (.cell q oo) sz off:=hk
   refine ZJ hd rfl rfl fun w0 F0 X0 σ a w F fp kk r h htt hlv hdy=> ?_
   have hdy':kk (dv κ σ x).v=some r:=by simpa[hop,Op.operands,Zj,Zfi] using hdy
   have hal:=h.al' x (Zc hlv (by rw[hop];exact .head _))
   rw[hk] at hal
   obtain ⟨i,b,n,cap,h1,h2,⟨b',h3,h3'⟩,h4⟩:=hal
   refine ⟨_,_,w,F,[],hrun _ b _ w h4,hdy',Adds.refl w h.fl,List.nodup_nil,rfl,by simp,fun _=>⟨i,b,n,cap,h1,h2,⟨b', ?_,h3'⟩,by rw[Nat.add_assoc]⟩,fun q' hq=> ?_⟩
   ·rw[Za6,if_neg (by rintro ⟨e,_⟩;exact hqd e)]
    exact h3
   ·simp only[Zj,Kd.bdep,Option.some.injEq] at hq
    subst hq
    exact ⟨hqd,by simpa[sv,hk',Kd.dep,Place.of] using hbox⟩
  ·cases hE
theorem ZqP {x:Operand} {d:Nat} (hop:o.op=.nilCheck x) (hd:o.dst=some d) (hE:ZdE d (sv κ x)=some E):ZN P o κ E:=by
 have hrun:∀(ρ:Operand→Value) (b off:Nat) (w:World),ρ x=.pointer (some ⟨b,off,none⟩)→(execOp ρ o).run P w=.ok (.value (.pointer (some ⟨b,off,none⟩))) w:=by
  intro ρ b off w hx
  simp[execOp,hop,hx]
 unfold ZdE at hE
 split at hE
 ·rename_i q ks off hb
  split at hE
  case isTrue=>cases hE
  rename_i hqd
  cases hE
  refine ZJ hd rfl rfl fun w0 F0 X0 σ a w F fp kk r h htt hlv hdy=> ?_
  have hdy':kk (.bool true)=some r:=by simpa[hop,Op.operands,Zj,ZiL] using hdy
  obtain ⟨b,cs,TT,xs,fps,_,e1,e2,e3,e4,e5,e6,e7,e8,e9⟩:=Zda h (Zc hlv (by rw[hop];exact .head _)) hb
  refine ⟨.bool true,_,w,F,[],hrun _ b off w e5,hdy',Adds.refl w h.fl,List.nodup_nil,rfl,by simp, ?_,fun q' hq=> ?_⟩
  ·refine fun _=>⟨b, ?_,rfl⟩
   rw[Za6,if_neg (by rintro ⟨e,_⟩;exact hqd e)]
   exact e4
  ·simp only[Zj,Kd.bdep,Option.some.injEq] at hq
   subst hq
   exact ⟨hqd,by rw[e1];rfl⟩
 ·split at hE
  ·rename_i hk
   cases hE
   refine ZJ hd rfl rfl fun w0 F0 X0 σ a w F fp kk r h htt hlv hdy=> ?_
   have hdy':kk (dv κ σ x).v=some r:=by simpa[hop,Op.operands,Zj,Zfi] using hdy
   obtain ⟨l,_,hsr⟩:=h.at' x (by rw[hk];simp)
   rw[hk] at hsr
   obtain ⟨b,off,xs,e1,e2,e3,e4⟩:=hsr.1 ((Zc hlv (by rw[hop];exact .head _)) (by show (kOp κ x).hangs=true;rw[show kOp κ x=.ipt from hk];rfl))
   exact ⟨_,_,w,F,[],hrun _ b off w e1,hdy',Adds.refl w h.fl,List.nodup_nil,⟨fun _=>⟨b,off,xs,rfl,e2,e3,e4⟩,rfl⟩,by simp,fun _=>trivial,fun q hq=>by simp[Zj,Kd.bdep] at hq⟩
  ·cases hE
theorem Zp4 {t e:TypeId} {te:TI} (hu:P.underlying t=some (.slice e)) (he:TyOk P e te) {b off n c:Nat} {k:IntKind} {i:Int} (h0:0≤i) (hn:i<n) (w:World):
 (Instr.indexAt t (.slice (some ⟨b,off,none⟩) n c) (.int k i)).run P w=.ok (.pointer (some ⟨b,off+i.toNat * te.size,none⟩)) w:=by
 have h1:=he.run_sizeOf w
 simp[Instr.indexAt,asIntOf,underlying,hu,h0,hn,h1,Addr.add_lit]
theorem ZqQ (hT:TabOk P T) {t:TypeId} {x i:Operand} {d:Nat} (hop:o.op=.indexAddr t x i) (hd:o.dst=some d) (hE:ZoW T d t (sv κ x) (sv κ i)=some E):ZN P o κ E:=by
 unfold ZoW at hE
 split at hE
 case h_1=>cases hE
 rename_i ti hi
 obtain ⟨ht⟩:=hT.ty hi
 split at hE
 case h_2=>cases hE
 rename_i e hds
 have hus:P.underlying t=some (.slice e):=by
  have h2:=ht.hd
  rw[hds] at h2
  have h3:=ht.hdesc
  cases hdd:ht.desc<;>rw[hdd] at h2<;>simp[ZeR] at h2
  rw[hdd] at h3
  rw[h2]
  exact h3
 split at hE
 case h_1=>cases hE
 rename_i te hte
 obtain ⟨he⟩:=hT.ty hte
 split at hE
 case isFalse=>cases hE
 rename_i hiv
 split at hE
 ·rename_i hxv
  cases hE
  refine ZJ hd rfl rfl fun w0 F0 X0 σ a w F fp kk r h htt hlv hdy=> ?_
  have hdy':(((Zz (dv κ σ x).v (dv κ σ i).v).bind fun y=>(Zd te.size y).map PV.agg).bind kk)=some r:=by simpa[hop,Op.operands,Zj,ZaV] using hdy
  obtain ⟨z,hz,hkk⟩:=Option.bind_eq_some_iff.1 hdy'
  obtain ⟨y,hy,hz⟩:=Option.bind_eq_some_iff.1 hz
  obtain ⟨cl,hcl,rfl⟩:=Option.map_eq_some_iff.1 hz
  obtain ⟨rfl,hc1,hc2,hc3⟩:=Za8 hcl
  have hx:=rdS h hxv
  have hii:=rdS h hiv
  unfold Zz at hy
  split at hy
  case h_2=>cases hy
  rename_i l k n e1 e2
  split at hy
  case isFalse=>cases hy
  rename_i hn
  rw[e1] at hx
  rw[e2] at hii
  have hii:=hii.int_eq
  have hlt:=(List.getElem?_eq_some_iff.1 hy).1
  obtain ⟨_,A,c,sz,vs,m1,m2,m3,m4,m5⟩:∃(_:Unit) (A:Option Addr) (c sz:Nat) (vs:Nat→Value),(a.eval x=.slice A l.length c)∧l.length≤c∧(l≠[]→∃b off,A=some ⟨b,off,none⟩∧F b∧∀i,i<l.length→∀j u,(vs i).cells[j]?=some u→w.cell? ⟨b,off+i * sz+j,none⟩=some u)∧(∀(i:Nat) (x:PV),l[i]?=some x→x.width=sz∧(vs i).cells.size=sz)∧(∀(i:Nat) (x:PV),l[i]?=some x→VR w F x (vs i)):=by
   generalize a.eval x=v at hx
   cases hx with
   |lst _ A c sz vs h1 h2 h3 h4 h5=>exact ⟨(),A,c,sz,vs,rfl,h1,h3,h4,h5⟩
  obtain ⟨b,off,rfl,hFb,hcells⟩:=m3 (by rintro rfl;simp at hlt)
  have hsz:sz=te.size:=by rw[←(m4 _ y hy).1];exact hc2
  subst hsz
  have hrun:(execOp a.eval o).run P w=.ok (.value (.pointer (some ⟨b,off+n.toNat * te.size,none⟩))) w:=by
   have:=Zp4 (P:=P) hus he (b:=b) (off:=off) (n:=l.length) (c:=c) (k:=k) (i:=n) hn (by omega) w
   simp[execOp,hop,m1,hii,this]
  obtain ⟨c1,c2⟩:=(m5 _ y hy).cells hc3
  refine ⟨_,_,w,F,[],hrun,hkk,Adds.refl w h.fl,List.nodup_nil,⟨fun _=>⟨b,off+n.toNat * te.size,_,rfl,rfl,hFb,fun j y' hy'=> ?_⟩,rfl⟩,by simp,fun _=>trivial,fun q hq=>by simp[Zj,Kd.bdep] at hq⟩
  obtain ⟨k1,k2⟩:=c2 j y' hy'
  have hjl:j<(vs n.toNat).cells.size:=by
   have:=(List.getElem?_eq_some_iff.1 hy').1
   rw[PV.length_cells] at this
   omega
  have hcj:(vs n.toNat).cells[j]?=some ((vs n.toNat).cells.getD j Go.undef):=by simp[Array.getD,hjl]
  exact ⟨k1,_,hcells _ hlt j _ hcj,k2⟩
 ·rename_i hxv
  have key:∀(p:Place) (app:Bool) (e':TypeId) (sz:Nat),Z8 (sv κ x)=some (some (app,e',sz))→p.of≠d→
   (∀(w0:World) (F0:Nat→Prop) (X0:List Nat) (σ:List PV) (a:Act) (w:World) (F:Nat→Prop) (fp:Nat→List Nat),St w0 F0 X0 κ σ a.tmps w F fp→ZaM κ σ x→PlV a.tmps w p (a.eval x)∧∀q,(Kd.elm p te.size 0).bdep=some q→(kd κ q).isBox=true)→
   ZN P o κ (Zj (R:=R) d (.elm p te.size 0) (ZaV fun y j=>(Zh (sv κ x) y).bind fun l=>Zfw l j.v)):=by
   intro p app e' sz hK hpd hpl
   refine ZJ hd rfl rfl fun w0 F0 X0 σ a w F fp kk r h htt hlv hdy=> ?_
   have hdy':(((Zh (sv κ x) (dv κ σ x)).bind fun l=>Zfw l (dv κ σ i).v).bind kk)=some r:=by simpa[hop,Op.operands,Zj,ZaV] using hdy
   obtain ⟨z,hz,hkk⟩:=Option.bind_eq_some_iff.1 hdy'
   obtain ⟨l,hl,hz⟩:=Option.bind_eq_some_iff.1 hz
   unfold Zfw at hz
   split at hz
   case h_2=>cases hz
   rename_i k n e2
   split at hz
   case isFalse=>cases hz
   rename_i hn
   cases hz
   have hii:=rdS h hiv
   rw[e2] at hii
   have hii:=hii.int_eq
   obtain ⟨q,io,lb,r1,r2,r3,r4⟩:=ZbA h (x:=x) (Zc hlv (by rw[hop];exact .head _)) (l:=l) hl hK
   obtain ⟨g,cap,s1⟩:=r2.slice_ne (by rintro rfl;simp at hn;omega)
   ·have hrun:(execOp a.eval o).run P w=.ok (.value (.pointer (some ⟨g,0+n.toNat * te.size,none⟩))) w:=by
     have:=Zp4 (P:=P) hus he (b:=g) (off:=0) (n:=l.length) (c:=cap) (k:=k) (i:=n) hn.1 hn.2 w
     simp[execOp,hop,s1,hii,this]
    obtain ⟨hp1,hp2⟩:=hpl w0 F0 X0 σ a w F fp h (Zc hlv (by rw[hop];exact .head _))
    rw[s1] at hp1
    refine ⟨_,_,w,F,[],hrun,hkk,Adds.refl w h.fl,List.nodup_nil,rfl,by simp,fun _=>⟨n.toNat,g,l.length,cap,rfl,by omega, ?_,by simp⟩,fun q' hq=>⟨?_,hp2 q' hq⟩⟩
    ·cases p with
     |slot q=>show tv _ q=_;rw[Za6,if_neg (by rintro ⟨e,_⟩;exact hpd e)];exact hp1
     | cell q oo=>
      obtain ⟨b,t1,t2⟩:=hp1
      exact ⟨b,by rw[Za6,if_neg (by rintro ⟨e,_⟩;exact hpd e)];exact t1,t2⟩
    ·rintro rfl
     apply hpd
     have hq':=Zab hq
     simpa[Zj,Kd.dep] using hq'
  split at hE
  ·rename_i app e' sz q hK hA
   split at hE
   case isTrue=>cases hE
   rename_i hc
   cases hE
   refine key (.slot q) app e' sz hK (fun e=>hc (.inl e)) fun w0 F0 X0 σ a w F fp h hlx=>⟨?_,fun q hq=>by simp[Kd.bdep] at hq⟩
   unfold ZaJ at hA
   split at hA
   ·obtain ⟨s,hs,e⟩:=Option.map_eq_some_iff.1 hA
    cases e
    obtain rfl:=Zav hs
    rfl
   ·rename_i q' hk
    cases hA
    have hal:=h.al' x hlx
    rw[hk] at hal
    exact hal
   ·cases hA
   ·cases hA
  ·rename_i app e' sz q off hK hA
   split at hE
   case isTrue=>cases hE
   rename_i hc
   cases hE
   unfold ZaJ at hA
   split at hA
   ·obtain ⟨s,hs,e⟩:=Option.map_eq_some_iff.1 hA;cases e
   ·cases hA
   ·rename_i q' off' hk
    cases hA
    refine key (.cell q off) app e' sz hK (fun e=>hc (.inl e)) fun w0 F0 X0 σ a w F fp h hlx=>⟨?_,fun q' hq=> ?_⟩
    ·have hal:=h.al' x hlx
     rw[hk] at hal
     exact hal
    ·simp only[Kd.bdep,Option.some.injEq] at hq
     subst hq
     unfold Z8 at hK
     rw[if_neg hxv,hk] at hK
     dsimp only at hK
     split at hK
     case h_2=>cases hK
     rename_i a' e'' s' hpk
     obtain ⟨TT,ks,hbox,_⟩:=ZcP hpk
     have hk':kOp κ x=.ali (.cell q off):=hk
     have hq:kd κ q=.box TT ks:=by simpa[sv,hk',Kd.dep,Place.of] using hbox
     rw[hq];rfl
   ·cases hA
  ·cases hE
end
def splice {α:Type} (l:List α) (off:Nat) (s:List α):List α:=l.take off++s++l.drop (off+s.length)
theorem Z3 {α:Type} {l:List α} {off:Nat} {s:List α} (h:off+s.length≤l.length):(splice l off s).length=l.length:=by
 simp[splice];omega
theorem Z5 {α:Type} {l:List α} {off:Nat} {s:List α} (h:off+s.length≤l.length) (j:Nat):(splice l off s)[j]?=if off≤j∧j<off+s.length then s[j - off]? else l[j]?:=by
 unfold splice
 rw[List.getElem?_append,List.getElem?_append]
 simp only[List.length_append,List.length_take]
 have:min off l.length=off:=by omega
 rw[this]
 by_cases h1:j<off
 ·rw[if_pos (by omega),if_pos h1,if_neg (by omega),List.getElem?_take,if_pos h1]
 ·by_cases h2:j<off+s.length
  ·rw[if_pos h2,if_neg h1,if_pos ⟨by omega,h2⟩]
  ·rw[if_neg h2,if_neg (by omega),List.getElem?_drop]
   congr 1
   omega
section
variable {w :World} {F:Nat→Prop}
theorem GrpR.append {one:Bool} {ks ks':List CK} {xs xs':List PV} {vs vs':List Value} {fps fps':List (List Nat)} (h:GrpR w F one ks xs vs fps) (h':GrpR w F one ks' xs' vs' fps'):GrpR w F one (ks++ks') (xs++xs') (vs++vs') (fps++fps'):=by
 induction h with
 |nil=>exact h'
 |cons h ho ht ih=>exact .cons h ho ih
theorem GrpR.take {one:Bool} {ks:List CK} {xs:List PV} {vs:List Value} {fps:List (List Nat)} (h:GrpR w F one ks xs vs fps) (n:Nat):GrpR w F one (ks.take n) (xs.take n) (vs.take n) (fps.take n):=by
 induction h generalizing n with
 |nil=>simp;exact .nil
 | cons h ho ht ih=>
  cases n with
  |zero=>exact .nil
  |succ n=>exact .cons h ho (ih n)
theorem GrpR.drop {one:Bool} {ks:List CK} {xs:List PV} {vs:List Value} {fps:List (List Nat)} (h:GrpR w F one ks xs vs fps) (n:Nat):GrpR w F one (ks.drop n) (xs.drop n) (vs.drop n) (fps.drop n):=by
 induction h generalizing n with
 |nil=>simp;exact .nil
 | cons h ho ht ih=>
  cases n with
  |zero=>exact .cons h ho ht
  |succ n=>exact ih n
theorem GrpR.splice {one:Bool} {ks ks':List CK} {xs xs':List PV} {vs vs':List Value} {fps fps':List (List Nat)} (h:GrpR w F one ks xs vs fps) (off:Nat) (h':GrpR w F one ks' xs' vs' fps'):
 GrpR w F one (splice ks off ks') (splice xs off xs') (splice vs off vs') (splice fps off fps'):=by
 have hl:=h'.lens
 unfold Go.Proofs.YtjjobbamoeaogaaDoor.splice
 rw[hl.1,hl.2.1,hl.2.2]
 exact ((h.take off).append h').append (h.drop (off+xs'.length))
theorem Zey {α:Type} (l:List (List α)) (n:Nat):∀x∈(l.take n).flatten,x∈l.flatten:=by
 intro x hx
 obtain ⟨a,ha,hxa⟩:=List.mem_flatten.1 hx
 exact List.mem_flatten.2 ⟨a,List.mem_of_mem_take ha,hxa⟩
theorem ZcR {α:Type} (l:List (List α)) (n:Nat):∀x∈(l.drop n).flatten,x∈l.flatten:=by
 intro x hx
 obtain ⟨a,ha,hxa⟩:=List.mem_flatten.1 hx
 exact List.mem_flatten.2 ⟨a,List.mem_of_mem_drop ha,hxa⟩
theorem Zhm {fps:List (List Nat)} {off:Nat} {mid:List (List Nat)} (hn:fps.flatten.Nodup) (hm:mid.flatten.Nodup) (hd:∀b∈mid.flatten,b∉fps.flatten):(splice fps off mid).flatten.Nodup:=by
 unfold splice
 rw[List.flatten_append,List.flatten_append]
 have hs:((fps.take off).flatten++(fps.drop off).flatten).Nodup:=by rw[←List.flatten_append,List.take_append_drop];exact hn
 obtain ⟨h1,h2,h3⟩:=List.nodup_append.1 hs
 have hdd:fps.drop (off+mid.length)=(fps.drop off).drop mid.length:=by rw[List.drop_drop]
 have h4:((fps.drop (off+mid.length)).flatten).Nodup:=by
  rw[hdd]
  have:((fps.drop off).take mid.length).flatten++((fps.drop off).drop mid.length).flatten=(fps.drop off).flatten:=by rw[←List.flatten_append,List.take_append_drop]
  rw[←this] at h2
  exact (List.nodup_append.1 h2).2.1
 refine List.nodup_append.2 ⟨List.nodup_append.2 ⟨h1,hm,fun a ha b hb e=>hd b hb (e▸Zey _ _ a ha)⟩,h4,fun a ha b hb e=> ?_⟩
 subst e
 have hb':a∈(fps.drop off).flatten:=by rw[hdd] at hb;exact ZcR _ _ a hb
 rcases List.mem_append.1 ha with ha|ha
 ·exact h3 a ha a hb' rfl
 ·exact hd a ha (ZcR _ _ a hb')
theorem ZeS {fps:List (List Nat)} {off b:Nat} {mid:List (List Nat)} (h:b∈(splice fps off mid).flatten):b∈fps.flatten∨b∈mid.flatten:=by
 unfold splice at h
 rw[List.flatten_append,List.flatten_append] at h
 rcases List.mem_append.1 h with h|h
 ·rcases List.mem_append.1 h with h|h
  ·exact .inl (Zey _ _ b h)
  ·exact .inr h
 ·exact .inl (ZcR _ _ b h)
theorem Zcy (P:Program) (g o:Nat) (t:TypeId) (fr:Nat×Nat) (N:Nat) (hfr:fr.2≤fr.1∨N≤fr.1):∀(vs:List Value) (i:Nat) (cur:Array Value) (w:World),w.heap[g]?=some (.cells cur t fr)→cur.size=N→o+i+vs.length≤cur.size→(∀v∈vs,v.oneCell'=true)→
 (storeCells ⟨g,o,none⟩ vs i).run P w=.ok () (w.setRow g (splice cur.toList (o+i) vs).toArray)
 | [],i,cur,w,hg,_,_,_=>by
  have:splice cur.toList (o+i) []=cur.toList:=by simp[splice]
  rw[this]
  simp only[storeCells,Array.toArray_toList]
  rw[setRow_self w g cur t fr hg]
  rfl
 | v::rest,i,cur,w,hg,hN,hl,h1=>by
  have hi:o+i<cur.size:=by simp at hl;omega
  have hadd:(⟨g,o,none⟩:Addr).add i=⟨g,o+i,none⟩:=by unfold Addr.add;split<;>simp_all
  have hcell:w.cell? ⟨g,o+i,none⟩=some cur[o+i]:=by simp[World.cell?,hg,hi]
  have hfro:w.frozen? ⟨g,o+i,none⟩=false:=by
   simp only[World.frozen?,hg,Bool.and_eq_false_iff,decide_eq_false_iff_not]
   omega
  have hst:(store ((⟨g,o,none⟩:Addr).add i) v).run P w=.ok () (w.setRow g (cur.setIfInBounds (o+i) v)):=by
   rw[hadd,run_store P w _ v _ (h1 v (by simp)),hcell]
   simp[hfro,setCell_eq_setRow w g (o+i) cur t fr v hg]
  have ih:=Zcy P g o t fr N hfr rest (i+1) (cur.setIfInBounds (o+i) v) (w.setRow g (cur.setIfInBounds (o+i) v)) (setRow_heap w g cur _ t fr hg) (by simpa using hN) (by simp at hl⊢;omega) (fun x hx=>h1 x (by simp[hx]))
  simp only[storeCells,Sem.run_bind,hst,Result.andThen_ok,ih,setRow_setRow]
  congr 3
  have e:=list_seg_step cur.toList (o+i) v rest (by simp at hl⊢;omega)
  simpa[splice,Array.toList_setIfInBounds,Nat.add_assoc] using e
theorem Zcz {P:Program} {t:TypeId} {ti:TI} (ht:TyOk P t ti) {g off:Nat} {e:TypeId} {fr:Nat×Nat} {cur:Array Value} {v:Value} (hg:w.heap[g]?=some (.cells cur e fr)) (hfr:fr.2≤fr.1∨cur.size≤fr.1) (hs:v.cells.size=ti.size) (hle:off+ti.size≤cur.size) (h1:∀u∈v.cells.toList,u.oneCell'=true):
 (Instr.storeAt t (.pointer (some ⟨g,off,none⟩)) v).run P w=.ok () (w.setRow g (splice cur.toList off v.cells.toList).toArray):=by
 have h2:=ht.run_sizeOf w
 have h3:=Zcy P g off e fr cur.size hfr v.cells.toList 0 cur w hg rfl (by simp;omega) h1
 simp[Instr.storeAt,Instr.sureAddr,storeVar,h2,hs,h3]
theorem ZbX (w:World) (g:Nat) (cs:Array Value):(w.setRow g cs).heap.size=w.heap.size:=size_setRow w g cs
theorem VR.one' {x:PV} {v:Value} (h:VR w F x v) (ho:x.one=true):v.oneCell'=true:=by
 cases h<;>first|rfl|(simp[PV.one] at ho)
theorem VR.store {x:PV} {v:Value} (h:VR w F x v) (hu:x≠.undef):∀u∈v.cells.toList,u.oneCell'=true:=by
 intro u hu'
 obtain ⟨c1,c2⟩:=h.cells hu
 obtain ⟨i,hi⟩:=List.mem_iff_getElem?.1 hu'
 have hlt:=(List.getElem?_eq_some_iff.1 hi).1
 obtain ⟨y,hy⟩:∃y,x.cells[i]?=some y:=⟨x.cells[i]'(by rw[PV.length_cells,c1];simpa using hlt),List.getElem?_eq_getElem _⟩
 obtain ⟨h1,h2⟩:=c2 i y hy
 have:v.cells.getD i Go.undef=u:=by
  have:v.cells[i]?=some u:=by simpa using hi
  simp[Array.getD_eq_getD_getElem?,this]
 rw[this] at h2
 exact h2.one' h1
end
def SV.boxT (a:SV):TypeId:=
 match a.k with
 |.box T _=>T
 |_=>match a.pk with|.box T _=>T|_=>0
def ZeT (el:PV) (cs:List PV):PV:=
 match el with
 |.agg _=>.agg cs
 |_=>cs.headD .undef
def ZgC (a x:SV) (f:List PV→PV→PV→Option PV):DV→DV→Option PV:=fun da dx=>
 match da.v with
 |.int _ i=>(Zbw a da).bind fun l=>(l[i.toNat]?).bind fun el=>(f el.cells el dx.v).map fun el'=>.lst (l.set i.toNat el')
 |_=>none
def ZcY (off n:Nat):List PV→PV→PV→Option PV:=fun cs el x=>
 (Zd n x).bind fun cl=>if off+n≤cs.length then some (ZeT el (splice cs off cl)) else none
def ZjL (p:Place) (a:SV) (f:DV→DV→Option PV):DV→DV→Option PV:=fun da dx=>
 match p with
 |.slot _=>f da dx
 |.cell _ oo=>(f da dx).map fun y=>.agg (da.pv.cells.set oo y)
def ZcA (s:Nat):Nat→List CK→List Gh
 |_,[]=>[]
 |i,.own app e sz::r=>⟨s,some i,false,app,e,sz⟩::ZcA s (i+1) r
 |i,_::r=>ZcA s (i+1) r
theorem Zez {s:Nat} {app:Bool} {e:TypeId} {sz:Nat}:∀(ks:List CK) (i j:Nat),ks[j]?=some (.own app e sz)→(⟨s,some (i+j),false,app,e,sz⟩:Gh)∈ZcA s i ks
 |[],_,_,h=>by simp at h
 |k::r,i,0,h=>by simp at h;subst h;simp[ZcA]
 | k::r,i,j+1,h=>by
  have ih:=Zez (s:=s) r (i+1) j (by simpa using h)
  rw[show i+1+j=i+(j+1) from by omega] at ih
  cases k<;>simp only[ZcA]<;>first|exact ih|exact List.mem_cons_of_mem _ ih
def Zfx (cs:List PV) (off:Nat):PV→Option PV
 |.agg l=>some (.agg (splice cs off l))
 |_=>none
def Zfy {R : Type} (T:Tab) (t:TypeId) (a x:SV):Option (Eff R):=
 match T.lookup t with
 |none=>none
 | some ti =>
  match a.boxAt with
  | some (q, ks,off)=>
   if x.isV then
    if off + ti.size≤ks.length then
     some { gh:=[],tgt:=q,put:=false,k:=.box a.boxT (splice ks off (if x.k=.ck .nil∧ti.size=1 then [.nil] else List.replicate ti.size .val)),cut:=.cells off ti.size,
            dyn:=ZaV fun da dx=>(Zd ti.size dx.v).map fun cl=>.agg (splice (ZcQ a da) off cl)}
    else none
   else match x.k,x.slot with
    | .grp false ks',some s=>
     if s=q∨ks'.length≠ti.size∨¬off+ti.size≤ks.length∨(ks'.any fun k=>k=.none)=true then none else
     some { gh:=ZcA s 0 ks',tgt:=q,put:=false,k:=.box a.boxT (splice ks off ks'),cut:=.cells off ti.size,
            dyn:=ZaV fun da dx=>Zfx (ZcQ a da) off dx.v}
    | _, _ => match Z8 x,ZaJ x with
     | some (some (app,e,sz)),some (s,i)=>
      if s=q∨ti.size≠1∨ti.agg∨¬off<ks.length then none else
      some { gh:=[⟨s,i,false,app,e,sz⟩],tgt:=q,put:=false,k:=.box a.boxT (ks.set off (.own app e sz)),cut:=.cells off 1,
             dyn:=ZaV fun da dx=>(Zh x dx).map fun l=>.agg ((ZcQ a da).set off (.lst l))}
     |_,_=>none
  | none=>
   match a.k,Zfj a with
   | .elm p sz off,some (app,e,sz')=>
    if sz=sz'∧x.isV=true∧sz<dB then
     match p with
     |.slot q=>some {gh:=[],tgt:=q,put:=false,k:=.ck (.own app e sz),cut:=.no,dyn:=ZaV (ZgC a x (ZcY off ti.size))}
     | .cell q oo=>match a.pk with
      |.box TT ks=>some {gh:=[],tgt:=q,put:=false,k:=.box TT ks,cut:=.no,dyn:=ZaV (ZjL p a (ZgC a x (ZcY off ti.size)))}
      |_=>none
    else none
   |_,_=>none
section
variable {R :Type} {P:Program} {T:Tab} {o:Oper} {κ κ1:List Kd} {E:Eff R}
variable {w0 :World} {F0:Nat→Prop} {X0:List Nat} {σ:List PV} {a:Act} {w:World} {F F1:Nat→Prop} {fp fp1:Nat→List Nat}
theorem Zfh.lb_eq {w w':World} {F F':Nat→Prop} {app app':Bool} {e e':TypeId} {sz sz':Nat} {l l':List PV} {v:Value} {lb lb':List Nat} (h:Zfh w F app e sz l v lb) (h':Zfh w' F' app' e' sz' l' v lb'):lb=lb':=by
 rcases h with ⟨h1,h2,rfl⟩|⟨g,cap,cur,fr,h1,rfl,_⟩<;>rcases h' with ⟨g1,g2,rfl⟩|⟨g',cap',cur',fr',g1,rfl,_⟩
 ·rfl
 ·rw[h1] at g1;simp at g1
 ·rw[h1] at g1;simp at g1
 ·rw[h1] at g1;simp at g1;rw[g1.1]
theorem DElR.fp_eq {ks:List DK} {xs xs':List PV} {vs:List Value} {fps fps':List (List Nat)} (h:DElR w F ks xs vs fps) (h':DElR w F1 ks xs' vs fps'):fps=fps':=by
 induction h generalizing xs' fps' with
 |nil=>cases h';rfl
 |val _ _ _ ih=>cases h' with|val _ _ ht=>rw[ih ht]
 |row h _ ih=>cases h' with|row h2 ht=>rw[ih ht,h.lb_eq h2]
theorem ElD.fp_eq {ks:List DK} {x x':PV} {u u':Value} {fps fps':List (List Nat)} (h:ElD w F ks x u fps) (h':ElD w F1 ks x' u' fps') (hc:u.cells=u'.cells):fps=fps':=by
 have key:∀{x:PV} {u:Value} {fps:List (List Nat)} {F:Nat→Prop},ElD w F ks x u fps→∃xs,DElR w F ks xs u.cells.toList fps:=by
  intro x u fps F h
  rcases h with ⟨xs,cs,rfl,rfl,h3⟩|⟨h1,h2,h3⟩
  ·exact ⟨xs,h3⟩
  ·exact ⟨[x],by rw[h2];exact h3⟩
 obtain ⟨xs,k1⟩:=key h
 obtain ⟨xs',k2⟩:=key h'
 rw[←hc] at k2
 exact k1.fp_eq k2
theorem ElD.size {ks:List DK} {x:PV} {u:Value} {fps:List (List Nat)} (h:ElD w F ks x u fps):u.cells.size=ks.length:=by
 rcases h with ⟨xs,cs,rfl,rfl,h3⟩|⟨h1,h2,h3⟩
 ·simpa[Value.cells] using h3.lens.2.1
 ·have:=h3.lens.2.1
  rw[h2];simpa using this
theorem Za4.lb_eq {e e':TypeId} {ks:List DK} {l l':List PV} {v:Value} {lb lb':List Nat} (h:Za4 w F e ks l v lb) (h':Za4 w F1 e' ks l' v lb'):lb=lb':=by
 rcases h with ⟨h1,h2,rfl⟩|⟨g,cap,cur,fpss,h1,rfl,h3,h4,h5,h6,h7,h8⟩<;>rcases h' with ⟨g1,g2,rfl⟩|⟨g',cap',cur',fpss',g1,rfl,g3,g4,g5,g6,g7,g8⟩
 ·rfl
 ·rw[h1] at g1;simp at g1
 ·rw[h1] at g1;simp at g1
 ·rw [h1] at g1
  simp at g1
  obtain ⟨rfl,hl,rfl⟩:=g1
  rw[h3] at g3
  simp at g3
  obtain ⟨rfl,rfl⟩:=g3
  have :fpss=fpss':=by
   apply List.ext_getElem?
   intro i
   by_cases hi:i<l.length
   ·obtain ⟨u,fps,a1,a2,a3⟩:=h8 i _ (List.getElem?_eq_getElem hi)
    obtain ⟨u',fps',b1,b2,b3⟩:=g8 i _ (List.getElem?_eq_getElem (show i<l'.length by omega))
    rw[a1,b1]
    have hc:u.cells=u'.cells:=by
     have s1:=a2.size
     have s2:=b2.size
     apply Array.ext_getElem?
     intro j
     by_cases hj:j<ks.length
     ·have q1:=a3 j _ (Array.getElem?_eq_getElem (show j<u.cells.size by omega))
      have q2:=b3 j _ (Array.getElem?_eq_getElem (show j<u'.cells.size by omega))
      rw[Array.getElem?_eq_getElem (show j<u.cells.size by omega),Array.getElem?_eq_getElem (show j<u'.cells.size by omega),←q1,←q2]
     ·rw[Array.getElem?_eq_none (by omega),Array.getElem?_eq_none (by omega)]
    rw[a2.fp_eq b2 hc]
   ·rw[List.getElem?_eq_none (by omega),List.getElem?_eq_none (by omega)]
  rw[this]
theorem Zal.lb_eq {app app':Bool} {e e':TypeId} {sz:Nat} {l l':List PV} {v:Value} {lb lb':List Nat} (h:Zal w F app e sz l v lb) (h':Zal w F1 app' e' sz l' v lb'):lb=lb':=by
 cases hd:ZgB sz with
 |none=>exact ((Zr hd).1 h).lb_eq ((Zr hd).1 h')
 |some ks=>exact ((Za5 hd).1 h).2.lb_eq ((Za5 hd).1 h').2
theorem ZcS {t:TypeId} {x y:Operand} (hop:o.op=.store t x y) {ρ:Operand→Value} {w':World} (h:(Instr.storeAt t (ρ x) (ρ y)).run P w=.ok () w'):(execOp ρ o).run P w=.ok .skip w':=by
 simp[execOp,hop,h]
theorem ZfZ {t:TypeId} {ti:TI} (ht:TyOk P t ti) {x y:Operand} (hop:o.op=.store t x y) {q off n:Nat} {ks ks':List CK} (h:St w0 F0 X0 κ σ a.tmps w F fp) (h1:St w0 F0 X0 κ1 σ a.tmps w F1 fp1) (hF:∀b,F b→F1 b) (hfp:∀b∈fp q,b∈fp1 q)
 (hlx:ZaM κ σ x) (hb:(sv κ x).boxAt=some (q,ks,off)) {xs':List PV} {fps':List (List Nat)} (hn:(a.eval y).cells.size=n) (hns:n=ti.size) (hle:off+n≤ks.length) (hg:GrpR w F1 true ks' xs' (a.eval y).cells.toList fps')
 (hone:∀u∈(a.eval y).cells.toList,u.oneCell'=true) (hsub:∀b∈fps'.flatten,b∈fp1 q) (hdj:∀b∈fps'.flatten,b∉fp q) (hnd:fps'.flatten.Nodup) (hT:∀T ks0,kd κ q=.box T ks0→(sv κ x).boxT=T):
 ∃ (w':World) (l:List Nat),(execOp a.eval o).run P w=.ok .skip w'∧
  w'.os=w.os∧w'.tape=w.tape∧w'.output=w.output∧w'.heap.size=w.heap.size∧(∀b,b<w.heap.size→b∉fp1 q→w'.heap[b]?=w.heap[b]?)∧
  l.Nodup∧SR w' F1 (.box (sv κ x).boxT (splice ks off ks')) (.agg (splice (ZcQ (sv κ x) (dv κ σ x)) off xs')) (tv a.tmps q) l∧(∀b∈l,b∈fp1 q)∧
  (∀k y u,k.bdep=some q→(Cut.cells off n).fn q k=false→Al a.tmps w k y u→Al a.tmps w' k y u∧Kd.isBox (.box (sv κ x).boxT (splice ks off ks'))=true):=by
 obtain ⟨b,cs,TT,xs,fps,_,e1,e2,e3,e4,e5,e6,e7,e8,e9⟩:=Zda h hlx hb
 have hlens:=e7.lens
 have hcs:cs.size=ks.length:=by have:=hlens.2.1;simp at this;omega
 have hrun:=Zcz (P:=P) ht (g:=b) (off:=off) (v:=a.eval y) e6 (.inl (Nat.le_refl _)) (by omega) (by omega) hone
 have hst1:Stays w F w F1:=⟨hF,fun _ _=>rfl⟩
 have hbfp:b∈fp q:=e9 b (by simp)
 have hw:∀c,c≠b→(w.setRow b (splice cs.toList off (a.eval y).cells.toList).toArray).heap[c]?=w.heap[c]?:=fun c hc=>setRow_other w b c _ hc
 have hnF:∀c,F1 c→c≠b:=fun c hc e=>(h1.pr q b (hfp b hbfp)).2.1 (e▸hc)
 have hst2:Stays w F1 (w.setRow b (splice cs.toList off (a.eval y).cells.toList).toArray) F1:=⟨fun _ h=>h,fun c hc=>hw c (hnF c hc)⟩
 have g1:=(e7.keep hst1 fun _ _=>rfl).keep hst2 (fun c hc=>hw c (fun e=>(List.nodup_cons.1 e8).1 (e▸hc)))
 have g2:=hg.keep hst2 (fun c hc=>hw c (fun e=>hdj c hc (e▸hbfp)))
 have hlv:(a.eval y).cells.toList.length=n:=by simpa using hn
 refine ⟨w.setRow b (splice cs.toList off (a.eval y).cells.toList).toArray,b::(splice fps off fps').flatten,ZcS hop (by rw[e5];exact hrun),rfl,rfl,rfl,ZbX _ _ _,fun c hc hcn=>hw c (fun e=>hcn (e▸hfp b hbfp)),List.nodup_cons.2 ⟨fun hc=> ?_,Zhm (List.nodup_cons.1 e8).2 hnd fun c hc hc'=>hdj c hc (e9 c (List.mem_cons_of_mem _ hc'))⟩,
  ⟨b,(splice cs.toList off (a.eval y).cells.toList).toArray,_,_,e4,by rw[e3], ?_,by simpa using g1.splice off g2,rfl⟩,fun c hc=> ?_,fun k y' u hk hcut hal=>⟨?_,rfl⟩⟩
 ·rcases ZeS hc with hc|hc
  ·exact (List.nodup_cons.1 e8).1 hc
  ·exact hdj b hc hbfp
 ·rw[hT TT ks e1]
  exact setRow_heap w b cs _ TT (0,0) e6
 ·rcases List.mem_cons.1 hc with rfl|hc
  ·exact hfp _ hbfp
  ·rcases ZeS hc with hc|hc
   ·exact hfp c (e9 c (List.mem_cons_of_mem _ hc))
   ·exact hsub c hc
 ·have cell:∀oo (v:Value),¬(off≤oo∧oo<off+n)→(∃b',tv a.tmps q=.pointer (some ⟨b',0,none⟩)∧w.cell? ⟨b',oo,none⟩=some v)→∃b',tv a.tmps q=.pointer (some ⟨b',0,none⟩)∧(w.setRow b (splice cs.toList off (a.eval y).cells.toList).toArray).cell? ⟨b',oo,none⟩=some v:=by
   rintro oo v hoo ⟨b',hb1,hb2⟩
   refine ⟨b',hb1, ?_⟩
   rw[e4] at hb1
   simp at hb1
   subst hb1
   rw[cell_of_row w b oo cs TT (0,0) e6] at hb2
   rw[cell_of_row _ b oo _ TT (0,0) (setRow_heap w b cs _ TT (0,0) e6)]
   have hsp:=Z5 (l:=cs.toList) (off:=off) (s:=(a.eval y).cells.toList) (by rw[hlv];simp;omega) oo
   rw[hlv,if_neg hoo] at hsp
   simpa[hsp] using hb2
  cases k with
  | ali p=>
   cases p with
   |slot q'=>simp[Kd.bdep] at hk
   | cell q' oo=>
    simp only[Kd.bdep,Option.some.injEq] at hk
    subst hk
    exact cell oo u (by simpa[Cut.fn] using hcut) hal
  | elm p sz o'=>
   cases p with
   |slot q'=>simp[Kd.bdep] at hk
   | cell q' oo=>
    simp only[Kd.bdep,Option.some.injEq] at hk
    subst hk
    obtain ⟨i,b',m,cap,r1,r2,r3,r4⟩:=hal
    exact ⟨i,b',m,cap,r1,r2,cell oo _ (by simpa[Cut.fn] using hcut) r3,r4⟩
  | bxf q' o'=>
   obtain ⟨b',r1,r2⟩:=hal
   exact ⟨b',r1,r2⟩
  | gal q' n'=>
   simp only[Kd.bdep,Option.some.injEq] at hk
   subst hk
   exact absurd hcut (by simp[Cut.fn])
  |ck c=>simp[Kd.bdep] at hk
  |box T ks=>simp[Kd.bdep] at hk
  |grp t ks=>simp[Kd.bdep] at hk
  |ipt=>simp[Kd.bdep] at hk
  |clo f=>simp[Kd.bdep] at hk
  |cln f=>simp[Kd.bdep] at hk
  |mp kt et=>simp[Kd.bdep] at hk
  |mbx s=>simp[Kd.bdep] at hk
  |tl q=>simp[Kd.bdep] at hk
  |tt=>simp[Kd.bdep] at hk
  |tgr sh ks=>simp[Kd.bdep] at hk
  |tip=>simp[Kd.bdep] at hk
theorem Zi1 {x:Operand} {q off:Nat} {ks:List CK} (hb:(sv κ x).boxAt=some (q,ks,off)):∀T ks0,kd κ q=.box T ks0→(sv κ x).boxT=T:=by
 intro T ks0 hk
 unfold SV.boxAt at hb
 unfold SV.boxT
 split at hb
 ·rename_i T' ks' hkk
  obtain ⟨s,hs,e⟩:=Option.map_eq_some_iff.1 hb
  cases e
  obtain rfl:=Zav hs
  have hk':kd κ q=.box T' ks:=hkk
  rw[hk] at hk'
  cases hk'
  first|rfl|(rw[hkk])
 ·rename_i q' off' hkk
  split at hb
  case h_2=>cases hb
  rename_i T' ks' hpk
  cases hb
  have hk':kOp κ x=.bxf q off:=hkk
  have hq:kd κ q=.box T' ks:=by simpa[sv,hk',Kd.dep] using hpk
  rw[hk] at hq
  cases hq
  first|rfl|(rw[hkk];done)|(rw[hkk];dsimp only;done)|(rw[hkk];dsimp only;rw[hpk])
 ·rename_i q' hkk
  split at hb
  case h_2=>cases hb
  rename_i T' ks' hpk
  cases hb
  have hk':kOp κ x=.ali (.slot q):=hkk
  have hq:kd κ q=.box T' ks:=by simpa[sv,hk',Kd.dep,Place.of] using hpk
  rw[hk] at hq
  cases hq
  first|rfl|(rw[hkk];done)|(rw[hkk];dsimp only;done)|(rw[hkk];dsimp only;rw[hpk])
 ·cases hb
theorem ZqR {t:TypeId} {ti:TI} (ht:TyOk P t ti) {x y:Operand} (hop:o.op=.store t x y) (hlx:ZaM κ σ x) {p:Place} {off:Nat} {l:List PV} {app:Bool} {e:TypeId} {sz:Nat} (h:St w0 F0 X0 κ σ a.tmps w F fp)
 (hk:(sv κ x).k=.elm p sz off) (hl:Zbw (sv κ x) (dv κ σ x)=some l) (hK:Zfj (sv κ x)=some (app,e,sz)) (hfl:ZgB sz=none) (hy:(sv κ y).isV=true) {i:Nat} {k:IntKind} (hi:(dv κ σ x).v=.int k i) {el el':PV} (hel:l[i]?=some el) (hel':ZcY off ti.size el.cells el (dv κ σ y).v=some el'):
 ∃ (w':World) (g cap:Nat) (cur':Array Value) (fr:Nat×Nat),(execOp a.eval o).run P w=.ok .skip w'∧w'.os=w.os∧w'.tape=w.tape∧w'.output=w.output∧w'.heap.size=w.heap.size∧g∈fp p.of∧(∀b,b≠g→w'.heap[b]?=w.heap[b]?)∧
  PlV a.tmps w p (.slice (some ⟨g,0,none⟩) l.length cap)∧Zal w' F app e sz (l.set i el') (.slice (some ⟨g,0,none⟩) l.length cap) [g]:=by
 obtain ⟨i',n,cap,g,cur,fr,lb,g1,g2,g3,g4,g5,g6,g7,g8,g9,g10,g11,g12⟩:=ZfY h hlx hk hl hK hfl
 rw[hi] at g1
 simp only[PV.int.injEq] at g1
 have hii:i=i':=by omega
 subst hii
 unfold ZcY at hel'
 obtain ⟨cl,hcl,hel'⟩:=Option.bind_eq_some_iff.1 hel'
 split at hel'
 case isFalse=>cases hel'
 rename_i hle
 cases hel'
 obtain ⟨rfl,c1,c2,c3⟩:=Za8 hcl
 have hv:=rdS h hy
 obtain ⟨v1,v2⟩:=hv.cells c3
 obtain ⟨k1,k2,u,k3,k4⟩:=g10 i el hel
 obtain ⟨u1,u2⟩:=k3.cells k2
 have hsz:el.cells.length=sz:=by rw[PV.length_cells];exact k1
 have hcap:(i+1) * sz≤cap * sz:=Nat.mul_le_mul_right _ (by omega)
 rw[Nat.succ_mul] at hcap
 have hrun:=Zcz (P:=P) ht (g:=g) (off:=i * sz+off) (v:=a.eval y) g4 g5 (by omega) (by omega) (hv.store c3)
 have hvl:(a.eval y).cells.toList.length=ti.size:=by simp;omega
 have hspl:i * sz+off+(a.eval y).cells.toList.length≤cur.toList.length:=by simp only[Array.length_toList] at hvl⊢;omega
 have hst:Stays w F (w.setRow g (splice cur.toList (i * sz+off) (a.eval y).cells.toList).toArray) F:=⟨fun _ h=>h,fun c hc=>setRow_other w g c _ (fun e=>(h.pr _ g g11).2.1 (e▸hc))⟩
 refine ⟨w.setRow g (splice cur.toList (i * sz+off) (a.eval y).cells.toList).toArray,g,cap,(splice cur.toList (i * sz+off) (a.eval y).cells.toList).toArray,fr,ZcS hop (by rw[g3];exact hrun),rfl,rfl,rfl,ZbX _ _ _,g11,fun b hb=>setRow_other w g b _ hb,g12,(Zr hfl).2<| .inr ⟨g,cap,_,fr,by simp,rfl,setRow_heap w g cur _ e fr g4,g6,by simpa[Z3 hspl] using g5,by simpa using g7,g8,by simp only[List.size_toArray];rw[Z3 hspl];simpa using g9,fun j z hz=> ?_⟩⟩
 rw[List.getElem?_set] at hz
 by_cases hj:i=j
 ·subst hj
  have hlt:i<l.length:=g2
  simp[hlt] at hz
  subst hz
  have hul:u.cells.toList.length=sz:=by simp;omega
  have hsu:off+(a.eval y).cells.toList.length≤u.cells.toList.length:=by omega
  have hcells:∀(j:Nat) (c:Value),(splice u.cells.toList off (a.eval y).cells.toList)[j]?=some c→(splice cur.toList (i * sz+off) (a.eval y).cells.toList)[i * sz+j]?=some c:=by
   intro j c hc
   rw[Z5 hspl]
   rw[Z5 hsu] at hc
   by_cases hin:off≤j∧j<off+(a.eval y).cells.toList.length
   ·rw[if_pos hin] at hc
    rw[if_pos (by omega)]
    rw[show i * sz+j - (i * sz+off)=j - off from by omega]
    exact hc
   ·rw[if_neg hin] at hc
    rw[if_neg (by omega)]
    have:=k4 j c (by simpa using hc)
    simpa using this
  have hread:∀(j:Nat) (z:PV),(splice el.cells off (dv κ σ y).v.cells)[j]?=some z→z.one=true∧VR (w.setRow g (splice cur.toList (i * sz+off) (a.eval y).cells.toList).toArray) F z ((splice u.cells.toList off (a.eval y).cells.toList).getD j Go.undef):=by
   intro j z hz
   rw[Z5 (by omega)] at hz
   have hget:(splice u.cells.toList off (a.eval y).cells.toList).getD j Go.undef=if off≤j∧j<off+(a.eval y).cells.toList.length then (a.eval y).cells.getD (j - off) Go.undef else u.cells.getD j Go.undef:=by
    rw[List.getD_eq_getElem?_getD,Z5 hsu]
    split<;>simp[Array.getD_eq_getD_getElem?]
   rw[hget]
   rw[PV.length_cells,v1] at hz
   have e1:(a.eval y).cells.toList.length=(a.eval y).cells.size:=by simp
   rw[e1]
   split at hz
   ·rename_i hin
    rw[if_pos hin]
    obtain ⟨r1,r2⟩:=v2 _ z hz
    exact ⟨r1,r2.keep hst⟩
   ·rename_i hin
    rw[if_neg hin]
    obtain ⟨r1,r2⟩:=u2 _ z hz
    exact ⟨r1,r2.keep hst⟩
  have hslen:(splice el.cells off (dv κ σ y).v.cells).length=sz:=by rw[Z3 (by omega)];exact hsz
  have hulen:(splice u.cells.toList off (a.eval y).cells.toList).length=sz:=by rw[Z3 hsu];exact hul
  by_cases hagg:∃l0,el=.agg l0
  ·obtain ⟨l0,rfl⟩:=hagg
   obtain ⟨cs0,rfl⟩:∃cs0,u=.agg cs0:=by cases k3;exact ⟨_,rfl⟩
   refine ⟨?_,by simp[ZeT],.agg (splice cs0.toList off (a.eval y).cells.toList).toArray, ?_,fun j c hc=> ?_⟩
   ·simpa[ZeT,PV.width] using hslen
   ·refine VR.of_cells (by simp only[List.size_toArray];rw[hslen];exact hulen.symm) fun j z hz=> ?_
    obtain ⟨r1,r2⟩:=hread j z hz
    refine ⟨r1, ?_⟩
    have:(splice cs0.toList off (a.eval y).cells.toList).toArray.getD j Go.undef=(splice cs0.toList off (a.eval y).cells.toList).getD j Go.undef:=by simp[Array.getD_eq_getD_getElem?,List.getD]
    rw[this]
    exact r2
   ·have:=hcells j c (by simpa[Value.cells] using hc)
    simpa using this
  ·have hreb:ZeT el (splice el.cells off (dv κ σ y).v.cells)=(splice el.cells off (dv κ σ y).v.cells).headD .undef:=by
    cases el<;>first|rfl|exact absurd ⟨_,rfl⟩ hagg
   have hsz1:sz=1:=by
    rw[←k1]
    cases el<;>first|rfl|exact absurd ⟨_,rfl⟩ hagg
   obtain ⟨z0,hz0⟩:∃z0,splice el.cells off (dv κ σ y).v.cells=[z0]:=by
    have:=hslen
    rw[hsz1] at this
    exact List.length_eq_one_iff.1 this
   obtain ⟨r1,r2⟩:=hread 0 z0 (by rw[hz0];rfl)
   have hone:=r2.oneCell r1
   rw[hreb,hz0,List.headD_cons]
   refine ⟨?_, ?_,(splice u.cells.toList off (a.eval y).cells.toList).getD 0 Go.undef,r2,fun j c hc=> ?_⟩
   ·rw[hsz1]
    cases z0<;>first|rfl|(simp[PV.one] at r1)
   ·rintro rfl
    simp[PV.one] at r1
   ·rw[hone] at hc
    have hj0:j=0:=by cases j<;>simp at hc⊢
    subst hj0
    have hlt0:0<(splice u.cells.toList off (a.eval y).cells.toList).length:=by rw[hulen,hsz1];exact Nat.one_pos
    have hc':(splice u.cells.toList off (a.eval y).cells.toList)[0]?=some c:=by
     simp only[List.getElem?_toArray,List.getElem?_cons_zero,Option.some.injEq] at hc
     rw[←hc,List.getD_eq_getElem?_getD,List.getElem?_eq_getElem hlt0]
     rfl
    have:=hcells 0 c hc'
    simpa using this
 ·simp[hj] at hz
  obtain ⟨m1,m2,u',m3,m4⟩:=g10 j z hz
  refine ⟨m1,m2,u',m3.keep hst,fun j' c hc=> ?_⟩
  have hc':=m4 j' c hc
  have hjs:j'<sz:=by
   have h1:=(m3.cells m2).1
   have:=(Array.getElem?_eq_some_iff.1 hc).1
   omega
  have hne:¬(i * sz+off≤j * sz+j'∧j * sz+j'<i * sz+off+(a.eval y).cells.toList.length):=by
   rintro ⟨t1,t2⟩
   rcases Nat.lt_or_ge i j with h1|h1
   ·have:(i+1) * sz≤j * sz:=Nat.mul_le_mul_right _ h1
    rw[Nat.succ_mul] at this
    omega
   ·have h2:j<i:=by omega
    have:(j+1) * sz≤i * sz:=Nat.mul_le_mul_right _ h2
    rw[Nat.succ_mul] at this
    omega
  have:=Z5 hspl (j * sz+j')
  rw[if_neg hne] at this
  simp only[List.getElem?_toArray,this]
  simpa using hc'
end
section
variable {R :Type} {P:Program} {T:Tab} {o:Oper} {κ κ1:List Kd} {E:Eff R}
variable {w0 :World} {F0:Nat→Prop} {X0:List Nat} {σ:List PV} {a:Act} {w:World} {F F1:Nat→Prop} {fp fp1:Nat→List Nat}
theorem Zc4 {one:Bool} {ks:List CK} {xs:List PV} {vs:List Value} {fps:List (List Nat)} (h:GrpR w F one ks xs vs fps) {own:Nat→Prop}
 (H:∀(i:Nat) (app:Bool) (e:TypeId) (sz:Nat) (x:PV) (v:Value) (lb:List Nat),ks[i]?=some (.own app e sz)→xs[i]?=some x→vs[i]?=some v→CR w F (.own app e sz) x v lb→∀b∈lb,own b):∀b∈fps.flatten,own b:=by
 induction h with
 |nil=>simp
 | @cons k x v fp ks xs vs fps h ho ht ih=>
  intro b hb
  simp only[List.flatten_cons,List.mem_append] at hb
  rcases hb with hb|hb
  ·cases k with
   |none=>have h':fp=[]:=h;rw[h'] at hb;simp at hb
   |val=>rw[h.2] at hb;simp at hb
   |nil=>rw[h.2.2] at hb;simp at hb
   |own app e sz=>exact H 0 app e sz x v fp rfl rfl rfl h b hb
  ·exact ih (fun i app e sz x v lb h1 h2 h3 h4=>H (i+1) app e sz x v lb (by simpa using h1) (by simpa using h2) (by simpa using h3) h4) b hb
theorem Zfz (hT:TabOk P T) {t:TypeId} {x y:Operand} (hop:o.op=.store t x y) (hd:o.dst=none) (hE:Zfy T t (sv κ x) (sv κ y)=some E):ZN P o κ E:=by
 unfold Zfy at hE
 split at hE
 case h_1=>cases hE
 rename_i ti hi
 obtain ⟨ht⟩:=hT.ty hi
 have hops:o.op.operands.toList=[x,y]:=by rw[hop];rfl
 split at hE
 ·rename_i q ks off hb
  split at hE
  ·rename_i hyv
   split at hE
   case isFalse=>cases hE
   rename_i hle
   cases hE
   refine ZdC hd rfl fun w0 F0 X0 κ1 σ a w F F1 fp fp1 kk r h h1 htt hg hF hfp hall hlv hdy=> ?_
   cases hg
   have hdy':(((Zd ti.size (dv κ σ y).v).map fun cl=>PV.agg (splice (ZcQ (sv κ x) (dv κ σ x)) off cl)).bind kk)=some r:=by rw[hops] at hdy;exact hdy
   obtain ⟨z,hz,hkk⟩:=Option.bind_eq_some_iff.1 hdy'
   obtain ⟨cl,hcl,rfl⟩:=Option.map_eq_some_iff.1 hz
   obtain ⟨rfl,c1,c2,c3⟩:=Za8 hcl
   have hv:=rdS h1 hyv
   obtain ⟨v1,v2⟩:=hv.cells c3
   have hgrp:GrpR w F1 true (if (sv κ y).k=.ck .nil∧ti.size=1 then [CK.nil] else List.replicate ti.size .val) (dv κ σ y).v.cells (a.eval y).cells.toList (List.replicate ti.size []):=by
    split
    ·rename_i hnl
     obtain ⟨l,_,hsr⟩:=h.at' y (by rw[hnl.1];simp)
     rw[hnl.1] at hsr
     obtain ⟨s1,s2,s3⟩:=hsr
     rw[hnl.2,s1,s2]
     exact .cons ⟨rfl,rfl,rfl⟩ (fun _=>rfl) .nil
    ·have hgrp:=Zhk (w:=w) (F:=F1) (one:=true) (dv κ σ y).v.cells (a.eval y).cells.toList (by rw[PV.length_cells];simpa using v1) (fun i z hz=>by
      obtain ⟨e1,e2⟩:=v2 i z hz
      refine ⟨e1, ?_⟩
      have:(a.eval y).cells.toList.getD i Go.undef=(a.eval y).cells.getD i Go.undef:=by simp[List.getD,Array.getD_eq_getD_getElem?]
      rw[this];exact e2)
     rw[c1] at hgrp
     exact hgrp
   obtain ⟨w',l,r1,r2,r3,r4,r5,r6,r7,r8,r9,r10⟩:=ZfZ (n:=ti.size) ht hop h1 h1 (fun _ h=>h) (fun _ h=>h) (Zc hlv (by rw[hop];exact .head _)) hb (by omega) rfl hle hgrp (hv.store c3) (by rw[Zao];simp) (by rw[Zao];simp) (by rw[Zao];exact List.nodup_nil) (Zi1 hb)
   exact ⟨_,w',l,r1,hkk,r2,r3,r4,r5,r6,r7,r8,r9,rfl,fun _=>⟨rfl,fun k y u hk hc hal=>(r10 k y u hk hc hal).1⟩⟩
  ·rename_i hyv
   split at hE
   ·rename_i ks' s hyk hys
    split at hE
    case isTrue=>cases hE
    rename_i hc
    cases hE
    have hsq:s≠q:=fun e=>hc (.inl e)
    have hkl:ks'.length=ti.size:=Classical.byContradiction fun e=>hc (.inr (.inl e))
    have hle:off+ti.size≤ks.length:=Classical.byContradiction fun e=>hc (.inr (.inr (.inl e)))
    have hnone:∀k∈ks',k≠CK.none:=fun k hk e=>hc (.inr (.inr (.inr (List.any_eq_true.2 ⟨k,hk,by simp[e]⟩))))
    obtain rfl:=Zav hys
    have hks:kd κ s=.grp false ks':=hyk
    refine ZdC hd rfl fun w0 F0 X0 κ1 σ a w F F1 fp fp1 kk r h h1 htt hg hF hfp hall hlv hdy=> ?_
    have hdy':((Zfx (ZcQ (sv κ x) (dv κ σ x)) off (dv κ σ (.tmp s)).v).bind kk)=some r:=by rw[hops] at hdy;exact hdy
    obtain ⟨z,hz,hkk⟩:=Option.bind_eq_some_iff.1 hdy'
    obtain ⟨lb,hn,hsub,hsr⟩:=h.sr s
    rw[hks] at hsr
    obtain ⟨cs,xs,fps,ev,ex,hgrp,rfl⟩:=hsr
    simp only[Bool.false_eq_true,if_false] at ev ex
    have hdv:(dv κ σ (.tmp s)).v=.agg xs:=ex
    rw[hdv] at hz
    cases hz
    have hev:a.eval (.tmp s)=.agg cs:=ev
    have hst:Stays w F w F1:=⟨hF,fun _ _=>rfl⟩
    have hgrp1:=hgrp.keep hst fun _ _=>rfl
    have hlens:=hgrp.lens
    have hcs:cs.size=ti.size:=by have:=hlens.2.1;simp at this;omega
    have hgv:∀b∈fps.flatten,b∈fp1 q:=Zc4 hgrp (own:=fun b=>b∈fp1 q) fun i app e sz x' v' lb' k1 k2 k3 k4 b hbb=>by
     have hm:=Zez (s:=s) ks' 0 i k1
     rw[Nat.zero_add] at hm
     obtain ⟨y',v'',l',lb'',m1,m2,m3,m4,m5⟩:=hall _ hm
     simp only[Bool.false_eq_true,if_false] at m5
     have hvv:v''=v':=by
      rcases m1 with ⟨b',xs',t1,t2,t3,t4⟩|⟨tt,cs',xs',t1,t2,t3,t4,_⟩|⟨cs',xs',t1,_⟩
      ·simp only at t1;rw[ev] at t1;cases t1
      ·simp only at t1
       rw[ev] at t1
       cases tt<;>simp at t1
       subst t1
       have:cs[i]?=some v':=by simpa using k3
       rw[this] at t2
       exact (Option.some.inj t2).symm
      ·simp only at t1;rw[ev] at t1;cases t1
     subst hvv
     obtain ⟨l0,rfl,hr0⟩:=k4
     have:=hr0.lb_eq m3
     subst this
     exact m5 b hbb
    have hev':(a.eval (.tmp s)).cells.toList=cs.toList:=by rw[hev];rfl
    obtain ⟨w',l,r1,r2,r3,r4,r5,r6,r7,r8,r9,r10⟩:=ZfZ (n:=ti.size) ht hop h h1 hF hfp (Zc hlv (by rw[hop];exact .head _)) hb (by rw[hev];exact hcs) rfl hle (ks':=ks') (xs':=xs) (fps':=fps) (by rw[hev'];have:=hgrp1;simpa using this)
     (by
      rw[hev']
      intro u hu
      obtain ⟨i,hi'⟩:=List.mem_iff_getElem?.1 hu
      have hlt:=(List.getElem?_eq_some_iff.1 hi').1
      obtain ⟨z,hz⟩:∃z,xs[i]?=some z:=⟨xs[i]'(by omega),List.getElem?_eq_getElem _⟩
      obtain ⟨k,v,f,m1,m2,m3,m4,m5⟩:=hgrp.at i z hz
      rw[hi'] at m2
      cases m2
      cases k with
      |none=>exact absurd rfl (hnone _ (List.mem_of_getElem? m1))
      |val=>exact m4.1.one' (m5 rfl)
      |nil=>rw[m4.2.1];rfl
      |own app e sz=>obtain ⟨l0,_,hr0⟩:=m4;obtain ⟨A,c,rfl⟩:=hr0.slice_eq;rfl)
     hgv (fun b hbb hbq=>h.dj s q b hsq (hsub b hbb) hbq) hn (Zi1 hb)
    exact ⟨_,w',l,r1,hkk,r2,r3,r4,r5,r6,r7,r8,r9,rfl,fun _=>⟨rfl,fun k y u hk hc hal=>(r10 k y u hk hc hal).1⟩⟩
   ·split at hE
    case h_2=>cases hE
    rename_i app e sz s i hK hA
    split at hE
    case isTrue=>cases hE
    rename_i hc
    cases hE
    have hsq:s≠q:=fun e=>hc (.inl e)
    have hts:ti.size=1:=Classical.byContradiction fun e=>hc (.inr (.inl e))
    have hlt:off<ks.length:=Classical.byContradiction fun e=>hc (.inr (.inr (.inr e)))
    refine ZdC hd rfl fun w0 F0 X0 κ1 σ a w F F1 fp fp1 kk r h h1 htt hg hF hfp hall hlv hdy=> ?_
    have hdy':(((Zh (sv κ y) (dv κ σ y)).map fun l=>PV.agg ((ZcQ (sv κ x) (dv κ σ x)).set off (.lst l))).bind kk)=some r:=by rw[hops] at hdy;exact hdy
    obtain ⟨z,hz,hkk⟩:=Option.bind_eq_some_iff.1 hdy'
    obtain ⟨l0,hl0,rfl⟩:=Option.map_eq_some_iff.1 hz
    obtain ⟨s',i',lb,q1,q2,q3,q4⟩:=ZbA h (x:=y) (Zc hlv (by rw[hop];exact .tail _ (.head _))) (l:=l0) hl0 hK
    rw[hA] at q1
    cases q1
    obtain ⟨y',v',l',lb',m1,m2,m3,m4,m5⟩:=hall _ (List.mem_singleton.2 rfl)
    simp only[Bool.false_eq_true,if_false] at m5
    have hvv:v'=a.eval y:=by
     unfold ZaJ at hA
     split at hA
     ·rename_i hk
      obtain ⟨s2,hs2,e2⟩:=Option.map_eq_some_iff.1 hA
      cases e2
      obtain rfl:=Zav hs2
      exact m1.1.symm
     ·rename_i q' hk
      cases hA
      have hal:=h.al' y (Zc hlv (by rw[hop];exact .tail _ (.head _)))
      rw[hk] at hal
      exact m1.1.symm.trans hal
     ·rename_i q' off' hk
      cases hA
      have hal:=h.al' y (Zc hlv (by rw[hop];exact .tail _ (.head _)))
      rw[hk] at hal
      obtain ⟨b1,t1,t2⟩:=hal
      rcases m1 with ⟨b',xs',g1,g2,g3,g4⟩|⟨tt,cs',xs',g1,g2,g3,g4,_⟩|⟨cs',xs',g1,_⟩
      ·simp only at g1;rw[t1] at g1;simp at g1;subst g1;rw[t2] at g2;exact (Option.some.inj g2).symm
      ·simp only at g1;rw[t1] at g1;cases tt<;>simp at g1
      ·simp only at g1;rw[t1] at g1;cases g1
     ·cases hA
    rw[hvv] at m3
    have hlb:=q2.lb_eq m3
    subst hlb
    obtain ⟨A,c,hsl⟩:=q2.slice_eq
    have hst:Stays w F w F1:=⟨hF,fun _ _=>rfl⟩
    have hcells:(a.eval y).cells= #[a.eval y]:=by rw[hsl];rfl
    have hgrp:GrpR w F1 true [.own app e sz] [.lst l0] (a.eval y).cells.toList [lb]:=by
     rw[hcells]
     exact .cons ⟨l0,rfl,q2.keep hst fun _ _=>rfl⟩ (fun _=>rfl) .nil
    obtain ⟨w',l,r1,r2,r3,r4,r5,r6,r7,r8,r9,r10⟩:=ZfZ (n:=1) ht hop h h1 hF hfp (Zc hlv (by rw[hop];exact .head _)) hb (by rw[hcells];rfl) hts.symm (by omega) hgrp (by rw[hcells,hsl];simp[Value.oneCell']) (by simpa using m5) (fun b hbb hbq=>h.dj s q b hsq (q4 b (by simpa using hbb)) hbq) (by simpa using q3) (Zi1 hb)
    have hbv:∃(b:Nat) (cs:Array Value) (TT:TypeId) (xs:List PV) (fps:List (List Nat)) (l:List Nat),ZcQ (sv κ x) (dv κ σ x)=xs∧xs.length=ks.length:=by
     obtain ⟨b,cs,TT,xs,fps,ll,e1,e2,e3,e4,e5,e6,e7,e8,e9⟩:=Zda h (Zc hlv (by rw[hop];exact .head _)) hb
     exact ⟨b,cs,TT,xs,fps,ll,e3,e7.lens.1.symm⟩
    obtain ⟨_,_,_,xs,_,_,e3,e4⟩:=hbv
    have sp:∀{α:Type} (l:List α) (z:α),off<l.length→splice l off [z]=l.set off z:=by
     intro α l z hz
     apply List.ext_getElem?
     intro j
     rw[Z5 (by simp only[List.length_singleton];omega),List.getElem?_set]
     by_cases hj:off=j
     ·subst hj;simp[hz]
     ·rw[if_neg (by simp;omega),if_neg hj]
    rw[sp ks _ hlt,e3,sp xs _ (by omega)] at r8
    rw[e3] at hkk
    refine ⟨_,w',l,r1,hkk,r2,r3,r4,r5,r6,r7,r8,r9,rfl,fun _=>⟨rfl,fun k y' u hk hcut hal=>(r10 k y' u hk hcut hal).1⟩⟩
 ·split at hE
  case h_2=>cases hE
  rename_i p sz off app e sz' hk hK
  split at hE
  case isFalse=>cases hE
  rename_i hc
  obtain ⟨rfl,hyv,hsm⟩:=hc
  have hfl:=Zaa hsm
  have main:∀(w0:World) (F0:Nat→Prop) (X0:List Nat) (σ:List PV) (a:Act) (w:World) (F:Nat→Prop) (fp:Nat→List Nat) (z:PV),St w0 F0 X0 κ σ a.tmps w F fp→ZaM κ σ x→ZgC (sv κ x) (sv κ y) (ZcY off ti.size) (dv κ σ x) (dv κ σ y)=some z→
   ∃ (l l':List PV) (w':World) (g cap:Nat),z=.lst l'∧(execOp a.eval o).run P w=.ok .skip w'∧w'.os=w.os∧w'.tape=w.tape∧w'.output=w.output∧w'.heap.size=w.heap.size∧g∈fp p.of∧(∀b,b≠g→w'.heap[b]?=w.heap[b]?)∧
    PlV a.tmps w p (.slice (some ⟨g,0,none⟩) l.length cap)∧l'.length=l.length∧Zal w' F app e sz l' (.slice (some ⟨g,0,none⟩) l.length cap) [g]:=by
   intro w0 F0 X0 σ a w F fp z h hlx hz
   unfold ZgC at hz
   split at hz
   case h_2=>cases hz
   rename_i k i hvi
   obtain ⟨l,hl,hz⟩:=Option.bind_eq_some_iff.1 hz
   obtain ⟨el,hel,hz⟩:=Option.bind_eq_some_iff.1 hz
   obtain ⟨el',hel',rfl⟩:=Option.map_eq_some_iff.1 hz
   have hi0:(dv κ σ x).v=.int k (i.toNat:Int):=by
    obtain ⟨i',n,cap,g,cur,fr,lb,g1,_⟩:=ZfY h hlx hk hl hK hfl
    rw[hvi] at g1
    cases g1
    rw[hvi]
    simp
   obtain ⟨w',g,cap,cur',fr,r1,r2,r3,r4,r5,r6,r7,r8,r9⟩:=ZqR ht hop hlx h hk hl hK hfl hyv hi0 hel hel'
   exact ⟨l,_,w',g,cap,rfl,r1,r2,r3,r4,r5,r6,r7,r8,by simp,r9⟩
  split at hE
  ·rename_i q
   cases hE
   refine ZdC hd rfl fun w0 F0 X0 κ1 σ a w F F1 fp fp1 kk r h h1 htt hg hF hfp hall hlv hdy=> ?_
   cases hg
   have hdy':((ZgC (sv κ x) (sv κ y) (ZcY off ti.size) (dv κ σ x) (dv κ σ y)).bind kk)=some r:=by rw[hops] at hdy;exact hdy
   obtain ⟨z,hz,hkk⟩:=Option.bind_eq_some_iff.1 hdy'
   obtain ⟨l,l',w',g,cap,rfl,r1,r2,r3,r4,r5,r6,r7,r8,r9,r10⟩:=main w0 F0 X0 σ a w F1 fp1 z h1 (Zc hlv (by rw[hop];exact .head _)) hz
   have e1:tv a.tmps q=.slice (some ⟨g,0,none⟩) l.length cap:=r8
   refine ⟨_,w',[g],r1,hkk,r2,r3,r4,r5,fun b _ hbn=>r7 b (fun e=>hbn (e▸r6)),by simp,⟨l',rfl, ?_⟩,by have:g∈fp1 q:=r6;simpa using this,rfl,fun hbx=> ?_⟩
   ·rw[e1];exact r10
   ·exfalso
    have hk':kOp κ x=.elm (.slot q) sz off:=hk
    unfold Zfj at hK
    rw[hk] at hK
    dsimp only at hK
    split at hK
    case h_2=>cases hK
    rename_i a' e' s' hpk
    have hq:kd κ q=.ck (.own a' e' s'):=by simpa[sv,hk',Kd.dep,Place.of] using hpk
    simp only at hbx
    rw[hq] at hbx
    cases hbx
  ·rename_i q oo
   split at hE
   case h_2=>cases hE
   rename_i TT ks hpk
   cases hE
   refine ZdC hd rfl fun w0 F0 X0 κ1 σ a w F F1 fp fp1 kk r h h1 htt hg hF hfp hall hlv hdy=> ?_
   cases hg
   have hk':kOp κ x=.elm (.cell q oo) sz off:=hk
   have hq:kd κ q=.box TT ks:=by simpa[sv,hk',Kd.dep,Place.of] using hpk
   have hdy':(((ZgC (sv κ x) (sv κ y) (ZcY off ti.size) (dv κ σ x) (dv κ σ y)).map fun y'=>PV.agg ((dv κ σ x).pv.cells.set oo y')).bind kk)=some r:=by rw[hops] at hdy;exact hdy
   obtain ⟨z,hz,hkk⟩:=Option.bind_eq_some_iff.1 hdy'
   obtain ⟨z',hz',rfl⟩:=Option.map_eq_some_iff.1 hz
   obtain ⟨l,l',w',g,cap,rfl,r1,r2,r3,r4,r5,r6,r7,r8,r9,r10⟩:=main w0 F0 X0 σ a w F1 fp1 z' h1 (Zc hlv (by rw[hop];exact .head _)) hz'
   obtain ⟨lb,hn,hsub,hsr⟩:=h1.sr q
   rw[hq] at hsr
   obtain ⟨b0,cs,xs,fps,ev,ex,hheap,hgrp,rfl⟩:=hsr
   have e2:(dv κ σ x).pv=.agg xs:=by simpa[dv,hk',Kd.dep,Place.of] using ex
   rw[e2] at hkk
   obtain ⟨b1,t1,t2⟩:=r8
   rw[ev] at t1
   simp at t1
   subst t1
   have t2':=t2
   rw[cell_of_row w b0 oo cs TT (0,0) hheap] at t2
   have hks:ks[oo]?=some (.own app e sz):=by
    unfold Zfj at hK
    rw[hk] at hK
    dsimp only at hK
    split at hK
    case h_2=>cases hK
    rename_i a' e' s' hpk'
    cases hK
    obtain ⟨T2,ks2,hb2,hk2⟩:=ZcP hpk'
    rw[hpk] at hb2
    cases hb2
    exact hk2
   obtain ⟨y0,v0,lb0,hx0,hv0,hf0,hcr0⟩:=hgrp.ks_at hks
   obtain ⟨l00,rfl,hrow0⟩:=hcr0
   have hv0':v0=.slice (some ⟨g,0,none⟩) l.length cap:=by
    have:cs[oo]?=some v0:=by simpa using hv0
    rw[this] at t2
    exact Option.some.inj t2
   subst hv0'
   have hlb0:lb0=[g]:=by
    rw[Zr hfl] at hrow0
    rcases hrow0 with ⟨h1',_,_⟩|⟨g',_,_,_,h1',h2',_⟩
    ·simp at h1'
    ·simp at h1';rw[h2',h1'.1]
   subst hlb0
   have hgf:g∈fps.flatten:=List.mem_flatten.2 ⟨[g],List.mem_of_getElem? hf0,by simp⟩
   have hb0g:b0≠g:=fun e=>(List.nodup_cons.1 hn).1 (e▸hgf)
   have hst:Stays w F1 w' F1:=⟨fun _ h=>h,fun c hc=>r7 c (fun e=>(h1.pr _ g r6).2.1 (e▸hc))⟩
   have hgrp':GrpR w' F1 true ks (xs.set oo (.lst l')) cs.toList fps:=by
    have hw:=hgrp.weak (c:=.none) hx0 hv0 rfl
    have hw2:=hw.keep hst (fun c hc=>r7 c (fun e=>Zaf (List.nodup_cons.1 hn).2 hf0 (by simp) (e▸hc)))
    have hw3:=hw2.set oo (k:=.own app e sz) (x:=.lst l') (v:=.slice (some ⟨g,0,none⟩) l.length cap) (fp:=[g]) ⟨l',rfl,r10⟩ (fun _=>rfl)
    have s1:(ks.set oo CK.none).set oo (.own app e sz)=ks:=by
     rw[List.set_set]
     apply List.ext_getElem?
     intro j
     rw[List.getElem?_set]
     by_cases ej:oo=j
     ·subst ej;rw[hks];simp[(List.getElem?_eq_some_iff.1 hks).1]
     ·simp[ej]
    have s2:cs.toList.set oo (.slice (some ⟨g,0,none⟩) l.length cap)=cs.toList:=by
     apply List.ext_getElem?
     intro j
     rw[List.getElem?_set]
     by_cases ej:oo=j
     ·subst ej;have hlt:=(List.getElem?_eq_some_iff.1 hv0).1;rw[hv0];simpa using hlt
     ·simp[ej]
    have s3:(fps.set oo []).set oo [g]=fps:=by
     rw[List.set_set]
     apply List.ext_getElem?
     intro j
     rw[List.getElem?_set]
     by_cases ej:oo=j
     ·subst ej;rw[hf0];simp[(List.getElem?_eq_some_iff.1 hf0).1]
     ·simp[ej]
    rw[s1,s2,s3] at hw3
    exact hw3
   refine ⟨_,w',b0::fps.flatten,r1,hkk,r2,r3,r4,r5,fun b _ hbn=>r7 b (fun e=>hbn (e▸r6)),hn,⟨b0,cs,_,fps,ev,rfl,by rw[r7 b0 hb0g];exact hheap,hgrp',rfl⟩,hsub,rfl,fun _=>⟨rfl,fun k y' u hk hcut hal=> ?_⟩⟩
   have cell:∀o2 (v:Value),(∃b',tv a.tmps q=.pointer (some ⟨b',0,none⟩)∧w.cell? ⟨b',o2,none⟩=some v)→∃b',tv a.tmps q=.pointer (some ⟨b',0,none⟩)∧w'.cell? ⟨b',o2,none⟩=some v:=by
    rintro o2 v ⟨b',hb1,hb2⟩
    rw[ev] at hb1
    simp at hb1
    subst hb1
    exact ⟨b0,ev,(World.cell?_of_block (w:=w) (a:=⟨b0,o2,none⟩) (r7 b0 hb0g)).trans hb2⟩
   cases k with
   | ali p'=>
    cases p' with
    |slot q'=>simp[Kd.bdep] at hk
    |cell q' o2=>simp only[Kd.bdep,Option.some.injEq] at hk;subst hk;exact cell o2 u hal
   | elm p' sz'' o'=>
    cases p' with
    |slot q'=>simp[Kd.bdep] at hk
    | cell q' o2=>
     simp only[Kd.bdep,Option.some.injEq] at hk
     subst hk
     obtain ⟨i,b',m,cap',u1,u2,u3,u4⟩:=hal
     exact ⟨i,b',m,cap',u1,u2,cell o2 _ u3,u4⟩
   |bxf q' o'=>obtain ⟨b',u1,u2⟩:=hal;exact ⟨b',u1,u2⟩
   | gal q' n'=>
    simp only[Kd.bdep,Option.some.injEq] at hk
    subst hk
    obtain ⟨cs',u1,u2,u3⟩:=hal
    exact ⟨cs',u1,u2,fun j c hc=>cell j c (u3 j c hc)⟩
   |ck c=>simp[Kd.bdep] at hk
   |box T ks=>simp[Kd.bdep] at hk
   |grp t ks=>simp[Kd.bdep] at hk
   |ipt=>simp[Kd.bdep] at hk
   |clo f=>simp[Kd.bdep] at hk
   |cln f=>simp[Kd.bdep] at hk
   |mp kt et=>simp[Kd.bdep] at hk
   |mbx s=>simp[Kd.bdep] at hk
   |tl q=>simp[Kd.bdep] at hk
   |tt=>simp[Kd.bdep] at hk
   |tgr sh ks=>simp[Kd.bdep] at hk
   |tip=>simp[Kd.bdep] at hk
end
def Zag (n:Nat) (x:PV):Bool:=(Zd n x).isSome
def appV (n:Nat) (s x:SV):DV→DV→Option PV:=fun ds dx=>
 (Zh s ds).bind fun ls=>(Zh x dx).bind fun lx=>if ls.length+lx.length≤4294967296∧lx.all (Zag n)=true then some (.lst (ls++lx)) else none
def Zhn :Option (Option (Bool×TypeId×Nat))→Bool
 |some (some (_,_,sz))=>decide (sz<dB)
 |_=>true
def Zh4 {R:Type} (T:Tab) (d:Nat) (t t2:TypeId) (s x:SV):Option (Eff R):=
 match T.lookup t with
 |none=>none
 | some ti=>
  match ti.desc with
  | .slice e=>
   match T.lookup e with
   |none=>none
   | some te=>
    if t≠t2∨te.size=0∨32768<te.bytes∨(Z8 x).isSome=false∨Zhn (Z8 x)=false then none else
    match s.k with
    |.ck .nil=>some {gh:=[],tgt:=d,put:=true,k:=.ck (.own true e te.size),cut:=.no,dyn:=ZaV (appV te.size s x)}
    | _=>
     match Z8 s,ZaJ s with
     | some (some (true,e',sz)),some (q,i)=>
      if e'=e∧sz=te.size then some {gh:=[⟨q,i,false,true,e,te.size⟩],tgt:=d,put:=true,k:=.ck (.own true e te.size),cut:=.no,dyn:=ZaV (appV te.size s x)}
      else none
     |_,_=>none
  |_=>none
section
variable {R :Type} {P:Program} {T:Tab} {o:Oper} {κ κ1:List Kd} {E:Eff R}
variable {w0 :World} {F0:Nat→Prop} {X0:List Nat} {σ:List PV} {a:Act} {w:World} {F F1:Nat→Prop} {fp fp1:Nat→List Nat}
theorem Zb3.of_prefix {sz:Nat} {l:List PV} {xs:List Value} {C:Array Value} (h:Zb3 w F sz l xs.toArray) (hp:∀k,k<xs.length→C[k]?=xs[k]?):Zb3 w F sz l C:=fun i x hx=>by
 obtain ⟨h1,h2,u,h3,h4⟩:=h i x hx
 refine ⟨h1,h2,u,h3,fun j c hc=> ?_⟩
 have:=h4 j c hc
 have hlt:=(Array.getElem?_eq_some_iff.1 this).1
 rw[hp _ (by simpa using hlt)]
 simpa using this
theorem Zb3.to_list {sz:Nat} {l:List PV} {cur:Array Value} (h:Zb3 w F sz l cur) (hle:l.length * sz≤cur.size):Zb3 w F sz l (cur.toList.take (l.length * sz)).toArray:=fun i x hx=>by
 obtain ⟨h1,h2,u,h3,h4⟩:=h i x hx
 refine ⟨h1,h2,u,h3,fun j c hc=> ?_⟩
 have hc':=h4 j c hc
 have hj:j<sz:=by rw[←h1,(h3.cells h2).1];exact (Array.getElem?_eq_some_iff.1 hc).1
 have hi:i<l.length:=(List.getElem?_eq_some_iff.1 hx).1
 have:(i+1) * sz≤l.length * sz:=Nat.mul_le_mul_right _ hi
 rw[Nat.succ_mul] at this
 rw[List.getElem?_toArray,List.getElem?_take,if_pos (by omega)]
 simpa using hc'
theorem Zb3.append {sz:Nat} {l l':List PV} {xs ys:List Value} (h:Zb3 w F sz l xs.toArray) (h':Zb3 w F sz l' ys.toArray) (hl:xs.length=l.length * sz):Zb3 w F sz (l++l') (xs++ys).toArray:=fun i x hx=>by
 rw[List.getElem?_append] at hx
 split at hx
 ·obtain ⟨h1,h2,u,h3,h4⟩:=h i x hx
  refine ⟨h1,h2,u,h3,fun j c hc=> ?_⟩
  have:=h4 j c hc
  have hlt:=(Array.getElem?_eq_some_iff.1 this).1
  rw[List.getElem?_toArray,List.getElem?_append,if_pos (by simpa using hlt)]
  simpa using this
 ·rename_i hge
  obtain ⟨h1,h2,u,h3,h4⟩:=h' _ x hx
  refine ⟨h1,h2,u,h3,fun j c hc=> ?_⟩
  have:=h4 j c hc
  have e1:i * sz=l.length * sz+(i - l.length) * sz:=by rw[←Nat.add_mul];congr 1;omega
  rw[List.getElem?_toArray,List.getElem?_append,if_neg (by omega)]
  rw[show i * sz+j - xs.length=(i - l.length) * sz+j from by omega]
  simpa using this
theorem ZeA (h:St w0 F0 X0 κ σ a.tmps w F fp) {x:Operand} (hlx:ZaM κ σ x) {l:List PV} {sz:Nat} (hl:Zh (sv κ x) (dv κ σ x)=some l) (hok:l.all (Zag sz)=true) (hsz:sz≠0) (hK:(Z8 (sv κ x)).isSome=true) (hfl:Zhn (Z8 (sv κ x))=true):
 ∃(A:Option Addr) (c:Nat),a.eval x=.slice A l.length c∧(l≠[]→∃(ad:Addr) (news:List Value),A=some ad∧news.length=l.length * sz∧(∀(j:Nat) (u:Value),news[j]?=some u→w.cell? (ad.add j)=some u)∧(∀u∈news,u.oneCell'=true)∧Zb3 w F sz l news.toArray):=by
 have hw:∀(i:Nat) (y:PV),l[i]?=some y→y.width=sz∧y≠.undef:=fun i y hy=>by
  have:=List.all_eq_true.1 hok y (List.mem_of_getElem? hy)
  unfold Zag at this
  obtain ⟨cl,hcl⟩:=Option.isSome_iff_exists.1 this
  obtain ⟨_,_,h3,h4⟩:=Za8 hcl
  exact ⟨h3,h4⟩
 obtain ⟨A,c,he⟩:=Zld h (x:=x) hlx (l:=l) hl
 refine ⟨A,c,he,fun hne=> ?_⟩
 have hlen0:0<l.length:=List.length_pos_iff.2 hne
 by_cases hv:(sv κ x).isV=true
 ·have hx:=rdS h hv
  have hd:(dv κ σ x).v=.lst l:=by
   unfold Zh at hl
   rw[if_pos hv] at hl
   split at hl
   ·rename_i l' e1;cases hl;exact e1
   ·cases hl
  rw[hd,he] at hx
  cases hx with
  | lst _ _ _ sz' vs h1 h2 h3 h4 h5=>
   obtain ⟨b,off,rfl,hF,hc⟩:=h3 hne
   have hs:sz'=sz:=by
    obtain ⟨y,hy⟩:∃y,l[0]?=some y:=⟨l[0],List.getElem?_eq_getElem hlen0⟩
    rw[←(h4 0 y hy).1];exact (hw 0 y hy).1
   subst hs
   have hvs:∀i,i<l.length→(vs i).cells.size=sz':=fun i hi=>(h4 i l[i] (List.getElem?_eq_getElem hi)).2
   have hget:∀i j,i<l.length→j<sz'→((List.range (l.length * sz')).map fun k=>(vs (k / sz')).cells.getD (k % sz') Go.undef)[i * sz'+j]?=some ((vs i).cells.getD j Go.undef):=by
    intro i j hi hj
    have:(i+1) * sz'≤l.length * sz':=Nat.mul_le_mul_right _ hi
    rw[Nat.succ_mul] at this
    have hlt:i * sz'+j<l.length * sz':=by omega
    rw[List.getElem?_map,List.getElem?_range hlt]
    have e1:(i * sz'+j) / sz'=i:=by rw[Nat.mul_comm,Nat.mul_add_div (by omega),Nat.div_eq_of_lt hj,Nat.add_zero]
    have e2:(i * sz'+j) % sz'=j:=by rw[Nat.mul_comm,Nat.mul_add_mod,Nat.mod_eq_of_lt hj]
    simp[e1,e2]
   have hat:∀k,k<l.length * sz'→k / sz'<l.length∧k % sz'<sz'∧k / sz' * sz'+k % sz'=k:=fun k hk=>
    ⟨(Nat.div_lt_iff_lt_mul (by omega)).2 hk,Nat.mod_lt _ (by omega),by rw[Nat.mul_comm];exact Nat.div_add_mod k sz'⟩
   refine ⟨⟨b,off,none⟩,(List.range (l.length * sz')).map fun k=>(vs (k / sz')).cells.getD (k % sz') Go.undef,rfl,by simp,fun k u hk=> ?_,fun u hu=> ?_,fun i y hy=> ?_⟩
   ·have hlt:=(List.getElem?_eq_some_iff.1 hk).1
    simp only[List.length_map,List.length_range] at hlt
    obtain ⟨a1,a2,a3⟩:=hat k hlt
    have:=hget _ _ a1 a2
    rw[a3,hk] at this
    rw[Addr.add_lit,←a3,←Nat.add_assoc]
    refine hc _ a1 _ _ ?_
    rw[Option.some.inj this]
    simp[Array.getD,hvs _ a1,a2]
   ·obtain ⟨k,hk⟩:=List.mem_iff_getElem?.1 hu
    have hlt:=(List.getElem?_eq_some_iff.1 hk).1
    simp only[List.length_map,List.length_range] at hlt
    obtain ⟨a1,a2,a3⟩:=hat k hlt
    have:=hget _ _ a1 a2
    rw[a3,hk] at this
    rw[Option.some.inj this]
    have hy:l[k / sz']?=some l[k / sz']:=List.getElem?_eq_getElem a1
    refine (h5 _ _ hy).store (hw _ _ hy).2 _ ?_
    refine List.mem_iff_getElem?.2 ⟨k % sz', ?_⟩
    simp[Array.getD,hvs _ a1,a2]
   ·obtain ⟨e1,e2⟩:=hw i y hy
    have hi:=(List.getElem?_eq_some_iff.1 hy).1
    refine ⟨e1,e2,vs i,h5 i y hy,fun j cc hcc=> ?_⟩
    have hj:j<sz':=by rw[←hvs i hi];exact (Array.getElem?_eq_some_iff.1 hcc).1
    rw[List.getElem?_toArray,hget i j hi hj]
    simp[Array.getD_eq_getD_getElem?,hcc]
 ·have hk:∃app e sz',Z8 (sv κ x)=some (some (app,e,sz')):=by
   obtain ⟨k,hk⟩:=Option.isSome_iff_exists.1 hK
   rw[hk]
   cases k with
   | none=>
    unfold Z8 at hk
    rw[if_neg hv] at hk
    split at hk
    ·cases hk
    ·split at hk<;>cases hk
    ·split at hk<;>cases hk
    ·cases hk
   |some p=>exact ⟨p.1,p.2.1,p.2.2,rfl⟩
  obtain ⟨app,e,sz',hk⟩:=hk
  obtain ⟨q,i,lb,r1,r2,r3,r4⟩:=ZbA h (x:=x) hlx (l:=l) hl hk
  rw[hk] at hfl
  rw[Zr (Zaa (by simpa[Zhn] using hfl))] at r2
  rcases r2 with ⟨s1,s2,s3⟩|⟨g,cap,cur,fr,s1,s2,s3,s4,s5,s6,s7,s8,s9⟩
  ·exact absurd s2 hne
  ·have hs:sz'=sz:=by
    obtain ⟨y,hy⟩:∃y,l[0]?=some y:=⟨l[0],List.getElem?_eq_getElem hlen0⟩
    rw[←(s9 0 y hy).1];exact (hw 0 y hy).1
   subst hs
   rw[s1] at he
   simp only[Value.slice.injEq] at he
   obtain ⟨rfl,_,rfl⟩:=he
   have hle:l.length * sz'≤cur.size:=by rw[s8];exact Nat.mul_le_mul_right _ s6
   have hel:=s9.to_list hle
   refine ⟨⟨g,0,none⟩,cur.toList.take (l.length * sz'),rfl,by simp;omega,fun k u hk=> ?_,fun u hu=> ?_,hel⟩
   ·rw[Addr.add_lit,Nat.zero_add,cell_of_row w g k cur e fr s3]
    rw[List.getElem?_take] at hk
    split at hk
    ·simpa using hk
    ·cases hk
   ·obtain ⟨k,hk⟩:=List.mem_iff_getElem?.1 hu
    have hlt:=(List.getElem?_eq_some_iff.1 hk).1
    have hlt':k<l.length * sz':=by simp at hlt;omega
    have a1:k / sz'<l.length:=(Nat.div_lt_iff_lt_mul (by omega)).2 hlt'
    have hy:l[k / sz']?=some l[k / sz']:=List.getElem?_eq_getElem a1
    obtain ⟨e1,e2,uu,e3,e4⟩:=s9 _ _ hy
    have hus:uu.cells.size=sz':=by rw[←(e3.cells e2).1];exact e1
    have hj:k % sz'<uu.cells.size:=by rw[hus];exact Nat.mod_lt _ (by omega)
    have:=e4 (k % sz') _ (Array.getElem?_eq_getElem hj)
    rw[show k / sz' * sz'+k % sz'=k from by rw[Nat.mul_comm];exact Nat.div_add_mod k sz'] at this
    rw[List.getElem?_take,if_pos hlt'] at hk
    have hk':cur[k]?=some u:=by simpa using hk
    rw[hk'] at this
    refine e3.store e2 u ?_
    rw[Option.some.inj this]
    exact Array.getElem_mem_toList hj
theorem ZiM {t ty e:TypeId} {te:TI} (ht:P.underlying t=some (.slice e)) (he:TyOk P e te) {A B:Option Addr} {n cap c:Nat} (hle:n≤cap) (w:World):
 (Builtin.append_ #[t,t] ty #[.slice A n cap,.slice B 0 c]).run P w=.ok (.slice A n cap) w:=by
 have h1:=he.run_sizeOf w
 cases B<;>cases A<;>simp[Builtin.append_,underlying,ht,h1,Builtin.lenOf,Builtin.firstCells,hle,storeCells,loadCells,loadCellsFrom]
theorem ZfA {n b:Nat} (hn:n≤4294967296) (hb:b≤32768):n * b≤140737488355328:=by
 have:=Nat.mul_le_mul hn hb
 omega
theorem Zle {e:TypeId} {te:TI} (he:TyOk P e te) {ls lx:List PV} {news:List Value} (hfl:∀b,F b→b<w.heap.size) (hmx:ls.length+lx.length≤maxLen) (n1:news.length=lx.length * te.size) (n4:Zb3 w F te.size lx news.toArray) (lb:List Nat)
 (old:Nat) (xs:List Value) (ho:old<ls.length+lx.length) (hxl:xs.length=ls.length * te.size) (hxe:Zb3 w F te.size ls xs.toArray):∀w',w'=w.drew.alloc (.cells (xs.toArray++news.toArray++Builtin.zeroCells he.zv.cells (grownCap w (ls.length+lx.length) old e - (ls.length+lx.length))) e)→
  w'.os=w.os∧w'.tape=w.tape∧w'.output=w.output∧w.heap.size≤w'.heap.size∧(∀b,b<w.heap.size→b∉lb→w'.heap[b]?=w.heap[b]?)∧
  Zfh w' F true e te.size (ls++lx) (.slice (some ⟨w.heap.size,0,none⟩) (ls.length+lx.length) (grownCap w (ls.length+lx.length) old e)) [w.heap.size]∧([w.heap.size]:List Nat).Nodup∧(∀b∈[w.heap.size],(b∈lb∨w.heap.size≤b)∧b<w'.heap.size):=by
 intro w' hw'
 have hge:=grownCap_ge w (ls.length+lx.length) old e
 have hcm:=grownCap_le_maxLen w (ls.length+lx.length) old e hmx
 have hst:Stays w F w' F:=⟨fun _ h=>h,fun b hb=>by rw[hw'];exact Below.heap_alloc w.drew _ b (hfl b hb)⟩
 have hz:he.zv.cells.size=te.size:=he.hzs
 refine ⟨by rw[hw'];rfl,by rw[hw'];rfl,by rw[hw'];rfl,by rw[hw'];simp,fun b hb _=>by rw[hw'];exact Below.heap_alloc w.drew _ b hb,.inr ⟨w.heap.size,_,_,(0,0),by simp,rfl,by rw[hw'];exact heap_alloc_new w.drew _,fun _=>rfl,.inl (Nat.le_refl _),by simpa using hge,hcm, ?_, ?_⟩,by simp,fun b hb=> ?_⟩
 ·simp only[Array.size_append,List.size_toArray,size_zeroCells,hz,hxl,n1,←Nat.add_mul]
  congr 1
  omega
 ·refine ((hxe.append n4 hxl).keep hst).of_prefix fun k hk=> ?_
  simp only[Array.append_assoc]
  rw[←Array.append_assoc,Array.getElem?_append_left (by simpa using hk)]
  simp
 ·simp at hb;subst hb;exact ⟨.inr (Nat.le_refl _),by rw[hw'];simp⟩
theorem Znz {t ty e:TypeId} {te:TI} (ht:P.underlying t=some (.slice e)) (he:TyOk P e te) (hsz:te.size≠0) (hby:te.bytes≤32768) {ls lx:List PV} {v:Value} {lb:List Nat} (hrow:Zfh w F true e te.size ls v lb) (hfl:∀b,F b→b<w.heap.size) (hnF:∀b∈lb,¬F b)
 {A:Option Addr} {c:Nat} (hsrc:lx≠[]→∃(ad:Addr) (news:List Value),A=some ad∧news.length=lx.length * te.size∧(∀(j:Nat) (u:Value),news[j]?=some u→w.cell? (ad.add j)=some u)∧(∀u∈news,u.oneCell'=true)∧Zb3 w F te.size lx news.toArray)
 (hlen:ls.length+lx.length≤4294967296):
 ∃ (v':Value) (w':World) (lb':List Nat),(Builtin.append_ #[t,t] ty #[v,.slice A lx.length c]).run P w=.ok v' w'∧w'.os=w.os∧w'.tape=w.tape∧w'.output=w.output∧w.heap.size≤w'.heap.size∧(∀b,b<w.heap.size→b∉lb→w'.heap[b]?=w.heap[b]?)∧
  Zfh w' F true e te.size (ls++lx) v' lb'∧lb'.Nodup∧(∀b∈lb',(b∈lb∨w.heap.size≤b)∧b<w'.heap.size):=by
 by_cases hlx:lx=[]
 ·subst hlx
  obtain ⟨A',c',rfl⟩:=hrow.slice_eq
  have hle:ls.length≤c'∧lb.Nodup∧∀b∈lb,b<w.heap.size:=by
   rcases hrow with ⟨s1,s2,s3⟩|⟨g,cap,cur,fr,s1,s2,s3,s4,s5,s6,s7,s8,s9⟩
   ·subst s2 s3;simp
   ·simp at s1;obtain ⟨_,rfl⟩:=s1;subst s2;exact ⟨s6,by simp,by simpa using (Array.getElem?_eq_some_iff.1 s3).1⟩
  exact ⟨_,w,lb,ZiM ht he hle.1 w,rfl,rfl,rfl,Nat.le_refl _,fun _ _ _=>rfl,by simpa using hrow,hle.2.1,fun b hb=>⟨.inl hb,hle.2.2 b hb⟩⟩
 ·obtain ⟨ad,news,rfl,n1,n2,n3,n4⟩:=hsrc hlx
  have hm0:0<lx.length:=List.length_pos_iff.2 hlx
  have hbyt:=ZfA hlen hby
  have hrb:(ls.length+lx.length) * he.row.bytes≤140737488355328:=by rw[he.hbytes];exact hbyt
  have hmx:ls.length+lx.length≤maxLen:=by unfold maxLen;omega
  have n1':news.length=lx.length * he.row.size:=by rw[he.hsize];exact n1
  have grown:=fun (old:Nat) (xs:List Value)=>Zle he hfl hmx n1 n4 lb (ls:=ls) old xs
  rcases hrow with ⟨rfl,rfl,rfl⟩|⟨g,cap,cur,fr,rfl,rfl,s3,s4,s5,s6,s7,s8,s9⟩
  ·have hr:=run_append_nil (P:=P) w t ty e he.row he.zv ht he.hrow he.hz ad lx.length c news n1' n2 hm0 (by simp at hlen;omega) (by simp only[List.length_nil,Nat.zero_add] at hrb;omega)
   have hg:=grown 0 [] (by omega) (by simp) (fun i x hx=>by simp at hx) _ rfl
   simp only[List.length_nil,Nat.zero_add,List.nil_append,Array.empty_append] at hg
   exact ⟨_,_,_,hr,hg⟩
  ·obtain rfl:=s4 rfl
   have hle:ls.length * te.size≤cur.size:=by rw[s8];exact Nat.mul_le_mul_right _ s6
   by_cases hroom:ls.length+lx.length≤cap
   ·have hfit:ls.length * te.size+news.length≤cur.size:=by rw[n1,s8,←Nat.add_mul];exact Nat.mul_le_mul_right _ hroom
    have hfit':ls.length * he.row.size+news.length≤cur.size:=by rw[he.hsize];exact hfit
    have hr:=run_append_room (P:=P) w t ty e he.row ht he.hrow g ls.length cap cur s3 ad lx.length c news n1' n2 n3 hroom hfit'
    rw[he.hsize] at hr
    have hst:Stays w F (w.setRow g (cur.toList.take (ls.length * te.size)++news++cur.toList.drop (ls.length * te.size+news.length)).toArray) F:=⟨fun _ h=>h,fun b hb=>setRow_other w g b _ (fun e=>hnF g (by simp) (e▸hb))⟩
    refine ⟨_,_,[g],hr,rfl,rfl,rfl,by rw[size_setRow];exact Nat.le_refl _,fun b _ hb=>setRow_other w g b _ (by simpa using hb),.inr ⟨g,cap,_,(0,0),by simp,rfl,setRow_heap w g cur _ e _ s3,fun _=>rfl,.inl (Nat.le_refl _),by simpa using hroom,s7, ?_, ?_⟩,by simp,fun b hb=> ?_⟩
    ·simp only[List.size_toArray,List.length_append,List.length_take,List.length_drop,Array.length_toList]
     omega
    ·have hl1:(cur.toList.take (ls.length * te.size)).length=ls.length * te.size:=by simp;omega
     refine (((s9.to_list hle).append n4 hl1).keep hst).of_prefix fun k hk=> ?_
     rw[List.getElem?_toArray,List.getElem?_append_left hk]
    ·simp at hb;subst hb;exact ⟨.inl (by simp),by rw[size_setRow];exact (Array.getElem?_eq_some_iff.1 s3).1⟩
   ·have hl1:(cur.toList.take (ls.length * te.size)).length=ls.length * te.size:=by simp;omega
    have holds:∀(j:Nat) (u:Value),(cur.toList.take (ls.length * te.size))[j]?=some u→w.cell? ((⟨g,0,none⟩:Addr).add j)=some u:=fun j u hj=>by
     rw[Addr.add_lit,Nat.zero_add,cell_of_row w g j cur e (0,0) s3]
     rw[List.getElem?_take] at hj
     split at hj
     ·simpa using hj
     ·cases hj
    have hr:=run_append_grow (P:=P) w t ty e he.row he.zv ht he.hrow he.hz ⟨g,0,none⟩ ls.length cap _ (by rw[he.hsize];exact hl1) holds ad lx.length c news n1' n2 (by omega) (by omega) (growslice_fits (by omega) hrb)
    exact ⟨_,_,_,hr,grown cap _ (by omega) hl1 (s9.to_list hle) _ rfl⟩
theorem ZjM {t ty e:TypeId} {te:TI} (ht:P.underlying t=some (.slice e)) (he:TyOk P e te) (hsz:te.size≠0) (hby:te.bytes≤32768) {ls lx:List PV} {v:Value} {lb:List Nat} (hrow:Zal w F true e te.size ls v lb) (hfl:∀b,F b→b<w.heap.size) (hnF:∀b∈lb,¬F b)
 {A:Option Addr} {c:Nat} (hsrc:lx≠[]→∃(ad:Addr) (news:List Value),A=some ad∧news.length=lx.length * te.size∧(∀(j:Nat) (u:Value),news[j]?=some u→w.cell? (ad.add j)=some u)∧(∀u∈news,u.oneCell'=true)∧Zb3 w F te.size lx news.toArray)
 (hlen:ls.length+lx.length≤4294967296):
 ∃ (v':Value) (w':World) (lb':List Nat),(Builtin.append_ #[t,t] ty #[v,.slice A lx.length c]).run P w=.ok v' w'∧w'.os=w.os∧w'.tape=w.tape∧w'.output=w.output∧w.heap.size≤w'.heap.size∧(∀b,b<w.heap.size→b∉lb→w'.heap[b]?=w.heap[b]?)∧
  Zal w' F true e te.size (ls++lx) v' lb'∧lb'.Nodup∧(∀b∈lb',(b∈lb∨w.heap.size≤b)∧b<w'.heap.size):=by
 obtain ⟨v',w',lb',h1,h2,h3,h4,h5,h6,h7,h8⟩:=Znz ht he hsz hby ((Zr (Zaa he.hsm)).1 hrow) hfl hnF hsrc hlen (ty:=ty) (c:=c)
 exact ⟨v',w',lb',h1,h2,h3,h4,h5,h6,(Zr (Zaa he.hsm)).2 h7,h8⟩
end
def elsV (n:Nat):List DV→Option (List PV)
 |[]=>some []
 |d::r=>(Zd n d.v).bind fun _=>(elsV n r).bind fun l=>some (d.v::l)
theorem Zp5 {n:Nat}:∀{ds:List DV} {l:List PV},elsV n ds=some l→l=ds.map DV.v∧(ds.all fun d=>Zag n d.v)=true
 |[],l,h=>by simp[elsV] at h;subst h;simp
 | d::r,l,h=>by
  unfold elsV at h
  obtain ⟨c,hc,h⟩:=Option.bind_eq_some_iff.1 h
  obtain ⟨l',hl',h⟩:=Option.bind_eq_some_iff.1 h
  cases h
  obtain ⟨h1,h2⟩:=Zp5 hl'
  refine ⟨by rw[h1];rfl, ?_⟩
  rw[List.all_cons,h2]
  simp[Zag,hc]
def ZoX (n:Nat) (ds:List DV):Option PV:=(elsV n ds).bind fun l=>some (.lst l)
def ZjN :Nat→List (Nat×Operand)→Bool
 |_,[]=>true
 |i,(j,_)::r=>i=j&&ZjN (i+1) r
def Zek {R:Type} (T:Tab) (d:Nat) (t:TypeId) (len:Nat) (parts:List (Nat×Operand)) (svs:List SV):Option (Eff R):=
 match T.lookup t with
 |none=>none
 | some ti=>
  match ti.desc with
  | .slice e=>
   match T.lookup e with
   |none=>none
   | some te=>
    if parts.length=len∧ZjN 0 parts=true∧svs.all SV.isV=true∧te.size≠0∧len * te.size≤65536 then
     some (Zj d (.ck (.own true e te.size)) fun ds kk=>(ZoX te.size ds).bind kk)
    else none
  |_=>none
def SV.grpAt (x:SV):Option (Nat×List CK):=
 match x.k with
 |.grp true ks=>x.slot.map fun s=>(s,ks)
 |.ali (.slot q)=>match x.pk with|.grp true ks=>some (q,ks)|_=>none
 |_=>none
def PV.parts :PV→List PV
 |.tup l=>l
 |.agg l=>l
 |_=>[]
def Zdb (x:SV) (d:DV):List PV:=
 match x.k with
 |.grp _ _=>d.v.parts
 |_=>d.pv.parts
def Zax {R:Type} (d:Nat) (ix:Nat) (x:SV):Option (Eff R):=
 match x.grpAt with
 |none=>none
 | some (s,ks)=>
  match ks[ix]? with
  |some .val=>some (Zj d (.ck .val) (Zbl fun y=>(Zdb x y)[ix]?))
  |some .nil=>some (Zj d (.ck .nil) (Zbl fun y=>(Zdb x y)[ix]?))
  |some (.own app e sz)=>if s=d∨tgB≤ix then none else some {gh:=[⟨s,some ix,false,app,e,sz⟩],tgt:=d,put:=true,k:=.ck (.own app e sz),cut:=.no,dyn:=Zbl fun y=>(Zdb x y)[ix]?}
  |_=>none
def SV.tgrAt (x:SV):Option (Nat×List (Option Nat)×List CK):=
 match x.k with
 |.tgr sh ks=>x.slot.map fun s=>(s,sh,ks)
 |.ali (.slot q)=>match x.pk with|.tgr sh ks=>some (q,sh,ks)|_=>none
 |_=>none
def ZkG (x:SV) (d:DV):List PV:=
 match x.k with
 |.tgr _ _=>d.v.parts
 |_=>d.pv.parts
def Zlf :List (Option Nat)→Nat→Option (Nat×Option Nat)
 |[],_=>none
 |c::_,0=>some (0,c)
 |c::r,i+1=>(Zlf r i).map fun p=>(c.getD 1+p.1,p.2)
def ZfB {R:Type} (d:Nat) (ix:Nat) (x:SV):Option (Eff R):=
 match x.tgrAt with
 |none=>none
 | some (s,sh,ks)=>
  match Zlf sh ix with
  |none=>none
  | some (off,none)=>
   match ks[off]? with
   |some .val=>some (Zj d (.ck .val) (Zbl fun y=>(ZkG x y)[ix]?))
   |some .nil=>some (Zj d (.ck .nil) (Zbl fun y=>(ZkG x y)[ix]?))
   |some (.own app e sz)=>if s=d then none else some {gh:=[⟨s,some (off+tgB),false,app,e,sz⟩],tgt:=d,put:=true,k:=.ck (.own app e sz),cut:=.no,dyn:=Zbl fun y=>(ZkG x y)[ix]?}
   |_=>none
  | some (off,some n)=>
   if s≠d∧((ks.drop off).take n).length=n then some {gh:=ZcA s (off+tgB) ((ks.drop off).take n),tgt:=d,put:=true,k:=.grp false ((ks.drop off).take n),cut:=.no,dyn:=Zbl fun y=>(ZkG x y)[ix]?} else none
def Zgk :Kd→Bool
 |.tip=>true
 |_=>false
def ZfC {R:Type} (d:Nat) (ix:Nat):Option (Eff R):=
 match ix with
 |0=>some (Zj d .ipt (Zbl fun y=>y.v.parts[0]?))
 |1=>some (Zj d (.ck .val) (Zbl fun y=>y.v.parts[1]?))
 |_=>none
def Zas {R:Type} (d:Nat) (ix:Nat) (x:SV):Option (Eff R):=
 match Zgk x.k with
 |true=>ZfC d ix
 |false=>
 match x.tgrAt with
 |none=>Zax d ix x
 |some _=>ZfB d ix x
section
variable {R :Type} {P:Program} {T:Tab} {o:Oper} {κ κ1:List Kd} {E:Eff R}
variable {w0 :World} {F0:Nat→Prop} {X0:List Nat} {σ:List PV} {a:Act} {w:World} {F F1:Nat→Prop} {fp fp1:Nat→List Nat}
theorem ZcZ (h:St w0 F0 X0 κ σ a.tmps w F fp) {x:Operand} (hlx:ZaM κ σ x) {q:Nat} {i:Option Nat} (hA:ZaJ (sv κ x)=some (q,i)) {fz app:Bool} {e:TypeId} {sz:Nat} {y:PV} {v:Value} (hg:GhV ⟨q,i,fz,app,e,sz⟩ σ a.tmps w y v):v=a.eval x:=by
 unfold ZaJ at hA
 split at hA
 ·obtain ⟨s2,hs2,e2⟩:=Option.map_eq_some_iff.1 hA
  cases e2
  obtain rfl:=Zav hs2
  exact hg.1.symm
 ·rename_i q' hk
  cases hA
  have hal:=h.al' x hlx
  rw[hk] at hal
  exact hg.1.symm.trans hal
 ·rename_i q' off' hk
  cases hA
  have hal:=h.al' x hlx
  rw[hk] at hal
  obtain ⟨b1,t1,t2⟩:=hal
  rcases hg with ⟨b',xs',g1,g2,g3,g4⟩|⟨tt,cs',xs',g1,g2,g3,g4,_⟩|⟨cs',xs',g1,_⟩
  ·simp only at g1;rw[t1] at g1;simp at g1;subst g1;rw[t2] at g2;exact (Option.some.inj g2).symm
  ·simp only at g1;rw[t1] at g1;cases tt<;>simp at g1
  ·simp only at g1;rw[t1] at g1;cases g1
 ·cases hA
theorem ZT {t e:TypeId} {ti:TI} (ht:TyOk P t ti) (hd:ti.desc=.slice e):P.underlying t=some (.slice e):=by
 have h2:=ht.hd
 rw[hd] at h2
 have h3:=ht.hdesc
 cases hdd:ht.desc<;>rw[hdd] at h2<;>simp[ZeR] at h2
 rw[hdd] at h3
 rw[h2]
 exact h3
theorem Zme (hT:TabOk P T) {t t2:TypeId} {s x:Operand} {d:Nat} (hop:o.op=.call {callee:=.builtin .append,args:= #[s,x],argTypes:= #[t,t2]}) (hd:o.dst=some d) (hE:Zh4 T d t t2 (sv κ s) (sv κ x)=some E):ZN P o κ E:=by
 have hops:o.op.operands.toList=[s,x]:=by rw[hop];rfl
 unfold Zh4 at hE
 split at hE
 case h_1=>cases hE
 rename_i ti hi
 obtain ⟨ht⟩:=hT.ty hi
 split at hE
 case h_2=>cases hE
 rename_i e hds
 have hus:=ZT ht hds
 split at hE
 case h_1=>cases hE
 rename_i te hte
 obtain ⟨he⟩:=hT.ty hte
 split at hE
 case isTrue=>cases hE
 rename_i hc
 have ht2:t=t2:=Classical.byContradiction fun h=>hc (.inl h)
 subst ht2
 have hsz:te.size≠0:=fun h=>hc (.inr (.inl h))
 have hby:te.bytes≤32768:=Nat.le_of_not_lt fun h=>hc (.inr (.inr (.inl h)))
 have hxK:(Z8 (sv κ x)).isSome=true:=by cases hh:(Z8 (sv κ x)).isSome;exact absurd (.inr (.inr (.inr (.inl hh)))) hc;rfl
 have hxF:Zhn (Z8 (sv κ x))=true:=by cases hh:Zhn (Z8 (sv κ x));exact absurd (.inr (.inr (.inr (.inr hh)))) hc;rfl
 have run:∀{ρ:Operand→Value} {w w':World} {v':Value},(∀ty,(Builtin.append_ #[t,t] ty #[ρ s,ρ x]).run P w=.ok v' w')→(execOp ρ o).run P w=.ok (.value v') w':=by
  intro ρ w w' v' h
  obtain ⟨cs,hcs⟩:=Zai (P:=P) hop ρ w
  rw[hcs]
  have:=h o.type
  simp[builtin,this]
 split at hE
 ·rename_i hk
  cases hE
  refine Zb5 hd rfl fun w0 F0 X0 κ1 σ a w F F1 fp fp1 kk r h h1 htt hg hF hall hlv hdy=> ?_
  cases hg
  have hdy':((appV te.size (sv κ s) (sv κ x) (dv κ σ s) (dv κ σ x)).bind kk)=some r:=by rw[hops] at hdy;exact hdy
  obtain ⟨z,hz,hkk⟩:=Option.bind_eq_some_iff.1 hdy'
  obtain ⟨ls,hls,hz⟩:=Option.bind_eq_some_iff.1 hz
  obtain ⟨lx,hlx,hz⟩:=Option.bind_eq_some_iff.1 hz
  split at hz
  case isFalse=>cases hz
  rename_i hlen
  cases hz
  obtain ⟨l,_,hsr⟩:=h1.at' s (by rw[hk];simp)
  rw[hk] at hsr
  obtain ⟨e1,e2,_⟩:=hsr
  have:ls=[]:=by
   unfold Zh at hls
   rw[if_pos (by simp[SV.isV,hk]),e1] at hls
   cases hls;rfl
  subst this
  obtain ⟨A,c,hx,hsrc⟩:=ZeA h1 (x:=x) (Zc hlv (by rw[hops];exact .tail _ (.head _))) hlx hlen.2 hsz hxK hxF
  have:∀ty,∃(v':Value) (w':World) (lb':List Nat),(Builtin.append_ #[t,t] ty #[.slice none 0 0,.slice A lx.length c]).run P w=.ok v' w'∧w'.os=w.os∧w'.tape=w.tape∧w'.output=w.output∧w.heap.size≤w'.heap.size∧(∀b,b<w.heap.size→b∉([]:List Nat)→w'.heap[b]?=w.heap[b]?)∧
   Zal w' F1 true e te.size ([]++lx) v' lb'∧lb'.Nodup∧(∀b∈lb',(b∈([]:List Nat)∨w.heap.size≤b)∧b<w'.heap.size):=fun ty=>ZjM hus he hsz hby Zal.nil_ h1.fl (by simp) hsrc hlen.1
  obtain ⟨v',w',lb',r1,r2,r3,r4,r5,r6,r7,r8,r9⟩:=this o.type
  have hrun:(execOp a.eval o).run P w=.ok (.value v') w':=by
   obtain ⟨cs,hcs⟩:=Zai (P:=P) hop a.eval w
   rw[hcs]
   simp[builtin,e2,hx,r1]
  refine ⟨_,v',w',F1,lb',hrun,hkk,r2,r3,r4,r5,fun b hb _=>r6 b hb (by simp),fun _ h=>h,fun _ h=>.inl h,fun b hb=>Nat.lt_of_lt_of_le (h1.fl b hb) r5,r8,⟨_,rfl,r7⟩,fun b hb=> ?_,fun _=>trivial,fun q hq=>by simp[Kd.bdep] at hq⟩
  obtain ⟨t1,t2⟩:=r9 b hb
  rcases t1 with t1|t1
  ·simp at t1
  ·exact ⟨.inl t1,t2,fun hc=>by have:=h1.fl b hc;omega⟩
 ·split at hE
  case h_2=>cases hE
  rename_i e' sz q i hK hA
  split at hE
  case isFalse=>cases hE
  rename_i hc2
  obtain ⟨rfl,rfl⟩:=hc2
  cases hE
  refine Zb5 hd rfl fun w0 F0 X0 κ1 σ a w F F1 fp fp1 kk r h h1 htt hg hF hall hlv hdy=> ?_
  have hdy':((appV te.size (sv κ s) (sv κ x) (dv κ σ s) (dv κ σ x)).bind kk)=some r:=by rw[hops] at hdy;exact hdy
  obtain ⟨z,hz,hkk⟩:=Option.bind_eq_some_iff.1 hdy'
  obtain ⟨ls,hls,hz⟩:=Option.bind_eq_some_iff.1 hz
  obtain ⟨lx,hlx,hz⟩:=Option.bind_eq_some_iff.1 hz
  split at hz
  case isFalse=>cases hz
  rename_i hlen
  cases hz
  obtain ⟨q',i',lb,q1,q2,q3,q4⟩:=ZbA h (x:=s) (Zc hlv (by rw[hops];exact .head _)) (l:=ls) hls hK
  obtain ⟨y',v0,l',lb',m1,m2,m3,m4,m5⟩:=hall _ (List.mem_singleton.2 rfl)
  simp only[Bool.false_eq_true,if_false] at m5
  have hv0:=ZcZ h (Zc hlv (by rw[hops];exact .head _)) hA m1
  subst hv0
  have hlb:=q2.lb_eq m3
  subst hlb
  have hst:Stays w F w F1:=⟨hF,fun _ _=>rfl⟩
  have hrow:=q2.keep hst fun _ _=>rfl
  obtain ⟨A,c,hx,hsrc0⟩:=ZeA h (x:=x) (Zc hlv (by rw[hops];exact .tail _ (.head _))) hlx hlen.2 hsz hxK hxF
  have hsrc:lx≠[]→∃(ad:Addr) (news:List Value),A=some ad∧news.length=lx.length * te.size∧(∀(j:Nat) (u:Value),news[j]?=some u→w.cell? (ad.add j)=some u)∧(∀u∈news,u.oneCell'=true)∧Zb3 w F1 te.size lx news.toArray:=fun hne=>by
   obtain ⟨ad,news,t1,t2,t3,t4,t5⟩:=hsrc0 hne
   exact ⟨ad,news,t1,t2,t3,t4,t5.keep hst⟩
  obtain ⟨v',w',lb',r1,r2,r3,r4,r5,r6,r7,r8,r9⟩:=ZjM (ty:=o.type) hus he hsz hby hrow h1.fl (fun b hb=>(h1.pr _ b (m5 b hb)).2.1) hsrc hlen.1
  have hrun:(execOp a.eval o).run P w=.ok (.value v') w':=by
   obtain ⟨cs,hcs⟩:=Zai (P:=P) hop a.eval w
   rw[hcs]
   simp[builtin,hx]
   rw[r1]
   rfl
  refine ⟨_,v',w',F1,lb',hrun,hkk,r2,r3,r4,r5,fun b hb hbn=>r6 b hb (fun hc=>by rcases hbn with hbn|hbn;exact hbn (m5 b hc);cases hbn),fun _ h=>h,fun _ h=>.inl h,fun b hb=>Nat.lt_of_lt_of_le (h1.fl b hb) r5,r8,⟨_,rfl,r7⟩,fun b hb=> ?_,fun _=>trivial,fun q hq=>by simp[Kd.bdep] at hq⟩
  obtain ⟨t1,t2⟩:=r9 b hb
  rcases t1 with t1|t1
  ·exact ⟨.inr (m5 b t1),t2,(h1.pr _ b (m5 b t1)).2.1⟩
  ·exact ⟨.inl t1,t2,fun hc=>by have:=h1.fl b hc;omega⟩
theorem Zh5 :∀(parts:List (Nat×Operand)) (i:Nat),ZjN i parts=true→∀(f:Operand→Value),(parts.map fun p=>(p.1,f p.2))=((parts.map fun p=>f p.2).zipIdx i).map fun x=>(x.2,x.1)
 |[],_,_,_=>rfl
 | (j,x)::r,i,h,f=>by
  simp only[ZjN,Bool.and_eq_true,decide_eq_true_eq] at h
  obtain ⟨rfl,h⟩:=h
  simp only[List.map_cons,List.zipIdx_cons,List.cons.injEq,true_and]
  exact Zh5 r (i+1) h f
theorem ZjO {t e:TypeId} {te:TI} {len:Nat} {parts:Array (Nat×Operand)} (hop:o.op=.buildSlice t len parts) (hus:P.underlying t=some (.slice e)) (he:TyOk P e te) (c1:parts.toList.length=len) (c2:ZjN 0 parts.toList=true) (c4:te.size≠0) (c5:len * te.size≤65536) (hfl:∀b,F b→b<w.heap.size)
 {ys:List PV} (hyl:ys.length=len) (hel:∀(i:Nat) (p:Nat×Operand) (y:PV),parts.toList[i]?=some p→ys[i]?=some y→VR w F y (a.eval p.2)∧y.width=te.size∧y≠.undef):
 ∃w',(execOp a.eval o).run P w=.ok (.value (.slice (some ⟨w.heap.size,0,none⟩) len len)) w'∧Adds w F w' F∧Zal w' F true e te.size ys (.slice (some ⟨w.heap.size,0,none⟩) len len) [w.heap.size]∧w.heap.size<w'.heap.size:=by
 have hvs:∀v∈parts.toList.map (fun p=>a.eval p.2),v.cells.size=te.size:=fun v hv=>by
  obtain ⟨p,hp,rfl⟩:=List.mem_map.1 hv
  obtain ⟨i,hi⟩:=List.mem_iff_getElem?.1 hp
  have hlt:=(List.getElem?_eq_some_iff.1 hi).1
  obtain ⟨h1,h2,h3⟩:=hel i p (ys[i]'(by omega)) hi (List.getElem?_eq_getElem _)
  rw[←(h1.cells h3).1];exact h2
 have hzs:he.zv.cells.size=te.size:=he.hzs
 have hparts:(parts.map fun (i,x)=>(i,a.eval x)).toList=((parts.toList.map fun p=>a.eval p.2).zipIdx 0).map fun x=>(x.2,x.1):=by
  rw[←Zh5 parts.toList 0 c2 a.eval]
  simp
 have hfin:∀(cells:Array Value),cells.size=len * te.size→(∀(k:Nat),k<len * te.size→cells[k]?=(((parts.toList.map fun p=>a.eval p.2)[k / te.size]?).bind fun v=>v.cells[k % te.size]?))→
  (Instr.buildSlice t len (parts.map fun (i,x)=>(i,a.eval x))).run P w=.ok (.slice (some ⟨w.heap.size,0,none⟩) len len) (w.alloc (.cells cells e))→
  ∃w',(execOp a.eval o).run P w=.ok (.value (.slice (some ⟨w.heap.size,0,none⟩) len len)) w'∧Adds w F w' F∧Zal w' F true e te.size ys (.slice (some ⟨w.heap.size,0,none⟩) len len) [w.heap.size]∧w.heap.size<w'.heap.size:=by
  intro cells hcs hcell hrun
  have hA:=(Adds.refl w hfl).alloc (.cells cells e)
  refine ⟨_,by simp[execOp,hop,hrun],hA,(Zr (Zaa he.hsm)).2<| .inr ⟨w.heap.size,len,cells,(0,0),by rw[hyl],rfl,heap_alloc_new w _,fun _=>rfl,.inl (Nat.le_refl _),by rw[hyl];exact Nat.le_refl _, ?_,hcs,fun i x hx=> ?_⟩,by simp⟩
  ·have:len≤len * te.size:=Nat.le_mul_of_pos_right _ (by omega)
   unfold maxLen;omega
  ·have hilt:=(List.getElem?_eq_some_iff.1 hx).1
   obtain ⟨p,hp⟩:∃p,parts.toList[i]?=some p:=⟨_,List.getElem?_eq_getElem (by omega)⟩
   obtain ⟨h1,h2,h3⟩:=hel i p x hp hx
   refine ⟨h2,h3,a.eval p.2,h1.keep (hA.stays hfl),fun j c hc=> ?_⟩
   have hj:j<te.size:=by rw[←h2,(h1.cells h3).1];exact (Array.getElem?_eq_some_iff.1 hc).1
   have:(i+1) * te.size≤len * te.size:=Nat.mul_le_mul_right _ (by omega)
   rw[Nat.succ_mul] at this
   rw[hcell _ (by omega)]
   have e1:(i * te.size+j) / te.size=i:=by rw[Nat.mul_comm,Nat.mul_add_div (by omega),Nat.div_eq_of_lt hj,Nat.add_zero]
   have e2:(i * te.size+j) % te.size=j:=by rw[Nat.mul_comm,Nat.mul_add_mod,Nat.mod_eq_of_lt hj]
   rw[e1,e2,List.getElem?_map,hp]
   exact hc
 by_cases hlen:len=0
 ·subst hlen
  have hp0:parts= #[]:=by
   have:parts.toList=[]:=List.eq_nil_of_length_eq_zero c1
   simpa using this
  refine hfin #[] (by simp) (fun k hk=>by simp at hk) ?_
  have h1:=he.run_sizeOf w
  have h2:Array.range 0= #[]:=by simp[Array.range]
  simp[Instr.buildSlice,underlying,hus,h1,hp0,Instr.fill,newRow,h2]
 ·have hpos:¬len * te.size=0:=Nat.mul_ne_zero hlen c4
  obtain ⟨cells,f1,f2,f3⟩:=Great.fill_dense (s:=te.size) (by omega) (parts.toList.map fun p=>a.eval p.2) 0 ((Array.range (len * te.size)).map (he.zv.cells[· % he.zv.cells.size]!)) hvs (by simp[c1])
  refine hfin cells (by rw[f2];simp) (fun k hk=> ?_) ?_
  ·rw[f3 k]
   rw[if_pos ⟨by omega,by rw[List.length_map,c1,Nat.zero_add];exact hk⟩,Nat.sub_zero]
  ·refine run_buildSlice w t e len _ cells he.row he.zv hus he.hrow he.hz (by rw[he.hsize];omega) (by rw[he.hsize];exact hpos) ?_
   rw[he.hsize,hparts]
   exact f1
theorem Zh6 (hT:TabOk P T) {t:TypeId} {len:Nat} {parts:Array (Nat×Operand)} {d:Nat} (hop:o.op=.buildSlice t len parts) (hd:o.dst=some d) (hE:Zek T d t len parts.toList (o.op.operands.toList.map (sv κ))=some E):ZN P o κ E:=by
 have hops:o.op.operands.toList=parts.toList.map (·.2):=by rw[hop];simp[Op.operands]
 rw[hops] at hE
 unfold Zek at hE
 split at hE
 case h_1=>cases hE
 rename_i ti hi
 obtain ⟨ht⟩:=hT.ty hi
 split at hE
 case h_2=>cases hE
 rename_i e hds
 have hus:=ZT ht hds
 split at hE
 case h_1=>cases hE
 rename_i te hte
 obtain ⟨he⟩:=hT.ty hte
 split at hE
 case isFalse=>cases hE
 rename_i hc
 obtain ⟨c1,c2,c3,c4,c5⟩:=hc
 cases hE
 refine ZJ hd rfl rfl fun w0 F0 X0 σ a w F fp kk r h htt hlv hdy=> ?_
 rw[hops] at hdy
 have hdy':((ZoX te.size ((parts.toList.map (·.2)).map (dv κ σ))).bind kk)=some r:=hdy
 obtain ⟨z,hz,hkk⟩:=Option.bind_eq_some_iff.1 hdy'
 unfold ZoX at hz
 obtain ⟨l0,hl0,hz⟩:=Option.bind_eq_some_iff.1 hz
 obtain ⟨rfl,hall⟩:=Zp5 hl0
 cases hz
 have hel:∀(i:Nat) (p:Nat×Operand),parts.toList[i]?=some p→VR w F (dv κ σ p.2).v (a.eval p.2)∧(dv κ σ p.2).v.width=te.size∧(dv κ σ p.2).v≠.undef:=fun i p hp=>by
  have hm:=List.mem_of_getElem? hp
  have h1:(sv κ p.2).isV=true:=List.all_eq_true.1 c3 _ (List.mem_map.2 ⟨p.2,List.mem_map.2 ⟨p,hm,rfl⟩,rfl⟩)
  have h2:=List.all_eq_true.1 hall (dv κ σ p.2) (List.mem_map.2 ⟨p.2,List.mem_map.2 ⟨p,hm,rfl⟩,rfl⟩)
  obtain ⟨cl,hcl⟩:=Option.isSome_iff_exists.1 h2
  obtain ⟨_,_,h3,h4⟩:=Za8 hcl
  exact ⟨rdS h h1,h3,h4⟩
 have hel':∀(i:Nat) (p:Nat×Operand) (y:PV),parts.toList[i]?=some p→(((parts.toList.map (·.2)).map (dv κ σ)).map DV.v)[i]?=some y→VR w F y (a.eval p.2)∧y.width=te.size∧y≠.undef:=fun i p y hp hy=>by
  rw[List.getElem?_map,List.getElem?_map,List.getElem?_map,hp] at hy
  cases hy
  exact hel i p hp
 obtain ⟨w',r1,r2,r3,r4⟩:=ZjO hop hus he c1 c2 c4 c5 h.fl (by simpa using c1) hel'
 exact ⟨_,_,w',F,[w.heap.size],r1,hkk,r2,by simp,⟨_,rfl,r3⟩,fun b hb=>by rw[List.mem_singleton] at hb;subst hb;exact ⟨Nat.le_refl _,r4,fun hc=>absurd (h.fl _ hc) (Nat.lt_irrefl _)⟩,fun _=>trivial,fun q hq=>by simp[Zj,Kd.bdep] at hq⟩
theorem Zso (h:St w0 F0 X0 κ σ a.tmps w F fp) {x:Operand} (hlx:ZaM κ σ x) {s:Nat} {ks:List CK} (hg:(sv κ x).grpAt=some (s,ks)):
 ∃(cs:Array Value) (xs:List PV) (fps:List (List Nat)),kd κ s=.grp true ks∧tv a.tmps s=.tuple cs∧a.eval x=.tuple cs∧vl σ s=.tup xs∧Zdb (sv κ x) (dv κ σ x)=xs∧GrpR w F false ks xs cs.toList fps∧fps.flatten.Nodup∧(∀c∈fps.flatten,c∈fp s):=by
 unfold SV.grpAt at hg
 split at hg
 ·rename_i ks' hk
  obtain ⟨s',hs,e⟩:=Option.map_eq_some_iff.1 hg
  cases e
  obtain rfl:=Zav hs
  have hk':kd κ s=.grp true ks:=hk
  obtain ⟨l,hn,hsub,hsr⟩:=h.sr s
  rw[hk'] at hsr
  obtain ⟨cs,xs,fps,e1,e2,e3,rfl⟩:=hsr
  simp only[if_true] at e1 e2
  refine ⟨cs,xs,fps,hk',e1,e1,e2, ?_,e3,hn,hsub⟩
  have:(dv κ σ (.tmp s)).v=.tup xs:=e2
  unfold Zdb;rw[hk];dsimp only;rw[this];rfl
 ·rename_i q hk
  split at hg
  case h_2=>cases hg
  rename_i ks' hpk
  cases hg
  have hk':kOp κ x=.ali (.slot s):=hk
  have hq:kd κ s=.grp true ks:=by simpa[sv,hk',Kd.dep,Place.of] using hpk
  obtain ⟨l,hn,hsub,hsr⟩:=h.sr s
  rw[hq] at hsr
  obtain ⟨cs,xs,fps,e1,e2,e3,rfl⟩:=hsr
  simp only[if_true] at e1 e2
  have hal:=h.al' x hlx
  rw[hk] at hal
  have e7:tv a.tmps s=a.eval x:=hal
  refine ⟨cs,xs,fps,hq,e1,by rw[←e7];exact e1,e2, ?_,e3,hn,hsub⟩
  have:(dv κ σ x).pv=.tup xs:=by simpa[dv,hk',Kd.dep,Place.of] using e2
  unfold Zdb;rw[hk];dsimp only;rw[this];rfl
 ·cases hg
theorem ZjP {ix:Nat} {x:Operand} {d:Nat} (hop:o.op=.extract x ix) (hd:o.dst=some d) (hE:Zax d ix (sv κ x)=some E):ZN P o κ E:=by
 have hops:o.op.operands.toList=[x]:=by rw[hop];rfl
 have run:∀{ρ:Operand→Value} {w:World} {cs:Array Value} {v:Value},ρ x=.tuple cs→cs[ix]?=some v→(execOp ρ o).run P w=.ok (.value v) w:=by
  intro ρ w cs v h1 h2
  simp[execOp,hop,Instr.extract,h1,h2]
 unfold Zax at hE
 split at hE
 case h_1=>cases hE
 rename_i s ks hg
 have key:∀(k:CK),ks[ix]?=some k→ckV k=true→∀(w0:World) (F0:Nat→Prop) (X0:List Nat) (σ:List PV) (a:Act) (w:World) (F:Nat→Prop) (fp:Nat→List Nat) (kk:PV→Option R) (r:R),St w0 F0 X0 κ σ a.tmps w F fp→ZaM κ σ x→
  (((Zdb (sv κ x) (dv κ σ x))[ix]?).bind kk)=some r→∃z v,kk z=some r∧(execOp a.eval o).run P w=.ok (.value v) w∧CR w F k z v []:=by
  intro k hks hkv w0 F0 X0 σ a w F fp kk r h hlx hdy
  obtain ⟨z,hz,hkk⟩:=Option.bind_eq_some_iff.1 hdy
  obtain ⟨cs,xs,fps,e1,e2,e3,e4,e5,e6,e7,e8⟩:=Zso h hlx hg
  rw[e5] at hz
  obtain ⟨k',c,f,g1,g2,g3,g4,g5⟩:=e6.at ix z hz
  rw[hks] at g1
  cases g1
  obtain rfl:=(Zcx g4 hkv).2
  exact ⟨z,c,hkk,run e3 (by simpa using g2),g4⟩
 split at hE
 ·rename_i hks
  cases hE
  refine ZJ hd rfl rfl fun w0 F0 X0 σ a w F fp kk r h htt hlv hdy=> ?_
  obtain ⟨z,v,hkk,hrun,hcr⟩:=key _ hks rfl w0 F0 X0 σ a w F fp kk r h (Zc hlv (by rw[hops];exact .head _)) (by rw[hops] at hdy;exact hdy)
  exact ⟨z,v,w,F,[],hrun,hkk,Adds.refl w h.fl,List.nodup_nil,hcr,by simp,fun _=>trivial,fun q hq=>by simp[Zj,Kd.bdep] at hq⟩
 ·rename_i hks
  cases hE
  refine ZJ hd rfl rfl fun w0 F0 X0 σ a w F fp kk r h htt hlv hdy=> ?_
  obtain ⟨z,v,hkk,hrun,hcr⟩:=key _ hks rfl w0 F0 X0 σ a w F fp kk r h (Zc hlv (by rw[hops];exact .head _)) (by rw[hops] at hdy;exact hdy)
  exact ⟨z,v,w,F,[],hrun,hkk,Adds.refl w h.fl,List.nodup_nil,hcr,by simp,fun _=>trivial,fun q hq=>by simp[Zj,Kd.bdep] at hq⟩
 ·rename_i app e sz hks
  split at hE
  case isTrue=>cases hE
  rename_i hsm0
  have hsm:ix<tgB:=by omega
  cases hE
  refine Zb5 hd rfl fun w0 F0 X0 κ1 σ a w F F1 fp fp1 kk r h h1 htt hgg hF hall hlv hdy=> ?_
  have hdy':(((Zdb (sv κ x) (dv κ σ x))[ix]?).bind kk)=some r:=by rw[hops] at hdy;exact hdy
  obtain ⟨z,hz,hkk⟩:=Option.bind_eq_some_iff.1 hdy'
  obtain ⟨cs,xs,fps,e1,e2,e3,e4,e5,e6,e7,e8⟩:=Zso h (Zc hlv (by rw[hops];exact .head _)) hg
  rw[e5] at hz
  obtain ⟨y',v0,l',lb',m1,m2,m3,m4,m5⟩:=hall _ (List.mem_singleton.2 rfl)
  simp only[Bool.false_eq_true,if_false] at m5
  rcases m1 with ⟨b',xs',t1,t2,t3,t4⟩|⟨tt,cs',xs',t1,t2,t3,t4,_⟩|⟨cs',xs',t1,t2,t3,t4,t5⟩
  ·simp only at t1;rw[e2] at t1;cases t1
  ·simp only at t1 t3
   rw[e2] at t1
   rw[e4] at t3
   cases tt<;>simp at t1 t3
   subst t1 t3
   rw[hz] at t4
   cases t4
   exact ⟨_,v0,w,F1,lb',run e3 t2,hkk,rfl,rfl,rfl,Nat.le_refl _,fun _ _ _=>rfl,fun _ h=>h,fun _ h=>.inl h,h1.fl,m4,⟨l',m2,m3⟩,fun b hb=>⟨.inr (m5 b hb),(h1.pr _ b (m5 b hb)).1,(h1.pr _ b (m5 b hb)).2.1⟩,fun _=>trivial,fun q hq=>by simp[Kd.bdep] at hq⟩
  ·omega
 ·cases hE
theorem ZoY (h:St w0 F0 X0 κ σ a.tmps w F fp) {x:Operand} (hlx:ZaM κ σ x) {s:Nat} {sh:List (Option Nat)} {ks:List CK} (hg:(sv κ x).tgrAt=some (s,sh,ks)):
 ∃(cs:Array Value) (xs:List PV) (fps:List (List Nat)),kd κ s=.tgr sh ks∧tv a.tmps s=.tuple cs∧a.eval x=.tuple cs∧vl σ s=.tup xs∧ZkG (sv κ x) (dv κ σ x)=xs∧ZkF sh xs cs.toList∧GrpR w F true ks (ZcL xs) (Zc2 cs.toList) fps∧fps.flatten.Nodup∧(∀c∈fps.flatten,c∈fp s):=by
 unfold SV.tgrAt at hg
 split at hg
 ·rename_i sh' ks' hk
  obtain ⟨s',hs,e⟩:=Option.map_eq_some_iff.1 hg
  cases e
  obtain rfl:=Zav hs
  have hk':kd κ s=.tgr sh ks:=hk
  obtain ⟨l,hn,hsub,hsr⟩:=h.sr s
  rw[hk'] at hsr
  obtain ⟨cs,xs,fps,e1,e2,e3,e4,rfl⟩:=hsr
  refine ⟨cs,xs,fps,hk',e1,e1,e2, ?_,e3,e4,hn,hsub⟩
  have:(dv κ σ (.tmp s)).v=.tup xs:=e2
  unfold ZkG;rw[hk];dsimp only;rw[this];rfl
 ·rename_i q hk
  split at hg
  case h_2=>cases hg
  rename_i sh' ks' hpk
  cases hg
  have hk':kOp κ x=.ali (.slot s):=hk
  have hq:kd κ s=.tgr sh ks:=by simpa[sv,hk',Kd.dep,Place.of] using hpk
  obtain ⟨l,hn,hsub,hsr⟩:=h.sr s
  rw[hq] at hsr
  obtain ⟨cs,xs,fps,e1,e2,e3,e4,rfl⟩:=hsr
  have hal:=h.al' x hlx
  rw[hk] at hal
  have e7:tv a.tmps s=a.eval x:=hal
  refine ⟨cs,xs,fps,hq,e1,by rw[←e7];exact e1,e2, ?_,e3,e4,hn,hsub⟩
  have:(dv κ σ x).pv=.tup xs:=by simpa[dv,hk',Kd.dep,Place.of] using e2
  unfold ZkG;rw[hk];dsimp only;rw[this];rfl
 ·cases hg
theorem Zh7 {x:PV} (h:x.one=true):x.cells=[x]:=by cases x<;>first|rfl|(simp[PV.one] at h)
theorem Zi2 :∀(sh:List (Option Nat)) (xs:List PV) (vs:List Value) (ix off:Nat) (c:Option Nat),ZkF sh xs vs→Zlf sh ix=some (off,c)→
 ∃ x v,xs[ix]?=some x∧vs[ix]?=some v∧(match c with
  |none=>(ZcL xs)[off]?=some x∧(Zc2 vs)[off]?=some v
  |some n=>∃l cs,x=.agg l∧v=.agg cs∧l.length=n∧cs.size=n∧((ZcL xs).drop off).take n=l∧((Zc2 vs).drop off).take n=cs.toList)
 |[],xs,vs,ix,off,c,h,ho=>by simp[Zlf] at ho
 |c0::sh,[],vs,ix,off,c,h,ho=>by cases c0<;>cases vs<;>simp[ZkF] at h
 |c0::sh,x::xs,[],ix,off,c,h,ho=>by cases c0<;>simp[ZkF] at h
 | c0 ::sh,x::xs,v::vs,ix,off,c,h,ho=>by
  have hw:x.cells.length=c0.getD 1∧v.cells.toList.length=c0.getD 1∧ZkF sh xs vs:=by
   cases c0 with
   |none=>obtain ⟨h1,h2,h3⟩:=h;exact ⟨by rw[Zh7 h1];rfl,by rw[h2];rfl,h3⟩
   |some n=>obtain ⟨⟨l,c,rfl,rfl,h1,h2⟩,h3⟩:=h;exact ⟨by simpa[PV.cells] using h1,by simpa[Value.cells] using h2,h3⟩
  cases ix with
  | zero=>
   simp only[Zlf,Option.some.injEq,Prod.mk.injEq] at ho
   obtain ⟨rfl,rfl⟩:=ho
   refine ⟨x,v,rfl,rfl, ?_⟩
   cases c0 with
   | none=>
    obtain ⟨h1,h2,h3⟩:=h
    exact ⟨by simp[ZcL,Zh7 h1],by simp[Zc2,h2]⟩
   | some n=>
    obtain ⟨⟨l,c,rfl,rfl,h1,h2⟩,h3⟩:=h
    refine ⟨l,c,rfl,rfl,h1,h2, ?_, ?_⟩
    ·simp only[ZcL,List.flatMap_cons,PV.cells,List.drop_zero]
     rw[List.take_append_of_le_length (by omega),List.take_of_length_le (by omega)]
    ·simp only[Zc2,List.flatMap_cons,Value.cells,List.drop_zero]
     rw[List.take_append_of_le_length (by simp;omega),List.take_of_length_le (by simp;omega)]
  | succ ix=>
   simp only[Zlf] at ho
   obtain ⟨p,hp,he⟩:=Option.map_eq_some_iff.1 ho
   obtain ⟨o1,c1⟩:=p
   simp only[Prod.mk.injEq] at he
   obtain ⟨rfl,rfl⟩:=he
   obtain ⟨y,u,g1,g2,g3⟩:=Zi2 sh xs vs ix o1 c1 hw.2.2 hp
   refine ⟨y,u,by simpa using g1,by simpa using g2, ?_⟩
   have eP:∀j,(ZcL (x::xs))[c0.getD 1+j]?=(ZcL xs)[j]?:=fun j=>by
    simp only[ZcL,List.flatMap_cons]
    rw[List.getElem?_append_right (by omega)]
    congr 1
    omega
   have eV:∀j,(Zc2 (v::vs))[c0.getD 1+j]?=(Zc2 vs)[j]?:=fun j=>by
    simp only[Zc2,List.flatMap_cons]
    rw[List.getElem?_append_right (by omega)]
    congr 1
    omega
   cases c1 with
   |none=>exact ⟨by rw[eP];exact g3.1,by rw[eV];exact g3.2⟩
   | some n=>
    obtain ⟨l,cs,h1,h2,h3,h4,h5,h6⟩:=g3
    refine ⟨l,cs,h1,h2,h3,h4, ?_, ?_⟩
    ·rw[←h5]
     congr 1
     simp only[ZcL,List.flatMap_cons]
     rw[List.drop_append,List.drop_of_length_le (by omega),List.nil_append]
     congr 1
     omega
    ·rw[←h6]
     congr 1
     simp only[Zc2,List.flatMap_cons]
     rw[List.drop_append,List.drop_of_length_le (by omega),List.nil_append]
     congr 1
     omega
theorem Zlg {fps:List (List Nat)} (h:fps.flatten.Nodup) (off n:Nat):((fps.drop off).take n).flatten.Nodup:=by
 have e:fps=fps.take off++((fps.drop off).take n++(fps.drop off).drop n):=by rw[List.take_append_drop,List.take_append_drop]
 rw[e] at h
 simp only[List.flatten_append] at h
 exact (List.nodup_append.1 (List.nodup_append.1 h).2.1).1
theorem ZjQ {ix:Nat} {x:Operand} {d:Nat} (hop:o.op=.extract x ix) (hd:o.dst=some d) (hE:ZfB d ix (sv κ x)=some E):ZN P o κ E:=by
 have hops:o.op.operands.toList=[x]:=by rw[hop];rfl
 have run:∀{ρ:Operand→Value} {w:World} {cs:Array Value} {v:Value},ρ x=.tuple cs→cs[ix]?=some v→(execOp ρ o).run P w=.ok (.value v) w:=by
  intro ρ w cs v h1 h2
  simp[execOp,hop,Instr.extract,h1,h2]
 unfold ZfB at hE
 split at hE
 case h_1=>cases hE
 rename_i s sh ks hg
 split at hE
 ·cases hE
 ·rename_i off hoff
  have key:∀(k:CK),ks[off]?=some k→ckV k=true→∀(w0:World) (F0:Nat→Prop) (X0:List Nat) (σ:List PV) (a:Act) (w:World) (F:Nat→Prop) (fp:Nat→List Nat) (kk:PV→Option R) (r:R),St w0 F0 X0 κ σ a.tmps w F fp→ZaM κ σ x→
   (((ZkG (sv κ x) (dv κ σ x))[ix]?).bind kk)=some r→∃z v,kk z=some r∧(execOp a.eval o).run P w=.ok (.value v) w∧CR w F k z v []:=by
   intro k hks hkv w0 F0 X0 σ a w F fp kk r h hlx hdy
   obtain ⟨z,hz,hkk⟩:=Option.bind_eq_some_iff.1 hdy
   obtain ⟨cs,xs,fps,e1,e2,e3,e4,e5,e9,e6,e7,e8⟩:=ZoY h hlx hg
   rw[e5] at hz
   obtain ⟨x1,v1,p1,p2,p3,p4⟩:=Zi2 sh xs cs.toList ix off none e9 hoff
   rw[hz] at p1
   cases p1
   obtain ⟨k',c,f,g1,g2,g3,g4,g5⟩:=e6.at off z p3
   rw[hks] at g1
   cases g1
   rw[p4] at g2
   cases g2
   obtain rfl:=(Zcx g4 hkv).2
   exact ⟨z,v1,hkk,run e3 (by simpa using p2),g4⟩
  split at hE
  ·rename_i hks
   cases hE
   refine ZJ hd rfl rfl fun w0 F0 X0 σ a w F fp kk r h htt hlv hdy=> ?_
   obtain ⟨z,v,hkk,hrun,hcr⟩:=key _ hks rfl w0 F0 X0 σ a w F fp kk r h (Zc hlv (by rw[hops];exact .head _)) (by rw[hops] at hdy;exact hdy)
   exact ⟨z,v,w,F,[],hrun,hkk,Adds.refl w h.fl,List.nodup_nil,hcr,by simp,fun _=>trivial,fun q hq=>by simp[Zj,Kd.bdep] at hq⟩
  ·rename_i hks
   cases hE
   refine ZJ hd rfl rfl fun w0 F0 X0 σ a w F fp kk r h htt hlv hdy=> ?_
   obtain ⟨z,v,hkk,hrun,hcr⟩:=key _ hks rfl w0 F0 X0 σ a w F fp kk r h (Zc hlv (by rw[hops];exact .head _)) (by rw[hops] at hdy;exact hdy)
   exact ⟨z,v,w,F,[],hrun,hkk,Adds.refl w h.fl,List.nodup_nil,hcr,by simp,fun _=>trivial,fun q hq=>by simp[Zj,Kd.bdep] at hq⟩
  ·rename_i app e sz hks
   split at hE
   case isTrue=>cases hE
   cases hE
   refine Zb5 hd rfl fun w0 F0 X0 κ1 σ a w F F1 fp fp1 kk r h h1 htt hgg hF hall hlv hdy=> ?_
   have hdy':(((ZkG (sv κ x) (dv κ σ x))[ix]?).bind kk)=some r:=by rw[hops] at hdy;exact hdy
   obtain ⟨z,hz,hkk⟩:=Option.bind_eq_some_iff.1 hdy'
   obtain ⟨cs,xs,fps,e1,e2,e3,e4,e5,e9,e6,e7,e8⟩:=ZoY h (Zc hlv (by rw[hops];exact .head _)) hg
   rw[e5] at hz
   obtain ⟨x1,v1,p1,p2,p3,p4⟩:=Zi2 sh xs cs.toList ix off none e9 hoff
   rw[hz] at p1
   cases p1
   obtain ⟨y',v0,l',lb',m1,m2,m3,m4,m5⟩:=hall _ (List.mem_singleton.2 rfl)
   simp only[Bool.false_eq_true,if_false] at m5
   rcases m1 with ⟨b',xs',t1,t2,t3,t4⟩|⟨tt,cs',xs',t1,t2,t3,t4,t5⟩|⟨cs',xs',t1,t2,t3,t4,t5⟩
   ·simp only at t1;rw[e2] at t1;cases t1
   ·omega
   ·simp only[Nat.add_sub_cancel] at t1 t2 t3 t4
    rw[e2] at t1
    rw[e4] at t3
    cases t1
    cases t3
    rw[p4] at t2
    cases t2
    rw[p3] at t4
    cases t4
    exact ⟨_,_,w,F1,lb',run e3 (by simpa using p2),hkk,rfl,rfl,rfl,Nat.le_refl _,fun _ _ _=>rfl,fun _ h=>h,fun _ h=>.inl h,h1.fl,m4,⟨l',m2,m3⟩,fun b hb=>⟨.inr (m5 b hb),(h1.pr _ b (m5 b hb)).1,(h1.pr _ b (m5 b hb)).2.1⟩,fun _=>trivial,fun q hq=>by simp[Kd.bdep] at hq⟩
  ·cases hE
 ·rename_i off n hoff
  split at hE
  case isFalse=>cases hE
  rename_i hc
  obtain ⟨hsd,hkl⟩:=hc
  cases hE
  refine Zb5 hd rfl fun w0 F0 X0 κ1 σ a w F F1 fp fp1 kk r h h1 htt hgg hF hall hlv hdy=> ?_
  have hdy':(((ZkG (sv κ x) (dv κ σ x))[ix]?).bind kk)=some r:=by rw[hops] at hdy;exact hdy
  obtain ⟨z,hz,hkk⟩:=Option.bind_eq_some_iff.1 hdy'
  obtain ⟨cs,xs,fps,e1,e2,e3,e4,e5,e9,e6,e7,e8⟩:=ZoY h (Zc hlv (by rw[hops];exact .head _)) hg
  rw[e5] at hz
  obtain ⟨x1,v1,p1,p2,l,c,rfl,rfl,q1,q2,q3,q4⟩:=Zi2 sh xs cs.toList ix off (some n) e9 hoff
  rw[hz] at p1
  cases p1
  have hgr:=(e6.drop off).take n
  rw[q3,q4] at hgr
  have hst:Stays w F w F1:=⟨hF,fun _ _=>rfl⟩
  have hown:∀b∈((fps.drop off).take n).flatten,b∈fp1 d:=by
   refine Zc4 hgr (own:=fun b=>b∈fp1 d) fun i app e sz x' v' lb' k1 k2 k3 k4 b hbb=> ?_
   have hm:=Zez (s:=s) _ (off+tgB) i k1
   obtain ⟨y',v'',l',lb'',m1,m2,m3,m4,m5⟩:=hall _ hm
   simp only[Bool.false_eq_true,if_false] at m5
   have hvv:v''=v':=by
    rcases m1 with ⟨b',xs',t1,t2,t3,t4⟩|⟨tt,cs',xs',t1,t2,t3,t4,t5⟩|⟨cs',xs',t1,t2,t3,t4,t5⟩
    ·simp only at t1;rw[e2] at t1;cases t1
    ·omega
    ·simp only at t1 t2
     rw[e2] at t1
     cases t1
     have hin:i<n:=by
      have:=(List.getElem?_eq_some_iff.1 k1).1
      omega
     have:(Zc2 cs.toList)[off+i]?=some v':=by
      rw[←q4] at k3
      rw[List.getElem?_take_of_lt hin,List.getElem?_drop] at k3
      exact k3
     rw[show off+tgB+i - tgB=off+i from by omega,this] at t2
     exact (Option.some.inj t2).symm
   subst hvv
   obtain ⟨l0,rfl,hr0⟩:=k4
   have:=hr0.lb_eq m3
   subst this
   exact m5 b hbb
  exact ⟨_,_,w,F1,((fps.drop off).take n).flatten,run e3 (by simpa using p2),hkk,rfl,rfl,rfl,Nat.le_refl _,fun _ _ _=>rfl,fun _ h=>h,fun _ h=>.inl h,h1.fl,Zlg e7 off n,⟨c,l,_,rfl,rfl,hgr.keep hst fun _ _=>rfl,rfl⟩,fun b hb=>⟨.inr (hown b hb),(h1.pr _ b (hown b hb)).1,(h1.pr _ b (hown b hb)).2.1⟩,fun _=>trivial,fun q hq=>by simp[Kd.bdep] at hq⟩
theorem ZjR {ix:Nat} {x:Operand} {d:Nat} (hop:o.op=.extract x ix) (hd:o.dst=some d) (hk:kOp κ x=.tip) (hE:ZfC d ix=some E):ZN P o κ E:=by
 have hops:o.op.operands.toList=[x]:=by rw[hop];rfl
 have run:∀{ρ:Operand→Value} {w:World} {cs:Array Value} {v:Value},ρ x=.tuple cs→cs[ix]?=some v→(execOp ρ o).run P w=.ok (.value v) w:=by
  intro ρ w cs v h1 h2
  simp[execOp,hop,Instr.extract,h1,h2]
 have hx:∃t,x=.tmp t:=by
  cases x<;>first|exact ⟨_,rfl⟩|cases hk
 obtain ⟨t,rfl⟩:=hx
 have hkt:kd κ t=.tip:=hk
 unfold ZfC at hE
 split at hE
 ·cases hE
  refine ZJ hd rfl rfl fun w0 F0 X0 σ a w F fp kk r h htt hlv hdy=> ?_
  rw[hops] at hdy
  obtain ⟨z,hz,hkk⟩:=Option.bind_eq_some_iff.1 hdy
  obtain ⟨l,hn,hsub,hsr⟩:=h.sr t
  rw[hkt] at hsr
  obtain ⟨⟨p,u,xs,y,e1,e2,e3,e4⟩,e5⟩:=hsr
  have e2':(dv κ σ (.tmp t)).v=.tup [.agg xs,y]:=e2
  replace hz:(dv κ σ (.tmp t)).v.parts[0]?=some z:=hz
  rw[e2'] at hz
  cases hz
  exact ⟨_,p,w,F,[],run (show a.eval (.tmp t)=_ from e1) rfl,hkk,Adds.refl w h.fl,List.nodup_nil,⟨fun _=>e3,rfl⟩,by simp,fun _=>trivial,fun q hq=>by simp[Zj,Kd.bdep] at hq⟩
 ·cases hE
  refine ZJ hd rfl rfl fun w0 F0 X0 σ a w F fp kk r h htt hlv hdy=> ?_
  rw[hops] at hdy
  obtain ⟨z,hz,hkk⟩:=Option.bind_eq_some_iff.1 hdy
  obtain ⟨l,hn,hsub,hsr⟩:=h.sr t
  rw[hkt] at hsr
  obtain ⟨⟨p,u,xs,y,e1,e2,e3,e4⟩,e5⟩:=hsr
  have e2':(dv κ σ (.tmp t)).v=.tup [.agg xs,y]:=e2
  replace hz:(dv κ σ (.tmp t)).v.parts[1]?=some z:=hz
  rw[e2'] at hz
  cases hz
  exact ⟨_,u,w,F,[],run (show a.eval (.tmp t)=_ from e1) rfl,hkk,Adds.refl w h.fl,List.nodup_nil,⟨e4,rfl⟩,by simp,fun _=>trivial,fun q hq=>by simp[Zj,Kd.bdep] at hq⟩
 ·cases hE
theorem ZkH {ix:Nat} {x:Operand} {d:Nat} (hop:o.op=.extract x ix) (hd:o.dst=some d) (hE:Zas d ix (sv κ x)=some E):ZN P o κ E:=by
 unfold Zas at hE
 split at hE
 ·rename_i hk
  have hk':kOp κ x=.tip:=by
   have:Zgk (kOp κ x)=true:=hk
   unfold Zgk at this
   split at this
   ·assumption
   ·cases this
  exact ZjR hop hd hk' hE
 split at hE
 ·exact ZjP hop hd hE
 ·exact ZjQ hop hd hE
end
def capK (s:SV):Bool:=
 match s.boxAt with
 |some (_,ks,_)=>ks.all fun k=>k≠.none
 |none=>s.k=.ipt||(match s.k,s.pk with|.mbx _,.mp _ _=>true|_,_=>false)
def capV (s:SV) (d:DV):PV:=
 match s.boxAt with
 |some (_,_,off)=>.agg ((ZcQ s d).drop off)
 |none=>match s.k with|.mbx _=>.agg [d.pv]|_=>d.v
def Zho :List SV→List DV→List PV
 |s::ss,d::ds=>capV s d::Zho ss ds
 |_,_=>[]
def ZfD {R:Type} (d:Nat) (fn:Fn) (first:List Operand) (svs:List SV):Option (Eff R):=
 match fn,first with
 |.func f,[]=>if d≠Zl6∧svs.all capK=true then some (Zj d (.cln f) fun ds kk=>kk (.tup (Zho svs ds))) else none
 |_,_=>none
def ZaN (ti:TI):PV:=if ti.agg then .agg (ti.zero.map ZC.pv) else (ti.zero.map ZC.pv).headD .undef
def Zsp (te:TI) (x:PV):Option PV:=
 match x with
 |.int _ n=>if 0≤n∧n≤4294967296 then some (.lst (List.replicate n.toNat (ZaN te))) else none
 |_=>none
def ZeU {R:Type} (T:Tab) (d:Nat) (t:TypeId) (same:Bool) (x:SV):Option (Eff R):=
 match T.lookup t with
 |none=>none
 | some ti=>
  match ti.desc with
  | .slice e=>
   match T.lookup e with
   |none=>none
   |some te=>if same∧x.isV∧te.size≠0∧te.bytes≤32768∧(te.agg=true∨te.size=1)∧(te.zero.all fun z=>z≠.other)=true then some (Zj d (.ck (.own true e te.size)) (ZaV fun x _=>Zsp te x.v)) else none
  |_=>none
def ZfE (n:Nat):Option PV→Option Nat
 |none=>some n
 |some (.int _ i)=>if 0≤i∧i≤n then some i.toNat else none
 |_=>none
def Zh8 (n:Nat):Option PV→Option Nat
 |none=>some 0
 |some (.int _ i)=>if 0≤i∧i≤n then some i.toNat else none
 |_=>none
def Zc5 (x:PV) (lo hi:Option PV):Option PV:=
 match x with
 |.str s=>(ZfE s.length hi).bind fun h=>(Zh8 h lo).bind fun l=>some (.str ((s.take h).drop l))
 |_=>none
def Zdc (n:Nat) (x:PV) (lo hi:Option PV):Option PV:=
 match x with
 |.lst s=>(ZfE s.length hi).bind fun h=>(Zh8 h lo).bind fun l=>if s.all (Zag n)=true then some (.lst ((s.take h).drop l)) else none
 |_=>none
def ZoZ {R:Type} (f:PV→Option PV→Option PV→Option PV) (lo hi:Bool):List DV→(PV→Option R)→Option R:=fun ds kk=>
 match lo,hi,ds with
 |false,false,[x]=>(f x.v none none).bind kk
 |true,false,[x,l]=>(f x.v (some l.v) none).bind kk
 |false,true,[x,h]=>(f x.v none (some h.v)).bind kk
 |true,true,[x,l,h]=>(f x.v (some l.v) (some h.v)).bind kk
 |_,_,_=>none
def Zhp {R:Type} (T:Tab) (d:Nat) (t:TypeId) (x:SV) (lo hi:Option SV):Option (Eff R):=
 match T.lookup t with
 |none=>none
 | some ti=>
  if x.isV∧(lo.all SV.isV∧hi.all SV.isV) then
   match ti.desc with
   |.str=>some (Zj d (.ck .val) (ZoZ Zc5 lo.isSome hi.isSome))
   | .slice e=>match T.lookup e with
    |some te=>some (Zj d (.ck .val) (ZoZ (Zdc te.size) lo.isSome hi.isSome))
    |none=>none
   |_=>none
  else none
def Zsq (k:IntKind):PV→Option PV
 |.int _ n=>some (.int k (k.wrap n))
 |_=>none
def Zsr :PV→Option PV
 |.str s=>if s.length≤9223372036854775807 then some (.lst (s.map fun b=>.int .u8 b.toNat)) else none
 |_=>none
def Zh9 :PV→Option UInt8
 |.int .u8 n=>if 0≤n∧n<256 then some (UInt8.ofNat n.toNat) else none
 |_=>none
def Zd1 :List PV→Option (List UInt8)
 |[]=>some []
 |x::r=>(Zh9 x).bind fun b=>(Zd1 r).bind fun l=>some (b::l)
def ZgD {R:Type} (T:Tab) (d:Nat) (s t:TypeId) (x:SV):Option (Eff R):=
 match T.lookup s,T.lookup t with
 | some si,some ti=>
  match si.desc,ti.desc with
  |.int _,.int k=>if x.isV then some (Zj d (.ck .val) (Zbl fun x=>Zsq k x.v)) else none
  | .str,.slice e=>
   match T.lookup e with
   |some te=>if te.desc=.int .u8∧te.size=1∧x.isV then some (Zj d (.ck (.own false e 1)) (Zbl fun x=>Zsr x.v)) else none
   |none=>none
  | .slice e,.str=>
   match T.lookup e with
   |some te=>if te.desc=.int .u8∧(Z8 x).isSome∧Zhn (Z8 x)=true then some (Zj d (.ck .val) (Zbl fun y=>(Zh x y).bind fun l=>(Zd1 l).map .str)) else none
   |none=>none
  |_,_=>none
 |_,_=>none
section
variable {R :Type} {P:Program} {T:Tab} {o:Oper} {κ κ1:List Kd} {E:Eff R}
variable {w0 :World} {F0:Nat→Prop} {X0:List Nat} {σ:List PV} {a:Act} {w:World} {F F1:Nat→Prop} {fp fp1:Nat→List Nat}
theorem GrpR.all_vr {ks:List CK} {xs:List PV} {vs:List Value} {fps:List (List Nat)} (h:GrpR w F true ks xs vs fps) (hk:(ks.all fun k=>k≠.none)=true) (hF:∀b,F b→F1 b) (hb:∀b∈fps.flatten,F1 b):∀(i:Nat) (x:PV),xs[i]?=some x→x.one=true∧∃v,vs[i]?=some v∧VR w F1 x v:=fun i x hx=>by
 obtain ⟨k,v,fp,h1,h2,h3,h4,h5⟩:=h.at i x hx
 have hne:k≠.none:=by simpa using List.all_eq_true.1 hk k (List.mem_of_getElem? h1)
 refine ⟨h5 rfl,v,h2, ?_⟩
 have hst:Stays w F w F1:=⟨hF,fun _ _=>rfl⟩
 cases k with
 |none=>exact absurd rfl hne
 |val=>exact h4.1.keep hst
 |nil=>exact (CR.vr (k:=.nil) h4 (.inr rfl)).1.keep hst
 | own app e sz=>
  obtain ⟨l,rfl,hr⟩:=h4
  exact hr.vr (fun b hbb=>hb b (List.mem_flatten.2 ⟨fp,List.mem_of_getElem? h3,hbb⟩)) hF
theorem MapR.at {l:List (PV×PV)} {es:List MapEntry} (h:MapR w F l es):l.length=es.length∧∀(i:Nat) (p:PV×PV) (e:MapEntry),l[i]?=some p→es[i]?=some e→VR w F p.1 e.key∧VR w F p.2 e.val:=by
 induction h with
 |nil=>exact ⟨rfl,fun i p e hp=>by simp at hp⟩
 | cons hk hx ht ih=>
  refine ⟨by simp[ih.1],fun i p e hp he=> ?_⟩
  cases i with
  |zero=>simp at hp he;subst hp he;exact ⟨hk,hx⟩
  |succ i=>exact ih.2 i p e (by simpa using hp) (by simpa using he)
theorem Zts {l:List (PV×PV)} {es:Array MapEntry} {m clock:Nat} (h:MapR w F l es.toList) (hm:w.heap[m]?=some (.map es clock)):VR w (fun b=>F b∨b<w.heap.size) (.map l) (.map (some m)):=by
 obtain ⟨h1,h2⟩:=h.at
 have hm':m<w.heap.size:=(Array.getElem?_eq_some_iff.1 hm).1
 have hst:Stays w F w (fun b=>F b∨b<w.heap.size):=⟨fun _ h=>.inl h,fun _ _=>rfl⟩
 exact .map l m clock es (.inr hm') hm (by simpa using h1) (fun i p e hp he=>(h2 i p e hp (by simpa using he)).1.keep hst) (fun i p e hp he=>(h2 i p e hp (by simpa using he)).2.keep hst)
theorem Zp6 (h:St w0 F0 X0 κ σ a.tmps w F fp) {x:Operand} (hl:ZaM κ σ x) (hk:capK (sv κ x)=true):ZkE w (fun b=>b<w.heap.size) (capV (sv κ x) (dv κ σ x)) (a.eval x):=by
 unfold capK at hk
 unfold capV
 cases hb:(sv κ x).boxAt with
 | some p=>
  obtain ⟨q,ks,off⟩:=p
  rw[hb] at hk
  obtain ⟨b,cs,TT,xs,fps,_,e1,e2,e3,e4,e5,e6,e7,e8,e9⟩:=Zda h hl hb
  refine ⟨b,off,xs.drop off,e5, ?_,(Array.getElem?_eq_some_iff.1 e6).1,fun j y hy=> ?_⟩
  ·dsimp only;rw[e3]
  ·rw[List.getElem?_drop] at hy
   have hb':∀c∈fps.flatten,c<w.heap.size:=fun c hc=>(h.pr q c (e9 c (List.mem_cons_of_mem _ hc))).1
   obtain ⟨h1,v,h2,h3⟩:=e7.all_vr (F1:=fun b=>b<w.heap.size) hk h.fl hb' _ y hy
   exact ⟨h1,v,by rw[cell_of_row w b _ cs TT (0,0) e6];simpa using h2,h3⟩
 | none=>
  rw[hb] at hk
  simp only[Bool.or_eq_true,decide_eq_true_eq] at hk
  rcases hk with hk'|hk
  ·obtain ⟨l,_,hsr⟩:=h.at' x (by rw[hk'];simp)
   rw[hk'] at hsr
   dsimp only
   rw[hk']
   exact (hsr.1 (hl (by show (kOp κ x).hangs=true;rw[show kOp κ x=.ipt from hk'];rfl))).keep ⟨fun b hb=>h.fl b hb,fun _ _=>rfl⟩
  ·split at hk
   case h_2=>cases hk
   rename_i s kt et hk' hpk
   have hk2:kOp κ x=.mbx s:=hk'
   obtain ⟨l,_,hsr⟩:=h.at' x (by rw[hk'];simp)
   rw[hk'] at hsr
   obtain ⟨⟨b,e1,e2⟩,_⟩:=hsr
   have hal:=h.al' x hl
   rw[hk'] at hal
   obtain ⟨b',e3,e4⟩:=hal
   rw[e1] at e3
   simp at e3
   subst e3
   have hps:kd κ s=.mp kt et:=by simpa[sv,hk2,Kd.dep] using hpk
   obtain ⟨lm,_,hlm,hsm⟩:=h.sr s
   rw[hps] at hsm
   obtain ⟨m,clock,es,lp,m1,m2,m3,m4,m5⟩:=hsm
   have hpv:(dv κ σ x).pv=.map lp:=by simpa[dv,hk2,Kd.dep] using m2
   dsimp only
   rw[hk']
   refine ⟨b,0,[.map lp],e1,by dsimp only;rw[hpv],h.fl b e2,fun j y hy=> ?_⟩
   match j with
   | 0=>
    simp at hy
    subst hy
    exact ⟨rfl,_,by rw[e4,m1],(Zts m4 m3).keep ⟨fun c hc=>hc.elim (h.fl c) id,fun _ _=>rfl⟩⟩
   |j+1=>simp at hy
theorem ZjS {fn:Fn} {first captured:Array Operand} {d:Nat} (hop:o.op=.makeFunc fn first captured) (hd:o.dst=some d) (hE:ZfD d fn first.toList (captured.toList.map (sv κ))=some E):ZN P o κ E:=by
 unfold ZfD at hE
 split at hE
 case h_2=>cases hE
 rename_i f hfirst
 split at hE
 case isFalse=>cases hE
 rename_i hc
 cases hE
 have hf0:first= #[]:=by simpa using hfirst
 subst hf0
 have hops:o.op.operands.toList=captured.toList:=by rw[hop];simp[Op.operands]
 refine ZJ hd rfl rfl fun w0 F0 X0 σ a w F fp kk r h ht hlv hdy=> ?_
 rw[hops] at hdy hlv
 have hrun:(execOp a.eval o).run P w=.ok (.value (.func (.func f) #[] (captured.map a.eval))) w:=by simp[execOp,hop,Instr.makeFunc]
 have hlen:∀(l:List Operand),(Zho (l.map (sv κ)) (l.map (dv κ σ))).length=l.length:=by
  intro l;induction l with
  |nil=>rfl
  |cons x r ih=>simp[Zho,ih]
 have hat:∀(l:List Operand),(∀x∈l,ZaM κ σ x)→(∀x∈l,capK (sv κ x)=true)→∀(i:Nat) (y:PV),(Zho (l.map (sv κ)) (l.map (dv κ σ)))[i]?=some y→∃x,l[i]?=some x∧ZkE w (fun b=>b<w.heap.size) y (a.eval x):=by
  intro l
  induction l with
  |nil=>intro _ _ i y hy;simp[Zho] at hy
  | cons x r ih=>
   intro h1 h2 i y hy
   cases i with
   |zero=>simp[Zho] at hy;subst hy;exact ⟨x,rfl,Zp6 h (h1 x List.mem_cons_self) (h2 x List.mem_cons_self)⟩
   |succ i=>simpa using ih (fun z hz=>h1 z (List.mem_cons_of_mem _ hz)) (fun z hz=>h2 z (List.mem_cons_of_mem _ hz)) i y (by simpa[Zho] using hy)
 have hsz:(Zho (captured.toList.map (sv κ)) (captured.toList.map (dv κ σ))).length=(captured.map a.eval).size:=by rw[hlen];simp
 refine ⟨_,_,w,F,[],hrun,hdy,Adds.refl w h.fl,List.nodup_nil,⟨⟨_,_,.inl ⟨rfl,rfl,hsz⟩⟩,rfl⟩,by simp,fun _=>⟨_,_,rfl,rfl,hsz,fun i y hy=> ?_⟩,fun q hq=>by simp[Zj,Kd.bdep] at hq⟩
 obtain ⟨x,hx,hi⟩:=hat captured.toList (fun x hx=>Zc hlv hx) (fun x hx=>List.all_eq_true.1 hc.2 _ (List.mem_map.2 ⟨x,hx,rfl⟩)) i y hy
 have hx':captured[i]?=some x:=by simpa using hx
 have:(captured.map a.eval).getD i Go.undef=a.eval x:=by simp[Array.getD_eq_getD_getElem?,hx']
 rw[this]
 exact hi
theorem zc_vr {w:World} {F:Nat→Prop} (v:Value) (h:ZeQ v≠.other):VR w F (ZeQ v).pv v:=by
 have:=Zsi (w:=w) (F:=F) v
 cases hz:ZeQ v with
 |int k=>rw[hz] at this;exact this.1
 |bool=>rw[hz] at this;exact this.1
 |str=>rw[hz] at this;exact this.1
 |nil=>rw[hz] at this;exact (CR.vr (k:=.nil) this (.inr rfl)).1
 |other=>exact absurd hz h
theorem Zi3 {t:TypeId} {ti:TI} (ht:TyOk P t ti) (hz:(ti.zero.all fun z=>z≠.other)=true) (hs:ti.agg=true∨ti.size=1) {w:World} {F:Nat→Prop}:∃u:Value,VR w F (ZaN ti) u∧u.cells=ht.zv.cells∧(ZaN ti).width=ti.size∧ZaN ti≠.undef:=by
 have h1:=ht.hzero
 have h2:=ht.hzs
 have cell:∀(i:Nat) (v:Value),ht.zv.cells[i]?=some v→(ti.zero.map ZC.pv)[i]?=some (ZeQ v).pv∧VR w F (ZeQ v).pv v:=fun i v hv=>by
  have hv':ht.zv.cells.toList[i]?=some v:=by simpa using hv
  have hm:ti.zero[i]?=some (ZeQ v):=by rw[h1,List.getElem?_map,hv'];rfl
  exact ⟨by rw[List.getElem?_map,hm];rfl,zc_vr v (by simpa using List.all_eq_true.1 hz _ (List.mem_of_getElem? hm))⟩
 have hlen:(ti.zero.map ZC.pv).length=ti.size:=by rw[h1];simp[h2]
 cases ha:ti.agg
 ·have hs1:ti.size=1:=by rcases hs with hs|hs;rw[ha] at hs;cases hs;exact hs
  unfold ZaN
  rw[ha]
  simp only[Bool.false_eq_true,if_false]
  have hc0:ht.zv.cells[0]?=some (ht.zv.cells[0]'(by omega)):=Array.getElem?_eq_getElem (by omega)
  obtain ⟨g1,g2⟩:=cell 0 _ hc0
  have hhd:(ti.zero.map ZC.pv).headD .undef=(ZeQ (ht.zv.cells[0]'(by omega))).pv:=by
   cases hl:ti.zero.map ZC.pv with
   |nil=>rw[hl] at g1;cases g1
   |cons x r=>rw[hl] at g1;simpa using g1
  rw[hhd]
  have hone:=ZjE (ZeQ (ht.zv.cells[0]'(by omega)))
  refine ⟨_,g2, ?_, ?_,fun e=>by rw[e] at hone;cases hone⟩
  ·rw[g2.oneCell hone]
   apply Array.ext'
   apply List.ext_getElem?
   intro j
   cases j with
   |zero=>simp
   |succ j=>rw[List.getElem?_eq_none (by simp),List.getElem?_eq_none (by simp;omega)]
  ·generalize (ZeQ (ht.zv.cells[0]'(by omega))).pv=y at hone
   cases y<;>simp[PV.one] at hone<;>simp[PV.width,hs1]
 ·unfold ZaN
  rw[ha]
  simp only[if_true]
  obtain ⟨cs,hcs⟩:=ht.hagg ha
  rw[hcs] at cell h2
  rw[hcs]
  refine ⟨.agg cs, ?_,rfl,hlen,by simp⟩
  refine .agg _ cs (by rw[hlen];simpa[Value.cells] using h2.symm) (fun i x hx=> ?_) (fun i x hx=> ?_)
  ·rw[List.getElem?_map] at hx
   cases hzz:ti.zero[i]? with
   |none=>rw[hzz] at hx;cases hx
   |some z=>rw[hzz] at hx;cases hx;exact ZjE z
  ·have hi:i<cs.size:=by
    have:=(List.getElem?_eq_some_iff.1 hx).1
    rw[hlen,←h2] at this
    exact this
   have hv:cs[i]?=some cs[i]:=Array.getElem?_eq_getElem hi
   obtain ⟨g1,g2⟩:=cell i cs[i] hv
   rw[g1] at hx
   cases hx
   simpa[Array.getD_eq_getD_getElem?,hv] using g2
theorem ZiN (hT:TabOk P T) {t:TypeId} {x y:Operand} {same:Bool} {d:Nat} (hop:o.op=.makeSlice t x y) (hsame:same=true→x=y) (hd:o.dst=some d) (hE:ZeU T d t same (sv κ x)=some E):ZN P o κ E:=by
 unfold ZeU at hE
 split at hE
 case h_1=>cases hE
 rename_i ti hi
 obtain ⟨ht⟩:=hT.ty hi
 split at hE
 case h_2=>cases hE
 rename_i e hds
 have hus:=ZT ht hds
 split at hE
 case h_1=>cases hE
 rename_i te hte
 obtain ⟨he⟩:=hT.ty hte
 split at hE
 case isFalse=>cases hE
 rename_i hc
 obtain ⟨c1,c2,c3,c4,c5,c6⟩:=hc
 obtain rfl:=hsame c1
 cases hE
 refine ZJ hd rfl rfl fun w0 F0 X0 σ a w F fp kk r h htt hlv hdy=> ?_
 have hdy':((Zsp te (dv κ σ x).v).bind kk)=some r:=by rw[hop] at hdy;exact hdy
 obtain ⟨z,hz,hkk⟩:=Option.bind_eq_some_iff.1 hdy'
 have hx:=rdS h c2
 unfold Zsp at hz
 split at hz
 case h_2=>cases hz
 rename_i k n hv
 rw[hv] at hx
 have hx:=hx.int_eq
 split at hz
 case isFalse=>cases hz
 rename_i hn
 cases hz
 obtain ⟨m,rfl⟩:∃m:Nat,n=m:=⟨n.toNat,by omega⟩
 have hby:(he.row.bytes:Int) * (m:Int)≤281474976710656:=by
  rw[he.hbytes]
  have:te.bytes * m≤32768 * 4294967296:=Nat.mul_le_mul c4 (by omega)
  have h2:((te.bytes * m:Nat):Int)≤281474976710656:=by omega
  rwa[Int.natCast_mul] at h2
 have hr:=run_make (P:=P) w t e he.row he.zv hus he.hrow he.hz k k m m (by omega) (Int.le_refl _) hby (by omega)
 simp only[Int.toNat_natCast] at hr
 obtain ⟨u,z1,z2,z3,z4⟩:=Zi3 he c6 c5 (w:=w.alloc (.cells (madeCells he.zv.cells (m * he.row.size)) e)) (F:=F)
 have hus':u.cells.size=te.size:=by rw[z2];exact he.hzs
 refine ⟨_,.slice (some ⟨w.heap.size,0,none⟩) m m,_,F,[w.heap.size],by simp[execOp,hop,hx,hr],hkk,(Adds.refl w h.fl).alloc _,by simp,⟨_,rfl,(Zr (Zaa he.hsm)).2<| .inr ⟨w.heap.size,m,madeCells he.zv.cells (m * he.row.size),(0,0), ?_,rfl,heap_alloc_new w _,fun _=>rfl,.inl (Nat.le_refl _), ?_, ?_, ?_,fun i y hy=> ?_⟩⟩,fun b hb=> ?_,fun _=>trivial,fun q hq=>by simp[Zj,Kd.bdep] at hq⟩
 ·simp
 ·simp
 ·unfold maxLen;omega
 ·rw[size_madeCells,he.hsize]
 ·have hi:i<m:=by have:=(List.getElem?_eq_some_iff.1 hy).1;simpa using this
  have hy':y=ZaN te:=by
   rw[List.getElem?_replicate] at hy
   simp only[Int.toNat_natCast,hi,if_true,Option.some.injEq] at hy
   exact hy.symm
  subst hy'
  refine ⟨z3,z4,u,z1,fun j c hcc=> ?_⟩
  have hj:j<te.size:=by rw[←hus'];exact (Array.getElem?_eq_some_iff.1 hcc).1
  have hlt:i * te.size+j<m * te.size:=by
   have:(i+1) * te.size≤m * te.size:=Nat.mul_le_mul_right _ hi
   rw[Nat.succ_mul] at this
   omega
  rw[he.hsize]
  unfold madeCells
  rw[Array.getElem?_map,Array.getElem?_range,if_pos hlt]
  simp only[Option.map_some,Option.some.injEq]
  have e1:(i * te.size+j) % he.zv.cells.size=j:=by rw[he.hzs,Nat.mul_comm,Nat.mul_add_mod,Nat.mod_eq_of_lt hj]
  rw[e1]
  rw[z2] at hcc
  obtain ⟨hlt2,rfl⟩:=Array.getElem?_eq_some_iff.1 hcc
  exact getElem!_pos he.zv.cells j hlt2
 ·simp at hb;subst hb;exact ⟨Nat.le_refl _,by simp,fun hc=>by have:=h.fl _ hc;omega⟩
theorem VR.part {w:World} {F:Nat→Prop} {l:List PV} {A:Option Addr} {c:Nat} (h:VR w F (.lst l) (.slice A l.length c)) (lo hi sz:Nat) (h1:lo≤hi) (h2:hi≤l.length) (hsz:∀(i:Nat) (x:PV),l[i]?=some x→x.width=sz):VR w F (.lst ((l.take hi).drop lo)) (sliced A lo hi c sz):=by
 cases h with
 | lst _ _ _ sz' vs g1 g2 g3 g4 g5=>
  have hl:((l.take hi).drop lo).length=hi - lo:=by simp;omega
  have hget:∀i,i<hi - lo→((l.take hi).drop lo)[i]?=l[lo+i]?:=fun i hi'=>by
   rw[List.getElem?_drop,List.getElem?_take,if_pos (by omega)]
  unfold sliced
  rw[←hl]
  refine .lst _ _ _ sz (fun i=>vs (lo+i)) (by rw[hl];omega) (by omega) (fun hne=> ?_) (fun i x hx=> ?_) (fun i x hx=> ?_)
  ·have hlt:lo<hi:=by
    rcases Nat.lt_or_ge lo hi with hh|hh
    ·exact hh
    ·exfalso;apply hne;apply List.eq_nil_of_length_eq_zero;omega
   have hln:l≠[]:=by rintro rfl;simp at h2;omega
   obtain ⟨b,off,rfl,hF,hc⟩:=g3 hln
   refine ⟨b,off+lo * sz, ?_,hF,fun i hi' j u hj=> ?_⟩
   ·rw[if_neg (by omega)];simp[Addr.add_lit]
   ·rw[hl] at hi'
    have hx:l[lo+i]?=some l[lo+i]:=List.getElem?_eq_getElem (by omega)
    have hs:sz'=sz:=by rw[←(g4 _ _ hx).1];exact hsz _ _ hx
    subst hs
    have:=hc (lo+i) (by omega) j u hj
    rw[Nat.add_mul] at this
    rw[show off+lo * sz'+i * sz'+j=off+(lo * sz'+i * sz')+j from by omega]
    exact this
  ·have hi':i<hi - lo:=by rw[←hl];exact (List.getElem?_eq_some_iff.1 hx).1
   rw[hget i hi'] at hx
   have hs:sz'=sz:=by rw[←(g4 _ _ hx).1];exact hsz _ _ hx
   subst hs
   exact g4 _ _ hx
  ·have hi':i<hi - lo:=by rw[←hl];exact (List.getElem?_eq_some_iff.1 hx).1
   rw[hget i hi'] at hx
   exact g5 _ _ hx
theorem Zhq {n c:Nat} (hnc:n≤c) {isS:Bool} {lo hi:Option PV} {h l:Nat} {vl vh:Option Value} (hh:ZfE n hi=some h) (hl:Zh8 h lo=some l) (e1:∀z,lo=some z→∃v,vl=some v∧∀k i,z=.int k i→v=.int k i) (e1':lo=none→vl=none) (e2:∀z,hi=some z→∃v,vh=some v∧∀k i,z=.int k i→v=.int k i) (e2':hi=none→vh=none) (w:World):
 (Instr.sliceBounds isS n c vl vh none).run P w=.ok (l,h,c) w∧l≤h∧h≤n:=by
 have hb:h≤n∧((vh=none∧h=n)∨∃k i,vh=some (.int k i)∧0≤i∧i≤(n:Int)∧h=i.toNat):=by
  cases hi with
  |none=>have:=e2' rfl;simp[ZfE] at hh;subst this;simp[hh]
  | some z=>
   obtain ⟨v,rfl,hv⟩:=e2 z rfl
   cases z<;>simp[ZfE] at hh
   obtain ⟨⟨h1,h2⟩,rfl⟩:=hh
   exact ⟨by omega,.inr ⟨_,_,by rw[hv _ _ rfl],h1,h2,rfl⟩⟩
 have lb:l≤h∧((vl=none∧l=0)∨∃k i,vl=some (.int k i)∧0≤i∧i≤(h:Int)∧l=i.toNat):=by
  cases lo with
  |none=>have:=e1' rfl;simp[Zh8] at hl;subst this;simp[←hl]
  | some z=>
   obtain ⟨v,rfl,hv⟩:=e1 z rfl
   cases z<;>simp[Zh8] at hl
   obtain ⟨⟨h1,h2⟩,rfl⟩:=hl
   exact ⟨by omega,.inr ⟨_,_,by rw[hv _ _ rfl],h1,h2,rfl⟩⟩
 refine ⟨?_,lb.1,hb.1⟩
 obtain ⟨hb1,hb2⟩:=hb
 obtain ⟨lb1,lb2⟩:=lb
 rcases hb2 with ⟨rfl,rfl⟩|⟨k,i,rfl,h1,h2,rfl⟩
 ·rcases lb2 with ⟨rfl,rfl⟩|⟨k',i',rfl,h3,h4,rfl⟩
  ·simp[Instr.sliceBounds]
  ·simp[Instr.sliceBounds,run_sliceBound w k' i' _ _ h3 h4]
 ·have h2':i≤(c:Int):=by omega
  rcases lb2 with ⟨rfl,rfl⟩|⟨k',i',rfl,h3,h4,rfl⟩
  ·cases isS<;>simp[Instr.sliceBounds,run_sliceBound w k i _ _ h1 h2']
  ·cases isS<;>simp[Instr.sliceBounds,run_sliceBound w k i _ _ h1 h2',run_sliceBound w k' i' _ _ h3 h4]
theorem ZfF (hT:TabOk P T) {t:TypeId} {x:Operand} {lo hi:Option Operand} {d:Nat} (hop:o.op=.slice t x lo hi none) (hd:o.dst=some d) (hE:Zhp T d t (sv κ x) (lo.map (sv κ)) (hi.map (sv κ))=some E):ZN P o κ E:=by
 have hops:o.op.operands.toList=x::(lo.toList++hi.toList):=by rw[hop];cases lo<;>cases hi<;>rfl
 unfold Zhp at hE
 split at hE
 case h_1=>cases hE
 rename_i ti hti
 obtain ⟨ht⟩:=hT.ty hti
 split at hE
 case isFalse=>cases hE
 rename_i hc
 obtain ⟨c1,c2,c3⟩:=hc
 have hvl:∀(w0:World) (F0:Nat→Prop) (X0:List Nat) (σ:List PV) (a:Act) (w:World) (F:Nat→Prop) (fp:Nat→List Nat),St w0 F0 X0 κ σ a.tmps w F fp→∀(y:Option Operand),(y.map (sv κ)).all SV.isV=true→(∀z,y.map (fun u=>(dv κ σ u).v)=some z→∃v,y.map a.eval=some v∧∀k i,z=.int k i→v=.int k i)∧(y.map (fun u=>(dv κ σ u).v)=none→y.map a.eval=none):=by
  intro w0 F0 X0 σ a w F fp h y hy
  cases y with
  |none=>simp
  | some u=>
   simp only[Option.map_some,Option.all_some] at hy
   have hu:=rdS h hy
   refine ⟨fun z hz=>⟨_,rfl,fun k i e=> ?_⟩,by simp⟩
   simp only[Option.map_some,Option.some.injEq] at hz
   rw[←hz] at e
   rw[e] at hu
   exact hu.int_eq
 have hcut:∀(f:PV→Option PV→Option PV→Option PV) (σ:List PV) (kk:PV→Option R) (r:R),ZoZ f (lo.map (sv κ)).isSome (hi.map (sv κ)).isSome (o.op.operands.toList.map (dv κ σ)) kk=some r→
  ∃z,f (dv κ σ x).v (lo.map fun u=>(dv κ σ u).v) (hi.map fun u=>(dv κ σ u).v)=some z∧kk z=some r:=by
  intro f σ kk r hdy
  rw[hops] at hdy
  cases lo<;>cases hi<;>exact Option.bind_eq_some_iff.1 hdy
 split at hE
 ·rename_i hds
  cases hE
  refine ZaC hd rfl rfl rfl fun w0 F0 X0 σ a w F fp kk r h htt hlv hdy=> ?_
  obtain ⟨z,hz,hkk⟩:=hcut _ σ kk r hdy
  have hx:=rdS h c1
  unfold Zc5 at hz
  split at hz
  case h_2=>cases hz
  rename_i s hv
  rw[hv] at hx
  have hx:=hx.str_eq
  obtain ⟨hh,hh1,hz⟩:=Option.bind_eq_some_iff.1 hz
  obtain ⟨ll,hl1,hz⟩:=Option.bind_eq_some_iff.1 hz
  cases hz
  obtain ⟨a1,a2⟩:=hvl w0 F0 X0 σ a w F fp h lo c2
  obtain ⟨b1,b2⟩:=hvl w0 F0 X0 σ a w F fp h hi c3
  obtain ⟨r1,r2,r3⟩:=Zhq (P:=P) (c:=s.length) (Nat.le_refl _) (isS:=false) hh1 hl1 a1 a2 b1 b2 w
  have hus:P.underlying t=some .string:=by
   have hdd:=ht.hd
   have hu:=ht.hdesc
   rw[hds] at hdd
   cases hd2:ht.desc<;>rw[hd2] at hdd<;>simp[ZeR] at hdd
   rw[←hd2];exact hu
  have hsz:(⟨s.toArray⟩:ByteArray).size=s.length:=by simp[ByteArray.size]
  refine ⟨.str ((s.take hh).drop ll),.string ⟨((s.take hh).drop ll).toArray⟩, ?_,hkk,.str _⟩
  have hext:(⟨s.toArray⟩:ByteArray).extract ll hh=⟨((s.take hh).drop ll).toArray⟩:=by
   have:((⟨s.toArray⟩:ByteArray).extract ll hh).data=((s.take hh).drop ll).toArray:=by
    rw[ByteArray.data_extract]
    simp[List.extract,List.drop_take]
   cases h':(⟨s.toArray⟩:ByteArray).extract ll hh
   rw[h'] at this
   simp at this
   rw[this]
  rw[←hsz] at r1
  simp only[execOp,hop,Option.map_none,Sem.run_bind,run_sliceAt_string w t _ _ _ _ hus]
  rw[hx]
  rw[hsz] at r1
  simp[Instr.slice,run_underlying hus,hsz,r1,hext]
 ·rename_i e hds
  have hus:=ZT ht hds
  split at hE
  case h_2=>cases hE
  rename_i te hte
  obtain ⟨he⟩:=hT.ty hte
  cases hE
  refine ZaC hd rfl rfl rfl fun w0 F0 X0 σ a w F fp kk r h htt hlv hdy=> ?_
  obtain ⟨z,hz,hkk⟩:=hcut _ σ kk r hdy
  have hx:=rdS h c1
  unfold Zdc at hz
  split at hz
  case h_2=>cases hz
  rename_i s hv
  rw[hv] at hx
  obtain ⟨A,c,hsl⟩:=hx.lst_eq
  rw[hsl] at hx
  obtain ⟨hh,hh1,hz⟩:=Option.bind_eq_some_iff.1 hz
  obtain ⟨ll,hl1,hz⟩:=Option.bind_eq_some_iff.1 hz
  split at hz
  case isFalse=>cases hz
  rename_i hok
  cases hz
  obtain ⟨a1,a2⟩:=hvl w0 F0 X0 σ a w F fp h lo c2
  obtain ⟨b1,b2⟩:=hvl w0 F0 X0 σ a w F fp h hi c3
  have hlc:s.length≤c:=by cases hx;assumption
  obtain ⟨r1,r2,r3⟩:=Zhq (P:=P) (c:=c) hlc (isS:=true) hh1 hl1 a1 a2 b1 b2 w
  have hel:P.elem t=e:=by simp[Program.elem,hus]
  have hus':P.underlying t=some (.slice (P.elem t)):=by rw[hel];exact hus
  have h4:=he.run_sizeOf w
  refine ⟨_,sliced A ll hh c te.size, ?_,hkk,hx.part ll hh te.size r2 r3 fun i y hy=> ?_⟩
  ·simp only[execOp,hop,Option.map_none,Sem.run_bind,run_sliceAt_slice w t _ _ _ _ hus']
   rw[hsl,run_slice_any w t A s.length c hus',r1]
   simp[hel,h4]
  ·have:=List.all_eq_true.1 hok y (List.mem_of_getElem? hy)
   obtain ⟨cl,hcl⟩:=Option.isSome_iff_exists.1 this
   exact (Za8 hcl).2.2.1
 ·cases hE
theorem ZdF {t:TypeId} {ti:TI} (ht:TyOk P t ti) {k:IntKind} (h:ti.desc=.int k):P.underlying t=some (.int k):=by
 have hdd:=ht.hd
 have hu:=ht.hdesc
 rw[h] at hdd
 cases hd2:ht.desc<;>rw[hd2] at hdd<;>simp[ZeR] at hdd
 rw[hdd,←hd2];exact hu
theorem Zhr {t:TypeId} {ti:TI} (ht:TyOk P t ti) (h:ti.desc=.str):P.underlying t=some .string:=by
 have hdd:=ht.hd
 have hu:=ht.hdesc
 rw[h] at hdd
 cases hd2:ht.desc<;>rw[hd2] at hdd<;>simp[ZeR] at hdd
 rw[←hd2];exact hu
theorem ZqU {x:PV} {b:UInt8} (h:Zh9 x=some b):x=.int .u8 b.toNat:=by
 unfold Zh9 at h
 split at h
 ·rename_i n
  split at h
  ·rename_i hn
   cases h
   congr 1
   simp
   omega
  ·cases h
 ·cases h
theorem ZjT :∀{l:List PV} {bs:List UInt8},Zd1 l=some bs→l=bs.map fun b=>.int .u8 b.toNat
 |[],bs,h=>by simp[Zd1] at h;subst h;rfl
 | x::r,bs,h=>by
  unfold Zd1 at h
  obtain ⟨b,hb,h⟩:=Option.bind_eq_some_iff.1 h
  obtain ⟨l,hl,h⟩:=Option.bind_eq_some_iff.1 h
  cases h
  rw[ZqU hb,ZjT hl]
  rfl
theorem ZkI (hT:TabOk P T) {s t:TypeId} {x:Operand} {d:Nat} (hop:o.op=.convert s t x) (hd:o.dst=some d) (hE:ZgD T d s t (sv κ x)=some E):ZN P o κ E:=by
 have hops:o.op.operands.toList=[x]:=by rw[hop];rfl
 unfold ZgD at hE
 split at hE
 case h_2=>cases hE
 rename_i si ti hsi hti
 obtain ⟨hs⟩:=hT.ty hsi
 obtain ⟨ht⟩:=hT.ty hti
 split at hE
 ·rename_i k0 k h1 h2
  split at hE
  case isFalse=>cases hE
  rename_i hv
  cases hE
  refine ZaC hd rfl rfl rfl fun w0 F0 X0 σ a w F fp kk r h htt hlv hdy=> ?_
  rw[hops] at hdy
  obtain ⟨z,hz,hkk⟩:=Option.bind_eq_some_iff.1 hdy
  have hx:=rdS h hv
  replace hz:Zsq k (dv κ σ x).v=some z:=hz
  unfold Zsq at hz
  split at hz
  case h_2=>cases hz
  rename_i k1 n hv1
  cases hz
  rw[hv1] at hx
  have hx:=hx.int_eq
  refine ⟨_,.int k (k.wrap n), ?_,hkk,.int _ _⟩
  have u1:=ZdF hs h1
  have u2:=ZdF ht h2
  simp[execOp,hop,hx,convert,run_underlying u1,run_underlying u2,Conv.intToInt]
 ·rename_i e h1 h2
  split at hE
  case h_2=>cases hE
  rename_i te hte
  obtain ⟨he⟩:=hT.ty hte
  split at hE
  case isFalse=>cases hE
  rename_i hc
  obtain ⟨c1,c2,c3⟩:=hc
  cases hE
  have u1:=Zhr hs h1
  have u2:=ZT ht h2
  have u3:=ZdF he c1
  refine ZJ hd rfl rfl fun w0 F0 X0 σ a w F fp kk r h htt hlv hdy=> ?_
  rw[hops] at hdy
  obtain ⟨z,hz,hkk⟩:=Option.bind_eq_some_iff.1 hdy
  have hx:=rdS h c3
  replace hz:Zsr (dv κ σ x).v=some z:=hz
  unfold Zsr at hz
  split at hz
  case h_2=>cases hz
  rename_i b hv1
  split at hz
  case isFalse=>cases hz
  rename_i hbig0
  have hbig:b.length≤maxLen:=hbig0
  cases hz
  rw[hv1] at hx
  have hx:=hx.str_eq
  have hr:=run_bytes_of_string (P:=P) w s t e ⟨b.toArray⟩ u1 u2 u3
  have hbs:(⟨b.toArray⟩:ByteArray).size=b.length:=by simp[ByteArray.size]
  rw[hbs] at hr
  have hge:=grownCap_ge w b.length 0 e
  have hcsz:(bytesRow ⟨b.toArray⟩ (grownCap w b.length 0 e)).size=grownCap w b.length 0 e:=by
   unfold bytesRow
   simp[hbs]
   omega
  have hrun:(execOp a.eval o).run P w=.ok (.value (.slice (some ⟨w.heap.size,0,none⟩) b.length (grownCap w b.length 0 e))) (w.drew.alloc (.cells (bytesRow ⟨b.toArray⟩ (grownCap w b.length 0 e)) e ((bytesRow ⟨b.toArray⟩ (grownCap w b.length 0 e)).size,(bytesRow ⟨b.toArray⟩ (grownCap w b.length 0 e)).size+1))):=by
   simp[execOp,hop,hx,hr]
  refine ⟨_,_,_,F,[w.heap.size],hrun,hkk,((Adds.refl w h.fl).drew).alloc _,by simp,⟨_,rfl,(Zr (Zaa (by decide))).2<| .inr ⟨w.heap.size,grownCap w b.length 0 e,bytesRow ⟨b.toArray⟩ (grownCap w b.length 0 e),((bytesRow ⟨b.toArray⟩ (grownCap w b.length 0 e)).size,(bytesRow ⟨b.toArray⟩ (grownCap w b.length 0 e)).size+1),by simp,rfl,heap_alloc_new w.drew _,(fun hc=>by cases hc),.inr (Nat.le_refl _),by simpa using hge,grownCap_le_maxLen w b.length 0 e hbig,by rw[hcsz,Nat.mul_one],fun i y hy=> ?_⟩⟩,fun c hc=> ?_,fun _=>trivial,fun q hq=>by simp[Zj,Kd.bdep] at hq⟩
  ·rw[List.getElem?_map] at hy
   obtain ⟨bb,hbb,rfl⟩:=Option.map_eq_some_iff.1 hy
   refine ⟨rfl,by simp,_,.int _ _,fun j c hc=> ?_⟩
   obtain ⟨hlt,rfl⟩:=List.getElem?_eq_some_iff.1 hbb
   cases j with
   | zero=>
    simp[Value.cells] at hc
    subst hc
    have:=bytesRow_at ⟨b.toArray⟩ (grownCap w b.length 0 e) i (by simpa using hlt)
    simpa using this
   |succ j=>simp[Value.cells] at hc
  ·simp at hc;subst hc;exact ⟨Nat.le_refl _,by simp,fun hc=>by have:=h.fl _ hc;omega⟩
 ·rename_i e h1 h2
  split at hE
  case h_2=>cases hE
  rename_i te hte
  obtain ⟨he⟩:=hT.ty hte
  split at hE
  case isFalse=>cases hE
  rename_i hc
  obtain ⟨c1,c2,c3⟩:=hc
  cases hE
  have u1:=ZT hs h1
  have u2:=Zhr ht h2
  have u3:=ZdF he c1
  refine ZaC hd rfl rfl rfl fun w0 F0 X0 σ a w F fp kk r h htt hlv hdy=> ?_
  have hlx:=Zc hlv (by rw[hops];exact .head _)
  rw[hops] at hdy
  obtain ⟨z,hz,hkk⟩:=Option.bind_eq_some_iff.1 hdy
  obtain ⟨l,hl,hz⟩:=Option.bind_eq_some_iff.1 hz
  obtain ⟨bs,hbs,rfl⟩:=Option.map_eq_some_iff.1 hz
  have hlb:=ZjT hbs
  have hok:l.all (Zag 1)=true:=by rw[hlb];simp[Zag,Zd]
  obtain ⟨A,c,hev,hsrc⟩:=ZeA h hlx hl hok (by omega) c2 c3
  have hln:l.length=bs.length:=by rw[hlb];simp
  refine ⟨.str bs,.string ⟨bs.toArray⟩, ?_,hkk,.str _⟩
  by_cases hne:l=[]
  ·have:bs=[]:=List.eq_nil_of_length_eq_zero (by rw[←hln,hne];rfl)
   subst this
   rw[hln] at hev
   cases A with
   | none=>
    have h0:(Conv.bytesToString (.slice none 0 c)).run P w=.ok (.string .empty) w:=by simp[Conv.bytesToString]
    simp[execOp,hop,hev,run_convert_bytes_string w s t e none 0 c u1 u3 u2,h0]
    rfl
   | some ad=>
    have:=run_convert_bytes_back (P:=P) w s t e ad c [] u1 u3 u2 (fun j hj=>by simp at hj)
    simp at this
    simp[execOp,hop,hev,this]
  ·obtain ⟨ad,news,rfl,n1,n2,n3,n4⟩:=hsrc hne
   have hbk:=run_convert_bytes_back (P:=P) w s t e ad c bs u1 u3 u2 (fun j hj=>by
    have hx:l[j]?=some (.int .u8 (bs[j].toNat:Int)):=by rw[hlb,List.getElem?_map,List.getElem?_eq_getElem hj];rfl
    obtain ⟨_,_,u,hu,hc⟩:=n4 j _ hx
    have hu:=hu.int_eq
    subst hu
    have:=hc 0 (.int .u8 (bs[j].toNat:Int)) rfl
    rw[Nat.mul_one,Nat.add_zero] at this
    exact n2 j _ (by simpa using this))
   rw[hln] at hev
   simp[execOp,hop,hev,hbk]
 ·cases hE
end
end Go.Proofs.YtjjobbamoeaogaaDoor
