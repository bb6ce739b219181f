/-
  THE DATA of the Go structs as plain Lean types, their shapes in memory, and how element k of a row of them is read. Printed by a program of this repo (shapes.py).
-/
import Derived.Test.YtogfphbpjlgpdaaBase
namespace Go.Proofs.Ytogfphbpjlgpdaa
open Go.RowKit
set_option linter.unusedVariables false

structure TF where
  at_ : Int
  t : Int
  deriving DecidableEq
def shTF : Sh TF := Sh.via (shPair shInt shInt) (fun x => (x.at_, x.t))
theorem shTF_size : shTF.size = 2 := rfl
theorem shTF_rep {w : World} {D : Nat → Prop} {cs : List Value} {x : TF} (h : shTF.rep w D cs x) : cs = [.int .i64 x.at_, .int .i64 x.t] ∧ InI x.at_ ∧ InI x.t := by
  obtain ⟨p1, q1, rfl, h1, k1⟩ := h
  obtain ⟨rfl, f2⟩ := h1
  obtain ⟨rfl, f3⟩ := k1
  exact ⟨rfl, f2, f3⟩
theorem shTF_mk {w : World} {D : Nat → Prop} {x : TF} (f0 : InI x.at_) (f1 : InI x.t) : shTF.rep w D [.int .i64 x.at_, .int .i64 x.t] x := by
  exact ⟨[.int .i64 x.at_], _, rfl, ⟨rfl, f0⟩, ⟨rfl, f1⟩⟩
theorem RSl.TF_at {w : World} {D : Nat → Prop} {A : Option Addr} {l : List TF} {k : Nat} {x : TF} (h : RSl shTF w D A l) (hx : l[k]? = some x) :
    ∃ (b off : Nat), A = some ⟨b, off, none⟩ ∧ D b ∧ w.cell? ⟨b, off + k * 2, none⟩ = some (.int .i64 x.at_) ∧ w.cell? ⟨b, off + k * 2 + 1, none⟩ = some (.int .i64 x.t) ∧ InI x.at_ ∧ InI x.t := by
  obtain ⟨b, off, cs, e, hb, hr, hc⟩ := h.cells_at hx
  obtain ⟨rfl, g0, g1⟩ := shTF_rep hr
  exact ⟨b, off, e, hb, by simpa [shTF_size] using hc 0 _ rfl, by simpa [shTF_size] using hc 1 _ rfl, g0, g1⟩
theorem RA.TF_at {w wr : World} {A : Option Addr} {l : List TF} {k : Nat} {x : TF} (h : RA shTF w A l) (hb : Below w.heap.size w wr) (hx : l[k]? = some x) :
    ∃ (b off : Nat), A = some ⟨b, off, none⟩ ∧ b < wr.heap.size ∧ wr.cell? ⟨b, off + k * 2, none⟩ = some (.int .i64 x.at_) ∧ wr.cell? ⟨b, off + k * 2 + 1, none⟩ = some (.int .i64 x.t) ∧ InI x.at_ ∧ InI x.t := RSl.TF_at (h.to hb) hx

structure Tr where
  pre : List (Int)
  post : List (Int)
  deriving DecidableEq
def shTr : Sh Tr := Sh.via (shPair (shSl shInt) (shSl shInt)) (fun x => (x.pre, x.post))
theorem shTr_size : shTr.size = 2 := rfl
theorem shTr_rep {w : World} {D : Nat → Prop} {cs : List Value} {x : Tr} (h : shTr.rep w D cs x) : ∃ (A_pre : Option Addr) (c_pre : Nat) (A_post : Option Addr) (c_post : Nat), cs = [.slice A_pre (x.pre).length c_pre, .slice A_post (x.post).length c_post] ∧ (x.pre).length ≤ c_pre ∧ c_pre ≤ 9223372036854775807 ∧ RSl shInt w D A_pre x.pre ∧ (x.post).length ≤ c_post ∧ c_post ≤ 9223372036854775807 ∧ RSl shInt w D A_post x.post := by
  obtain ⟨p1, q1, rfl, h1, k1⟩ := h
  obtain ⟨A2, c2, rfl, f2, g2, r2⟩ := h1
  obtain ⟨A3, c3, rfl, f3, g3, r3⟩ := k1
  exact ⟨A2, c2, A3, c3, rfl, f2, g2, r2, f3, g3, r3⟩
theorem shTr_mk {w : World} {D : Nat → Prop} {x : Tr} {A_pre : Option Addr} {c_pre : Nat} {A_post : Option Addr} {c_post : Nat} (f0 : (x.pre).length ≤ c_pre) (f1 : c_pre ≤ 9223372036854775807) (f2 : RSl shInt w D A_pre x.pre) (f3 : (x.post).length ≤ c_post) (f4 : c_post ≤ 9223372036854775807) (f5 : RSl shInt w D A_post x.post) : shTr.rep w D [.slice A_pre (x.pre).length c_pre, .slice A_post (x.post).length c_post] x := by
  exact ⟨[.slice A_pre (x.pre).length c_pre], _, rfl, ⟨_, _, rfl, f0, f1, f2⟩, ⟨_, _, rfl, f3, f4, f5⟩⟩
theorem RSl.Tr_at {w : World} {D : Nat → Prop} {A : Option Addr} {l : List Tr} {k : Nat} {x : Tr} (h : RSl shTr w D A l) (hx : l[k]? = some x) :
    ∃ (b off : Nat) (A_pre : Option Addr) (c_pre : Nat) (A_post : Option Addr) (c_post : Nat), A = some ⟨b, off, none⟩ ∧ D b ∧ w.cell? ⟨b, off + k * 2, none⟩ = some (.slice A_pre (x.pre).length c_pre) ∧ w.cell? ⟨b, off + k * 2 + 1, none⟩ = some (.slice A_post (x.post).length c_post) ∧ (x.pre).length ≤ c_pre ∧ c_pre ≤ 9223372036854775807 ∧ RSl shInt w D A_pre x.pre ∧ (x.post).length ≤ c_post ∧ c_post ≤ 9223372036854775807 ∧ RSl shInt w D A_post x.post := by
  obtain ⟨b, off, cs, e, hb, hr, hc⟩ := h.cells_at hx
  obtain ⟨A_pre, c_pre, A_post, c_post, rfl, g0, g1, g2, g3, g4, g5⟩ := shTr_rep hr
  exact ⟨b, off, A_pre, c_pre, A_post, c_post, e, hb, by simpa [shTr_size] using hc 0 _ rfl, by simpa [shTr_size] using hc 1 _ rfl, g0, g1, g2, g3, g4, g5⟩
theorem RA.Tr_at {w wr : World} {A : Option Addr} {l : List Tr} {k : Nat} {x : Tr} (h : RA shTr w A l) (hb : Below w.heap.size w wr) (hx : l[k]? = some x) :
    ∃ (b off : Nat) (A_pre : Option Addr) (c_pre : Nat) (A_post : Option Addr) (c_post : Nat), A = some ⟨b, off, none⟩ ∧ b < wr.heap.size ∧ wr.cell? ⟨b, off + k * 2, none⟩ = some (.slice A_pre (x.pre).length c_pre) ∧ wr.cell? ⟨b, off + k * 2 + 1, none⟩ = some (.slice A_post (x.post).length c_post) ∧ (x.pre).length ≤ c_pre ∧ c_pre ≤ 9223372036854775807 ∧ RA shInt wr A_pre x.pre ∧ (x.post).length ≤ c_post ∧ c_post ≤ 9223372036854775807 ∧ RA shInt wr A_post x.post := RSl.Tr_at (h.to hb) hx

structure Net where
  places : Int
  trans : List Tr
  deriving DecidableEq
def shNet : Sh Net := Sh.via (shPair shInt (shSl shTr)) (fun x => (x.places, x.trans))
theorem shNet_size : shNet.size = 2 := rfl
theorem shNet_rep {w : World} {D : Nat → Prop} {cs : List Value} {x : Net} (h : shNet.rep w D cs x) : ∃ (A_trans : Option Addr) (c_trans : Nat), cs = [.int .i64 x.places, .slice A_trans (x.trans).length c_trans] ∧ InI x.places ∧ (x.trans).length ≤ c_trans ∧ c_trans ≤ 9223372036854775807 ∧ RSl shTr w D A_trans x.trans := by
  obtain ⟨p1, q1, rfl, h1, k1⟩ := h
  obtain ⟨rfl, f2⟩ := h1
  obtain ⟨A3, c3, rfl, f3, g3, r3⟩ := k1
  exact ⟨A3, c3, rfl, f2, f3, g3, r3⟩
theorem shNet_mk {w : World} {D : Nat → Prop} {x : Net} {A_trans : Option Addr} {c_trans : Nat} (f0 : InI x.places) (f1 : (x.trans).length ≤ c_trans) (f2 : c_trans ≤ 9223372036854775807) (f3 : RSl shTr w D A_trans x.trans) : shNet.rep w D [.int .i64 x.places, .slice A_trans (x.trans).length c_trans] x := by
  exact ⟨[.int .i64 x.places], _, rfl, ⟨rfl, f0⟩, ⟨_, _, rfl, f1, f2, f3⟩⟩
theorem RSl.Net_at {w : World} {D : Nat → Prop} {A : Option Addr} {l : List Net} {k : Nat} {x : Net} (h : RSl shNet w D A l) (hx : l[k]? = some x) :
    ∃ (b off : Nat) (A_trans : Option Addr) (c_trans : Nat), A = some ⟨b, off, none⟩ ∧ D b ∧ w.cell? ⟨b, off + k * 2, none⟩ = some (.int .i64 x.places) ∧ w.cell? ⟨b, off + k * 2 + 1, none⟩ = some (.slice A_trans (x.trans).length c_trans) ∧ InI x.places ∧ (x.trans).length ≤ c_trans ∧ c_trans ≤ 9223372036854775807 ∧ RSl shTr w D A_trans x.trans := by
  obtain ⟨b, off, cs, e, hb, hr, hc⟩ := h.cells_at hx
  obtain ⟨A_trans, c_trans, rfl, g0, g1, g2, g3⟩ := shNet_rep hr
  exact ⟨b, off, A_trans, c_trans, e, hb, by simpa [shNet_size] using hc 0 _ rfl, by simpa [shNet_size] using hc 1 _ rfl, g0, g1, g2, g3⟩
theorem RA.Net_at {w wr : World} {A : Option Addr} {l : List Net} {k : Nat} {x : Net} (h : RA shNet w A l) (hb : Below w.heap.size w wr) (hx : l[k]? = some x) :
    ∃ (b off : Nat) (A_trans : Option Addr) (c_trans : Nat), A = some ⟨b, off, none⟩ ∧ b < wr.heap.size ∧ wr.cell? ⟨b, off + k * 2, none⟩ = some (.int .i64 x.places) ∧ wr.cell? ⟨b, off + k * 2 + 1, none⟩ = some (.slice A_trans (x.trans).length c_trans) ∧ InI x.places ∧ (x.trans).length ≤ c_trans ∧ c_trans ≤ 9223372036854775807 ∧ RA shTr wr A_trans x.trans := RSl.Net_at (h.to hb) hx

structure PSt where
  state : Int
  values : List UInt8
  deriving DecidableEq
def shPSt : Sh PSt := Sh.via (shPair shInt shStr) (fun x => (x.state, x.values))
theorem shPSt_size : shPSt.size = 2 := rfl
theorem shPSt_rep {w : World} {D : Nat → Prop} {cs : List Value} {x : PSt} (h : shPSt.rep w D cs x) : cs = [.int .i64 x.state, .string ⟨(x.values).toArray⟩] ∧ InI x.state ∧ (x.values).length ≤ 9223372036854775807 := by
  obtain ⟨p1, q1, rfl, h1, k1⟩ := h
  obtain ⟨rfl, f2⟩ := h1
  obtain ⟨rfl, f3⟩ := k1
  exact ⟨rfl, f2, f3⟩
theorem shPSt_mk {w : World} {D : Nat → Prop} {x : PSt} (f0 : InI x.state) (f1 : (x.values).length ≤ 9223372036854775807) : shPSt.rep w D [.int .i64 x.state, .string ⟨(x.values).toArray⟩] x := by
  exact ⟨[.int .i64 x.state], _, rfl, ⟨rfl, f0⟩, ⟨rfl, f1⟩⟩
theorem RSl.PSt_at {w : World} {D : Nat → Prop} {A : Option Addr} {l : List PSt} {k : Nat} {x : PSt} (h : RSl shPSt w D A l) (hx : l[k]? = some x) :
    ∃ (b off : Nat), A = some ⟨b, off, none⟩ ∧ D b ∧ w.cell? ⟨b, off + k * 2, none⟩ = some (.int .i64 x.state) ∧ w.cell? ⟨b, off + k * 2 + 1, none⟩ = some (.string ⟨(x.values).toArray⟩) ∧ InI x.state ∧ (x.values).length ≤ 9223372036854775807 := by
  obtain ⟨b, off, cs, e, hb, hr, hc⟩ := h.cells_at hx
  obtain ⟨rfl, g0, g1⟩ := shPSt_rep hr
  exact ⟨b, off, e, hb, by simpa [shPSt_size] using hc 0 _ rfl, by simpa [shPSt_size] using hc 1 _ rfl, g0, g1⟩
theorem RA.PSt_at {w wr : World} {A : Option Addr} {l : List PSt} {k : Nat} {x : PSt} (h : RA shPSt w A l) (hb : Below w.heap.size w wr) (hx : l[k]? = some x) :
    ∃ (b off : Nat), A = some ⟨b, off, none⟩ ∧ b < wr.heap.size ∧ wr.cell? ⟨b, off + k * 2, none⟩ = some (.int .i64 x.state) ∧ wr.cell? ⟨b, off + k * 2 + 1, none⟩ = some (.string ⟨(x.values).toArray⟩) ∧ InI x.state ∧ (x.values).length ≤ 9223372036854775807 := RSl.PSt_at (h.to hb) hx

structure Flip where
  from_ : Int
  wire : Int
  to : Int
  deriving DecidableEq
def shFlip : Sh Flip := Sh.via (shPair shInt (shPair shInt shInt)) (fun x => (x.from_, (x.wire, x.to)))
theorem shFlip_size : shFlip.size = 3 := rfl
theorem shFlip_rep {w : World} {D : Nat → Prop} {cs : List Value} {x : Flip} (h : shFlip.rep w D cs x) : cs = [.int .i64 x.from_, .int .i64 x.wire, .int .i64 x.to] ∧ InI x.from_ ∧ InI x.wire ∧ InI x.to := by
  obtain ⟨p1, q1, rfl, h1, k1⟩ := h
  obtain ⟨rfl, f2⟩ := h1
  obtain ⟨p3, q3, rfl, h3, k3⟩ := k1
  obtain ⟨rfl, f4⟩ := h3
  obtain ⟨rfl, f5⟩ := k3
  exact ⟨rfl, f2, f4, f5⟩
theorem shFlip_mk {w : World} {D : Nat → Prop} {x : Flip} (f0 : InI x.from_) (f1 : InI x.wire) (f2 : InI x.to) : shFlip.rep w D [.int .i64 x.from_, .int .i64 x.wire, .int .i64 x.to] x := by
  exact ⟨[.int .i64 x.from_], _, rfl, ⟨rfl, f0⟩, ⟨[.int .i64 x.wire], _, rfl, ⟨rfl, f1⟩, ⟨rfl, f2⟩⟩⟩
theorem RSl.Flip_at {w : World} {D : Nat → Prop} {A : Option Addr} {l : List Flip} {k : Nat} {x : Flip} (h : RSl shFlip w D A l) (hx : l[k]? = some x) :
    ∃ (b off : Nat), A = some ⟨b, off, none⟩ ∧ D b ∧ w.cell? ⟨b, off + k * 3, none⟩ = some (.int .i64 x.from_) ∧ w.cell? ⟨b, off + k * 3 + 1, none⟩ = some (.int .i64 x.wire) ∧ w.cell? ⟨b, off + k * 3 + 2, none⟩ = some (.int .i64 x.to) ∧ InI x.from_ ∧ InI x.wire ∧ InI x.to := by
  obtain ⟨b, off, cs, e, hb, hr, hc⟩ := h.cells_at hx
  obtain ⟨rfl, g0, g1, g2⟩ := shFlip_rep hr
  exact ⟨b, off, e, hb, by simpa [shFlip_size] using hc 0 _ rfl, by simpa [shFlip_size] using hc 1 _ rfl, by simpa [shFlip_size] using hc 2 _ rfl, g0, g1, g2⟩
theorem RA.Flip_at {w wr : World} {A : Option Addr} {l : List Flip} {k : Nat} {x : Flip} (h : RA shFlip w A l) (hb : Below w.heap.size w wr) (hx : l[k]? = some x) :
    ∃ (b off : Nat), A = some ⟨b, off, none⟩ ∧ b < wr.heap.size ∧ wr.cell? ⟨b, off + k * 3, none⟩ = some (.int .i64 x.from_) ∧ wr.cell? ⟨b, off + k * 3 + 1, none⟩ = some (.int .i64 x.wire) ∧ wr.cell? ⟨b, off + k * 3 + 2, none⟩ = some (.int .i64 x.to) ∧ InI x.from_ ∧ InI x.wire ∧ InI x.to := RSl.Flip_at (h.to hb) hx

structure ProdG where
  states : List PSt
  flips : List Flip
  extra : List Flip
  deriving DecidableEq
def shProdG : Sh ProdG := Sh.via (shPair (shSl shPSt) (shPair (shSl shFlip) (shSl shFlip))) (fun x => (x.states, (x.flips, x.extra)))
theorem shProdG_size : shProdG.size = 3 := rfl
theorem shProdG_rep {w : World} {D : Nat → Prop} {cs : List Value} {x : ProdG} (h : shProdG.rep w D cs x) : ∃ (A_states : Option Addr) (c_states : Nat) (A_flips : Option Addr) (c_flips : Nat) (A_extra : Option Addr) (c_extra : Nat), cs = [.slice A_states (x.states).length c_states, .slice A_flips (x.flips).length c_flips, .slice A_extra (x.extra).length c_extra] ∧ (x.states).length ≤ c_states ∧ c_states ≤ 9223372036854775807 ∧ RSl shPSt w D A_states x.states ∧ (x.flips).length ≤ c_flips ∧ c_flips ≤ 9223372036854775807 ∧ RSl shFlip w D A_flips x.flips ∧ (x.extra).length ≤ c_extra ∧ c_extra ≤ 9223372036854775807 ∧ RSl shFlip w D A_extra x.extra := by
  obtain ⟨p1, q1, rfl, h1, k1⟩ := h
  obtain ⟨A2, c2, rfl, f2, g2, r2⟩ := h1
  obtain ⟨p3, q3, rfl, h3, k3⟩ := k1
  obtain ⟨A4, c4, rfl, f4, g4, r4⟩ := h3
  obtain ⟨A5, c5, rfl, f5, g5, r5⟩ := k3
  exact ⟨A2, c2, A4, c4, A5, c5, rfl, f2, g2, r2, f4, g4, r4, f5, g5, r5⟩
theorem shProdG_mk {w : World} {D : Nat → Prop} {x : ProdG} {A_states : Option Addr} {c_states : Nat} {A_flips : Option Addr} {c_flips : Nat} {A_extra : Option Addr} {c_extra : Nat} (f0 : (x.states).length ≤ c_states) (f1 : c_states ≤ 9223372036854775807) (f2 : RSl shPSt w D A_states x.states) (f3 : (x.flips).length ≤ c_flips) (f4 : c_flips ≤ 9223372036854775807) (f5 : RSl shFlip w D A_flips x.flips) (f6 : (x.extra).length ≤ c_extra) (f7 : c_extra ≤ 9223372036854775807) (f8 : RSl shFlip w D A_extra x.extra) : shProdG.rep w D [.slice A_states (x.states).length c_states, .slice A_flips (x.flips).length c_flips, .slice A_extra (x.extra).length c_extra] x := by
  exact ⟨[.slice A_states (x.states).length c_states], _, rfl, ⟨_, _, rfl, f0, f1, f2⟩, ⟨[.slice A_flips (x.flips).length c_flips], _, rfl, ⟨_, _, rfl, f3, f4, f5⟩, ⟨_, _, rfl, f6, f7, f8⟩⟩⟩
theorem RSl.ProdG_at {w : World} {D : Nat → Prop} {A : Option Addr} {l : List ProdG} {k : Nat} {x : ProdG} (h : RSl shProdG w D A l) (hx : l[k]? = some x) :
    ∃ (b off : Nat) (A_states : Option Addr) (c_states : Nat) (A_flips : Option Addr) (c_flips : Nat) (A_extra : Option Addr) (c_extra : Nat), A = some ⟨b, off, none⟩ ∧ D b ∧ w.cell? ⟨b, off + k * 3, none⟩ = some (.slice A_states (x.states).length c_states) ∧ w.cell? ⟨b, off + k * 3 + 1, none⟩ = some (.slice A_flips (x.flips).length c_flips) ∧ w.cell? ⟨b, off + k * 3 + 2, none⟩ = some (.slice A_extra (x.extra).length c_extra) ∧ (x.states).length ≤ c_states ∧ c_states ≤ 9223372036854775807 ∧ RSl shPSt w D A_states x.states ∧ (x.flips).length ≤ c_flips ∧ c_flips ≤ 9223372036854775807 ∧ RSl shFlip w D A_flips x.flips ∧ (x.extra).length ≤ c_extra ∧ c_extra ≤ 9223372036854775807 ∧ RSl shFlip w D A_extra x.extra := by
  obtain ⟨b, off, cs, e, hb, hr, hc⟩ := h.cells_at hx
  obtain ⟨A_states, c_states, A_flips, c_flips, A_extra, c_extra, rfl, g0, g1, g2, g3, g4, g5, g6, g7, g8⟩ := shProdG_rep hr
  exact ⟨b, off, A_states, c_states, A_flips, c_flips, A_extra, c_extra, e, hb, by simpa [shProdG_size] using hc 0 _ rfl, by simpa [shProdG_size] using hc 1 _ rfl, by simpa [shProdG_size] using hc 2 _ rfl, g0, g1, g2, g3, g4, g5, g6, g7, g8⟩
theorem RA.ProdG_at {w wr : World} {A : Option Addr} {l : List ProdG} {k : Nat} {x : ProdG} (h : RA shProdG w A l) (hb : Below w.heap.size w wr) (hx : l[k]? = some x) :
    ∃ (b off : Nat) (A_states : Option Addr) (c_states : Nat) (A_flips : Option Addr) (c_flips : Nat) (A_extra : Option Addr) (c_extra : Nat), A = some ⟨b, off, none⟩ ∧ b < wr.heap.size ∧ wr.cell? ⟨b, off + k * 3, none⟩ = some (.slice A_states (x.states).length c_states) ∧ wr.cell? ⟨b, off + k * 3 + 1, none⟩ = some (.slice A_flips (x.flips).length c_flips) ∧ wr.cell? ⟨b, off + k * 3 + 2, none⟩ = some (.slice A_extra (x.extra).length c_extra) ∧ (x.states).length ≤ c_states ∧ c_states ≤ 9223372036854775807 ∧ RA shPSt wr A_states x.states ∧ (x.flips).length ≤ c_flips ∧ c_flips ≤ 9223372036854775807 ∧ RA shFlip wr A_flips x.flips ∧ (x.extra).length ≤ c_extra ∧ c_extra ≤ 9223372036854775807 ∧ RA shFlip wr A_extra x.extra := RSl.ProdG_at (h.to hb) hx

end Go.Proofs.Ytogfphbpjlgpdaa
