/-
  THE DATA of the Go structs as plain Lean types, their shapes in memory, and how element k of a row of them is read. Printed by a program of this repo (shapes.py).
-/
import Derived.Test.YtmfplddmccggkaaGreatBase
namespace Go.Proofs.YtmfplddmccggkaaGreat
open Go.RowKit
set_option linter.unusedVariables false

structure TF where
  at_ : Int
  t : Int
  deriving DecidableEq
def shTF : Sh TF := Sh.via (shPair shInt shInt) (fun x => (x.at_, x.t))
theorem shTF_size : shTF.size = 2 := rfl
theorem shTF_rep {w : World} {D : Nat → Prop} {cs : List Value} {x : TF} (h : shTF.rep w D cs x) : cs = [.int .i64 x.at_, .int .i64 x.t] ∧ InI x.at_ ∧ InI x.t := by
  obtain ⟨p1, q1, rfl, h1, k1⟩ := h
  obtain ⟨rfl, f2⟩ := h1
  obtain ⟨rfl, f3⟩ := k1
  exact ⟨rfl, f2, f3⟩
theorem shTF_mk {w : World} {D : Nat → Prop} {x : TF} (f0 : InI x.at_) (f1 : InI x.t) : shTF.rep w D [.int .i64 x.at_, .int .i64 x.t] x := by
  exact ⟨[.int .i64 x.at_], _, rfl, ⟨rfl, f0⟩, ⟨rfl, f1⟩⟩
theorem RSl.TF_at {w : World} {D : Nat → Prop} {A : Option Addr} {l : List TF} {k : Nat} {x : TF} (h : RSl shTF w D A l) (hx : l[k]? = some x) :
    ∃ (b off : Nat), A = some ⟨b, off, none⟩ ∧ D b ∧ w.cell? ⟨b, off + k * 2, none⟩ = some (.int .i64 x.at_) ∧ w.cell? ⟨b, off + k * 2 + 1, none⟩ = some (.int .i64 x.t) ∧ InI x.at_ ∧ InI x.t := by
  obtain ⟨b, off, cs, e, hb, hr, hc⟩ := h.cells_at hx
  obtain ⟨rfl, g0, g1⟩ := shTF_rep hr
  exact ⟨b, off, e, hb, by simpa [shTF_size] using hc 0 _ rfl, by simpa [shTF_size] using hc 1 _ rfl, g0, g1⟩
theorem RA.TF_at {w wr : World} {A : Option Addr} {l : List TF} {k : Nat} {x : TF} (h : RA shTF w A l) (hb : Below w.heap.size w wr) (hx : l[k]? = some x) :
    ∃ (b off : Nat), A = some ⟨b, off, none⟩ ∧ b < wr.heap.size ∧ wr.cell? ⟨b, off + k * 2, none⟩ = some (.int .i64 x.at_) ∧ wr.cell? ⟨b, off + k * 2 + 1, none⟩ = some (.int .i64 x.t) ∧ InI x.at_ ∧ InI x.t := RSl.TF_at (h.to hb) hx

structure Tr where
  pre : List (Int)
  post : List (Int)
  deriving DecidableEq
def shTr : Sh Tr := Sh.via (shPair (shSl shInt) (shSl shInt)) (fun x => (x.pre, x.post))
theorem shTr_size : shTr.size = 2 := rfl
theorem shTr_rep {w : World} {D : Nat → Prop} {cs : List Value} {x : Tr} (h : shTr.rep w D cs x) : ∃ (A_pre : Option Addr) (c_pre : Nat) (A_post : Option Addr) (c_post : Nat), cs = [.slice A_pre (x.pre).length c_pre, .slice A_post (x.post).length c_post] ∧ (x.pre).length ≤ c_pre ∧ c_pre ≤ 9223372036854775807 ∧ RSl shInt w D A_pre x.pre ∧ (x.post).length ≤ c_post ∧ c_post ≤ 9223372036854775807 ∧ RSl shInt w D A_post x.post := by
  obtain ⟨p1, q1, rfl, h1, k1⟩ := h
  obtain ⟨A2, c2, rfl, f2, g2, r2⟩ := h1
  obtain ⟨A3, c3, rfl, f3, g3, r3⟩ := k1
  exact ⟨A2, c2, A3, c3, rfl, f2, g2, r2, f3, g3, r3⟩
theorem shTr_mk {w : World} {D : Nat → Prop} {x : Tr} {A_pre : Option Addr} {c_pre : Nat} {A_post : Option Addr} {c_post : Nat} (f0 : (x.pre).length ≤ c_pre) (f1 : c_pre ≤ 9223372036854775807) (f2 : RSl shInt w D A_pre x.pre) (f3 : (x.post).length ≤ c_post) (f4 : c_post ≤ 9223372036854775807) (f5 : RSl shInt w D A_post x.post) : shTr.rep w D [.slice A_pre (x.pre).length c_pre, .slice A_post (x.post).length c_post] x := by
  exact ⟨[.slice A_pre (x.pre).length c_pre], _, rfl, ⟨_, _, rfl, f0, f1, f2⟩, ⟨_, _, rfl, f3, f4, f5⟩⟩
theorem RSl.Tr_at {w : World} {D : Nat → Prop} {A : Option Addr} {l : List Tr} {k : Nat} {x : Tr} (h : RSl shTr w D A l) (hx : l[k]? = some x) :
    ∃ (b off : Nat) (A_pre : Option Addr) (c_pre : Nat) (A_post : Option Addr) (c_post : Nat), A = some ⟨b, off, none⟩ ∧ D b ∧ w.cell? ⟨b, off + k * 2, none⟩ = some (.slice A_pre (x.pre).length c_pre) ∧ w.cell? ⟨b, off + k * 2 + 1, none⟩ = some (.slice A_post (x.post).length c_post) ∧ (x.pre).length ≤ c_pre ∧ c_pre ≤ 9223372036854775807 ∧ RSl shInt w D A_pre x.pre ∧ (x.post).length ≤ c_post ∧ c_post ≤ 9223372036854775807 ∧ RSl shInt w D A_post x.post := by
  obtain ⟨b, off, cs, e, hb, hr, hc⟩ := h.cells_at hx
  obtain ⟨A_pre, c_pre, A_post, c_post, rfl, g0, g1, g2, g3, g4, g5⟩ := shTr_rep hr
  exact ⟨b, off, A_pre, c_pre, A_post, c_post, e, hb, by simpa [shTr_size] using hc 0 _ rfl, by simpa [shTr_size] using hc 1 _ rfl, g0, g1, g2, g3, g4, g5⟩
theorem RA.Tr_at {w wr : World} {A : Option Addr} {l : List Tr} {k : Nat} {x : Tr} (h : RA shTr w A l) (hb : Below w.heap.size w wr) (hx : l[k]? = some x) :
    ∃ (b off : Nat) (A_pre : Option Addr) (c_pre : Nat) (A_post : Option Addr) (c_post : Nat), A = some ⟨b, off, none⟩ ∧ b < wr.heap.size ∧ wr.cell? ⟨b, off + k * 2, none⟩ = some (.slice A_pre (x.pre).length c_pre) ∧ wr.cell? ⟨b, off + k * 2 + 1, none⟩ = some (.slice A_post (x.post).length c_post) ∧ (x.pre).length ≤ c_pre ∧ c_pre ≤ 9223372036854775807 ∧ RA shInt wr A_pre x.pre ∧ (x.post).length ≤ c_post ∧ c_post ≤ 9223372036854775807 ∧ RA shInt wr A_post x.post := RSl.Tr_at (h.to hb) hx

structure Net where
  places : Int
  trans : List Tr
  deriving DecidableEq
def shNet : Sh Net := Sh.via (shPair shInt (shSl shTr)) (fun x => (x.places, x.trans))
theorem shNet_size : shNet.size = 2 := rfl
theorem shNet_rep {w : World} {D : Nat → Prop} {cs : List Value} {x : Net} (h : shNet.rep w D cs x) : ∃ (A_trans : Option Addr) (c_trans : Nat), cs = [.int .i64 x.places, .slice A_trans (x.trans).length c_trans] ∧ InI x.places ∧ (x.trans).length ≤ c_trans ∧ c_trans ≤ 9223372036854775807 ∧ RSl shTr w D A_trans x.trans := by
  obtain ⟨p1, q1, rfl, h1, k1⟩ := h
  obtain ⟨rfl, f2⟩ := h1
  obtain ⟨A3, c3, rfl, f3, g3, r3⟩ := k1
  exact ⟨A3, c3, rfl, f2, f3, g3, r3⟩
theorem shNet_mk {w : World} {D : Nat → Prop} {x : Net} {A_trans : Option Addr} {c_trans : Nat} (f0 : InI x.places) (f1 : (x.trans).length ≤ c_trans) (f2 : c_trans ≤ 9223372036854775807) (f3 : RSl shTr w D A_trans x.trans) : shNet.rep w D [.int .i64 x.places, .slice A_trans (x.trans).length c_trans] x := by
  exact ⟨[.int .i64 x.places], _, rfl, ⟨rfl, f0⟩, ⟨_, _, rfl, f1, f2, f3⟩⟩
theorem RSl.Net_at {w : World} {D : Nat → Prop} {A : Option Addr} {l : List Net} {k : Nat} {x : Net} (h : RSl shNet w D A l) (hx : l[k]? = some x) :
    ∃ (b off : Nat) (A_trans : Option Addr) (c_trans : Nat), A = some ⟨b, off, none⟩ ∧ D b ∧ w.cell? ⟨b, off + k * 2, none⟩ = some (.int .i64 x.places) ∧ w.cell? ⟨b, off + k * 2 + 1, none⟩ = some (.slice A_trans (x.trans).length c_trans) ∧ InI x.places ∧ (x.trans).length ≤ c_trans ∧ c_trans ≤ 9223372036854775807 ∧ RSl shTr w D A_trans x.trans := by
  obtain ⟨b, off, cs, e, hb, hr, hc⟩ := h.cells_at hx
  obtain ⟨A_trans, c_trans, rfl, g0, g1, g2, g3⟩ := shNet_rep hr
  exact ⟨b, off, A_trans, c_trans, e, hb, by simpa [shNet_size] using hc 0 _ rfl, by simpa [shNet_size] using hc 1 _ rfl, g0, g1, g2, g3⟩
theorem RA.Net_at {w wr : World} {A : Option Addr} {l : List Net} {k : Nat} {x : Net} (h : RA shNet w A l) (hb : Below w.heap.size w wr) (hx : l[k]? = some x) :
    ∃ (b off : Nat) (A_trans : Option Addr) (c_trans : Nat), A = some ⟨b, off, none⟩ ∧ b < wr.heap.size ∧ wr.cell? ⟨b, off + k * 2, none⟩ = some (.int .i64 x.places) ∧ wr.cell? ⟨b, off + k * 2 + 1, none⟩ = some (.slice A_trans (x.trans).length c_trans) ∧ InI x.places ∧ (x.trans).length ≤ c_trans ∧ c_trans ≤ 9223372036854775807 ∧ RA shTr wr A_trans x.trans := RSl.Net_at (h.to hb) hx

structure PSt where
  state : Int
  values : List UInt8
  deriving DecidableEq
def shPSt : Sh PSt := Sh.via (shPair shInt shStr) (fun x => (x.state, x.values))
theorem shPSt_size : shPSt.size = 2 := rfl
theorem shPSt_rep {w : World} {D : Nat → Prop} {cs : List Value} {x : PSt} (h : shPSt.rep w D cs x) : cs = [.int .i64 x.state, .string ⟨(x.values).toArray⟩] ∧ InI x.state ∧ (x.values).length ≤ 9223372036854775807 := by
  obtain ⟨p1, q1, rfl, h1, k1⟩ := h
  obtain ⟨rfl, f2⟩ := h1
  obtain ⟨rfl, f3⟩ := k1
  exact ⟨rfl, f2, f3⟩
theorem shPSt_mk {w : World} {D : Nat → Prop} {x : PSt} (f0 : InI x.state) (f1 : (x.values).length ≤ 9223372036854775807) : shPSt.rep w D [.int .i64 x.state, .string ⟨(x.values).toArray⟩] x := by
  exact ⟨[.int .i64 x.state], _, rfl, ⟨rfl, f0⟩, ⟨rfl, f1⟩⟩
theorem RSl.PSt_at {w : World} {D : Nat → Prop} {A : Option Addr} {l : List PSt} {k : Nat} {x : PSt} (h : RSl shPSt w D A l) (hx : l[k]? = some x) :
    ∃ (b off : Nat), A = some ⟨b, off, none⟩ ∧ D b ∧ w.cell? ⟨b, off + k * 2, none⟩ = some (.int .i64 x.state) ∧ w.cell? ⟨b, off + k * 2 + 1, none⟩ = some (.string ⟨(x.values).toArray⟩) ∧ InI x.state ∧ (x.values).length ≤ 9223372036854775807 := by
  obtain ⟨b, off, cs, e, hb, hr, hc⟩ := h.cells_at hx
  obtain ⟨rfl, g0, g1⟩ := shPSt_rep hr
  exact ⟨b, off, e, hb, by simpa [shPSt_size] using hc 0 _ rfl, by simpa [shPSt_size] using hc 1 _ rfl, g0, g1⟩
theorem RA.PSt_at {w wr : World} {A : Option Addr} {l : List PSt} {k : Nat} {x : PSt} (h : RA shPSt w A l) (hb : Below w.heap.size w wr) (hx : l[k]? = some x) :
    ∃ (b off : Nat), A = some ⟨b, off, none⟩ ∧ b < wr.heap.size ∧ wr.cell? ⟨b, off + k * 2, none⟩ = some (.int .i64 x.state) ∧ wr.cell? ⟨b, off + k * 2 + 1, none⟩ = some (.string ⟨(x.values).toArray⟩) ∧ InI x.state ∧ (x.values).length ≤ 9223372036854775807 := RSl.PSt_at (h.to hb) hx

structure Flip where
  from_ : Int
  wire : Int
  to : Int
  deriving DecidableEq
def shFlip : Sh Flip := Sh.via (shPair shInt (shPair shInt shInt)) (fun x => (x.from_, (x.wire, x.to)))
theorem shFlip_size : shFlip.size = 3 := rfl
theorem shFlip_rep {w : World} {D : Nat → Prop} {cs : List Value} {x : Flip} (h : shFlip.rep w D cs x) : cs = [.int .i64 x.from_, .int .i64 x.wire, .int .i64 x.to] ∧ InI x.from_ ∧ InI x.wire ∧ InI x.to := by
  obtain ⟨p1, q1, rfl, h1, k1⟩ := h
  obtain ⟨rfl, f2⟩ := h1
  obtain ⟨p3, q3, rfl, h3, k3⟩ := k1
  obtain ⟨rfl, f4⟩ := h3
  obtain ⟨rfl, f5⟩ := k3
  exact ⟨rfl, f2, f4, f5⟩
theorem shFlip_mk {w : World} {D : Nat → Prop} {x : Flip} (f0 : InI x.from_) (f1 : InI x.wire) (f2 : InI x.to) : shFlip.rep w D [.int .i64 x.from_, .int .i64 x.wire, .int .i64 x.to] x := by
  exact ⟨[.int .i64 x.from_], _, rfl, ⟨rfl, f0⟩, ⟨[.int .i64 x.wire], _, rfl, ⟨rfl, f1⟩, ⟨rfl, f2⟩⟩⟩
theorem RSl.Flip_at {w : World} {D : Nat → Prop} {A : Option Addr} {l : List Flip} {k : Nat} {x : Flip} (h : RSl shFlip w D A l) (hx : l[k]? = some x) :
    ∃ (b off : Nat), A = some ⟨b, off, none⟩ ∧ D b ∧ w.cell? ⟨b, off + k * 3, none⟩ = some (.int .i64 x.from_) ∧ w.cell? ⟨b, off + k * 3 + 1, none⟩ = some (.int .i64 x.wire) ∧ w.cell? ⟨b, off + k * 3 + 2, none⟩ = some (.int .i64 x.to) ∧ InI x.from_ ∧ InI x.wire ∧ InI x.to := by
  obtain ⟨b, off, cs, e, hb, hr, hc⟩ := h.cells_at hx
  obtain ⟨rfl, g0, g1, g2⟩ := shFlip_rep hr
  exact ⟨b, off, e, hb, by simpa [shFlip_size] using hc 0 _ rfl, by simpa [shFlip_size] using hc 1 _ rfl, by simpa [shFlip_size] using hc 2 _ rfl, g0, g1, g2⟩
theorem RA.Flip_at {w wr : World} {A : Option Addr} {l : List Flip} {k : Nat} {x : Flip} (h : RA shFlip w A l) (hb : Below w.heap.size w wr) (hx : l[k]? = some x) :
    ∃ (b off : Nat), A = some ⟨b, off, none⟩ ∧ b < wr.heap.size ∧ wr.cell? ⟨b, off + k * 3, none⟩ = some (.int .i64 x.from_) ∧ wr.cell? ⟨b, off + k * 3 + 1, none⟩ = some (.int .i64 x.wire) ∧ wr.cell? ⟨b, off + k * 3 + 2, none⟩ = some (.int .i64 x.to) ∧ InI x.from_ ∧ InI x.wire ∧ InI x.to := RSl.Flip_at (h.to hb) hx

structure ProdG where
  states : List PSt
  flips : List Flip
  extra : List Flip
  deriving DecidableEq
def shProdG : Sh ProdG := Sh.via (shPair (shSl shPSt) (shPair (shSl shFlip) (shSl shFlip))) (fun x => (x.states, (x.flips, x.extra)))
theorem shProdG_size : shProdG.size = 3 := rfl
theorem shProdG_rep {w : World} {D : Nat → Prop} {cs : List Value} {x : ProdG} (h : shProdG.rep w D cs x) : ∃ (A_states : Option Addr) (c_states : Nat) (A_flips : Option Addr) (c_flips : Nat) (A_extra : Option Addr) (c_extra : Nat), cs = [.slice A_states (x.states).length c_states, .slice A_flips (x.flips).length c_flips, .slice A_extra (x.extra).length c_extra] ∧ (x.states).length ≤ c_states ∧ c_states ≤ 9223372036854775807 ∧ RSl shPSt w D A_states x.states ∧ (x.flips).length ≤ c_flips ∧ c_flips ≤ 9223372036854775807 ∧ RSl shFlip w D A_flips x.flips ∧ (x.extra).length ≤ c_extra ∧ c_extra ≤ 9223372036854775807 ∧ RSl shFlip w D A_extra x.extra := by
  obtain ⟨p1, q1, rfl, h1, k1⟩ := h
  obtain ⟨A2, c2, rfl, f2, g2, r2⟩ := h1
  obtain ⟨p3, q3, rfl, h3, k3⟩ := k1
  obtain ⟨A4, c4, rfl, f4, g4, r4⟩ := h3
  obtain ⟨A5, c5, rfl, f5, g5, r5⟩ := k3
  exact ⟨A2, c2, A4, c4, A5, c5, rfl, f2, g2, r2, f4, g4, r4, f5, g5, r5⟩
theorem shProdG_mk {w : World} {D : Nat → Prop} {x : ProdG} {A_states : Option Addr} {c_states : Nat} {A_flips : Option Addr} {c_flips : Nat} {A_extra : Option Addr} {c_extra : Nat} (f0 : (x.states).length ≤ c_states) (f1 : c_states ≤ 9223372036854775807) (f2 : RSl shPSt w D A_states x.states) (f3 : (x.flips).length ≤ c_flips) (f4 : c_flips ≤ 9223372036854775807) (f5 : RSl shFlip w D A_flips x.flips) (f6 : (x.extra).length ≤ c_extra) (f7 : c_extra ≤ 9223372036854775807) (f8 : RSl shFlip w D A_extra x.extra) : shProdG.rep w D [.slice A_states (x.states).length c_states, .slice A_flips (x.flips).length c_flips, .slice A_extra (x.extra).length c_extra] x := by
  exact ⟨[.slice A_states (x.states).length c_states], _, rfl, ⟨_, _, rfl, f0, f1, f2⟩, ⟨[.slice A_flips (x.flips).length c_flips], _, rfl, ⟨_, _, rfl, f3, f4, f5⟩, ⟨_, _, rfl, f6, f7, f8⟩⟩⟩
theorem RSl.ProdG_at {w : World} {D : Nat → Prop} {A : Option Addr} {l : List ProdG} {k : Nat} {x : ProdG} (h : RSl shProdG w D A l) (hx : l[k]? = some x) :
    ∃ (b off : Nat) (A_states : Option Addr) (c_states : Nat) (A_flips : Option Addr) (c_flips : Nat) (A_extra : Option Addr) (c_extra : Nat), A = some ⟨b, off, none⟩ ∧ D b ∧ w.cell? ⟨b, off + k * 3, none⟩ = some (.slice A_states (x.states).length c_states) ∧ w.cell? ⟨b, off + k * 3 + 1, none⟩ = some (.slice A_flips (x.flips).length c_flips) ∧ w.cell? ⟨b, off + k * 3 + 2, none⟩ = some (.slice A_extra (x.extra).length c_extra) ∧ (x.states).length ≤ c_states ∧ c_states ≤ 9223372036854775807 ∧ RSl shPSt w D A_states x.states ∧ (x.flips).length ≤ c_flips ∧ c_flips ≤ 9223372036854775807 ∧ RSl shFlip w D A_flips x.flips ∧ (x.extra).length ≤ c_extra ∧ c_extra ≤ 9223372036854775807 ∧ RSl shFlip w D A_extra x.extra := by
  obtain ⟨b, off, cs, e, hb, hr, hc⟩ := h.cells_at hx
  obtain ⟨A_states, c_states, A_flips, c_flips, A_extra, c_extra, rfl, g0, g1, g2, g3, g4, g5, g6, g7, g8⟩ := shProdG_rep hr
  exact ⟨b, off, A_states, c_states, A_flips, c_flips, A_extra, c_extra, e, hb, by simpa [shProdG_size] using hc 0 _ rfl, by simpa [shProdG_size] using hc 1 _ rfl, by simpa [shProdG_size] using hc 2 _ rfl, g0, g1, g2, g3, g4, g5, g6, g7, g8⟩
theorem RA.ProdG_at {w wr : World} {A : Option Addr} {l : List ProdG} {k : Nat} {x : ProdG} (h : RA shProdG w A l) (hb : Below w.heap.size w wr) (hx : l[k]? = some x) :
    ∃ (b off : Nat) (A_states : Option Addr) (c_states : Nat) (A_flips : Option Addr) (c_flips : Nat) (A_extra : Option Addr) (c_extra : Nat), A = some ⟨b, off, none⟩ ∧ b < wr.heap.size ∧ wr.cell? ⟨b, off + k * 3, none⟩ = some (.slice A_states (x.states).length c_states) ∧ wr.cell? ⟨b, off + k * 3 + 1, none⟩ = some (.slice A_flips (x.flips).length c_flips) ∧ wr.cell? ⟨b, off + k * 3 + 2, none⟩ = some (.slice A_extra (x.extra).length c_extra) ∧ (x.states).length ≤ c_states ∧ c_states ≤ 9223372036854775807 ∧ RA shPSt wr A_states x.states ∧ (x.flips).length ≤ c_flips ∧ c_flips ≤ 9223372036854775807 ∧ RA shFlip wr A_flips x.flips ∧ (x.extra).length ≤ c_extra ∧ c_extra ≤ 9223372036854775807 ∧ RA shFlip wr A_extra x.extra := RSl.ProdG_at (h.to hb) hx

structure Sig where
  name : List UInt8
  kind : Int
  deriving DecidableEq
def shSig : Sh Sig := Sh.via (shPair shStr shInt) (fun x => (x.name, x.kind))
theorem shSig_size : shSig.size = 2 := rfl
theorem shSig_rep {w : World} {D : Nat → Prop} {cs : List Value} {x : Sig} (h : shSig.rep w D cs x) : cs = [.string ⟨(x.name).toArray⟩, .int .i64 x.kind] ∧ (x.name).length ≤ 9223372036854775807 ∧ InI x.kind := by
  obtain ⟨p1, q1, rfl, h1, k1⟩ := h
  obtain ⟨rfl, f2⟩ := h1
  obtain ⟨rfl, f3⟩ := k1
  exact ⟨rfl, f2, f3⟩
theorem shSig_mk {w : World} {D : Nat → Prop} {x : Sig} (f0 : (x.name).length ≤ 9223372036854775807) (f1 : InI x.kind) : shSig.rep w D [.string ⟨(x.name).toArray⟩, .int .i64 x.kind] x := by
  exact ⟨[.string ⟨(x.name).toArray⟩], _, rfl, ⟨rfl, f0⟩, ⟨rfl, f1⟩⟩
theorem RSl.Sig_at {w : World} {D : Nat → Prop} {A : Option Addr} {l : List Sig} {k : Nat} {x : Sig} (h : RSl shSig w D A l) (hx : l[k]? = some x) :
    ∃ (b off : Nat), A = some ⟨b, off, none⟩ ∧ D b ∧ w.cell? ⟨b, off + k * 2, none⟩ = some (.string ⟨(x.name).toArray⟩) ∧ w.cell? ⟨b, off + k * 2 + 1, none⟩ = some (.int .i64 x.kind) ∧ (x.name).length ≤ 9223372036854775807 ∧ InI x.kind := by
  obtain ⟨b, off, cs, e, hb, hr, hc⟩ := h.cells_at hx
  obtain ⟨rfl, g0, g1⟩ := shSig_rep hr
  exact ⟨b, off, e, hb, by simpa [shSig_size] using hc 0 _ rfl, by simpa [shSig_size] using hc 1 _ rfl, g0, g1⟩
theorem RA.Sig_at {w wr : World} {A : Option Addr} {l : List Sig} {k : Nat} {x : Sig} (h : RA shSig w A l) (hb : Below w.heap.size w wr) (hx : l[k]? = some x) :
    ∃ (b off : Nat), A = some ⟨b, off, none⟩ ∧ b < wr.heap.size ∧ wr.cell? ⟨b, off + k * 2, none⟩ = some (.string ⟨(x.name).toArray⟩) ∧ wr.cell? ⟨b, off + k * 2 + 1, none⟩ = some (.int .i64 x.kind) ∧ (x.name).length ≤ 9223372036854775807 ∧ InI x.kind := RSl.Sig_at (h.to hb) hx

structure Lab where
  sig : Int
  up : Bool
  deriving DecidableEq
def shLab : Sh Lab := Sh.via (shPair shInt shBool) (fun x => (x.sig, x.up))
theorem shLab_size : shLab.size = 2 := rfl
theorem shLab_rep {w : World} {D : Nat → Prop} {cs : List Value} {x : Lab} (h : shLab.rep w D cs x) : cs = [.int .i64 x.sig, .bool x.up] ∧ InI x.sig := by
  obtain ⟨p1, q1, rfl, h1, k1⟩ := h
  obtain ⟨rfl, f2⟩ := h1
  obtain rfl := k1
  exact ⟨rfl, f2⟩
theorem shLab_mk {w : World} {D : Nat → Prop} {x : Lab} (f0 : InI x.sig) : shLab.rep w D [.int .i64 x.sig, .bool x.up] x := by
  exact ⟨[.int .i64 x.sig], _, rfl, ⟨rfl, f0⟩, rfl⟩
theorem RSl.Lab_at {w : World} {D : Nat → Prop} {A : Option Addr} {l : List Lab} {k : Nat} {x : Lab} (h : RSl shLab w D A l) (hx : l[k]? = some x) :
    ∃ (b off : Nat), A = some ⟨b, off, none⟩ ∧ D b ∧ w.cell? ⟨b, off + k * 2, none⟩ = some (.int .i64 x.sig) ∧ w.cell? ⟨b, off + k * 2 + 1, none⟩ = some (.bool x.up) ∧ InI x.sig := by
  obtain ⟨b, off, cs, e, hb, hr, hc⟩ := h.cells_at hx
  obtain ⟨rfl, g0⟩ := shLab_rep hr
  exact ⟨b, off, e, hb, by simpa [shLab_size] using hc 0 _ rfl, by simpa [shLab_size] using hc 1 _ rfl, g0⟩
theorem RA.Lab_at {w wr : World} {A : Option Addr} {l : List Lab} {k : Nat} {x : Lab} (h : RA shLab w A l) (hb : Below w.heap.size w wr) (hx : l[k]? = some x) :
    ∃ (b off : Nat), A = some ⟨b, off, none⟩ ∧ b < wr.heap.size ∧ wr.cell? ⟨b, off + k * 2, none⟩ = some (.int .i64 x.sig) ∧ wr.cell? ⟨b, off + k * 2 + 1, none⟩ = some (.bool x.up) ∧ InI x.sig := RSl.Lab_at (h.to hb) hx

structure STG where
  net : Net
  signals : List Sig
  labels : List Lab
  start : List UInt8
  deriving DecidableEq
def shSTG : Sh STG := Sh.via (shPair shNet (shPair (shSl shSig) (shPair (shSl shLab) shStr))) (fun x => (x.net, (x.signals, (x.labels, x.start))))
theorem shSTG_size : shSTG.size = 5 := rfl
theorem shSTG_rep {w : World} {D : Nat → Prop} {cs : List Value} {x : STG} (h : shSTG.rep w D cs x) : ∃ (A_net_trans : Option Addr) (c_net_trans : Nat) (A_signals : Option Addr) (c_signals : Nat) (A_labels : Option Addr) (c_labels : Nat), cs = [.int .i64 x.net.places, .slice A_net_trans (x.net.trans).length c_net_trans, .slice A_signals (x.signals).length c_signals, .slice A_labels (x.labels).length c_labels, .string ⟨(x.start).toArray⟩] ∧ InI x.net.places ∧ (x.net.trans).length ≤ c_net_trans ∧ c_net_trans ≤ 9223372036854775807 ∧ RSl shTr w D A_net_trans x.net.trans ∧ (x.signals).length ≤ c_signals ∧ c_signals ≤ 9223372036854775807 ∧ RSl shSig w D A_signals x.signals ∧ (x.labels).length ≤ c_labels ∧ c_labels ≤ 9223372036854775807 ∧ RSl shLab w D A_labels x.labels ∧ (x.start).length ≤ 9223372036854775807 := by
  obtain ⟨p1, q1, rfl, h1, k1⟩ := h
  obtain ⟨p3, q3, rfl, h3, k3⟩ := h1
  obtain ⟨rfl, f4⟩ := h3
  obtain ⟨A5, c5, rfl, f5, g5, r5⟩ := k3
  obtain ⟨p6, q6, rfl, h6, k6⟩ := k1
  obtain ⟨A7, c7, rfl, f7, g7, r7⟩ := h6
  obtain ⟨p8, q8, rfl, h8, k8⟩ := k6
  obtain ⟨A9, c9, rfl, f9, g9, r9⟩ := h8
  obtain ⟨rfl, f10⟩ := k8
  exact ⟨A5, c5, A7, c7, A9, c9, rfl, f4, f5, g5, r5, f7, g7, r7, f9, g9, r9, f10⟩
theorem shSTG_mk {w : World} {D : Nat → Prop} {x : STG} {A_net_trans : Option Addr} {c_net_trans : Nat} {A_signals : Option Addr} {c_signals : Nat} {A_labels : Option Addr} {c_labels : Nat} (f0 : InI x.net.places) (f1 : (x.net.trans).length ≤ c_net_trans) (f2 : c_net_trans ≤ 9223372036854775807) (f3 : RSl shTr w D A_net_trans x.net.trans) (f4 : (x.signals).length ≤ c_signals) (f5 : c_signals ≤ 9223372036854775807) (f6 : RSl shSig w D A_signals x.signals) (f7 : (x.labels).length ≤ c_labels) (f8 : c_labels ≤ 9223372036854775807) (f9 : RSl shLab w D A_labels x.labels) (f10 : (x.start).length ≤ 9223372036854775807) : shSTG.rep w D [.int .i64 x.net.places, .slice A_net_trans (x.net.trans).length c_net_trans, .slice A_signals (x.signals).length c_signals, .slice A_labels (x.labels).length c_labels, .string ⟨(x.start).toArray⟩] x := by
  exact ⟨[.int .i64 x.net.places, .slice A_net_trans (x.net.trans).length c_net_trans], _, rfl, ⟨[.int .i64 x.net.places], _, rfl, ⟨rfl, f0⟩, ⟨_, _, rfl, f1, f2, f3⟩⟩, ⟨[.slice A_signals (x.signals).length c_signals], _, rfl, ⟨_, _, rfl, f4, f5, f6⟩, ⟨[.slice A_labels (x.labels).length c_labels], _, rfl, ⟨_, _, rfl, f7, f8, f9⟩, ⟨rfl, f10⟩⟩⟩⟩
theorem RSl.STG_at {w : World} {D : Nat → Prop} {A : Option Addr} {l : List STG} {k : Nat} {x : STG} (h : RSl shSTG w D A l) (hx : l[k]? = some x) :
    ∃ (b off : Nat) (A_net_trans : Option Addr) (c_net_trans : Nat) (A_signals : Option Addr) (c_signals : Nat) (A_labels : Option Addr) (c_labels : Nat), A = some ⟨b, off, none⟩ ∧ D b ∧ w.cell? ⟨b, off + k * 5, none⟩ = some (.int .i64 x.net.places) ∧ w.cell? ⟨b, off + k * 5 + 1, none⟩ = some (.slice A_net_trans (x.net.trans).length c_net_trans) ∧ w.cell? ⟨b, off + k * 5 + 2, none⟩ = some (.slice A_signals (x.signals).length c_signals) ∧ w.cell? ⟨b, off + k * 5 + 3, none⟩ = some (.slice A_labels (x.labels).length c_labels) ∧ w.cell? ⟨b, off + k * 5 + 4, none⟩ = some (.string ⟨(x.start).toArray⟩) ∧ InI x.net.places ∧ (x.net.trans).length ≤ c_net_trans ∧ c_net_trans ≤ 9223372036854775807 ∧ RSl shTr w D A_net_trans x.net.trans ∧ (x.signals).length ≤ c_signals ∧ c_signals ≤ 9223372036854775807 ∧ RSl shSig w D A_signals x.signals ∧ (x.labels).length ≤ c_labels ∧ c_labels ≤ 9223372036854775807 ∧ RSl shLab w D A_labels x.labels ∧ (x.start).length ≤ 9223372036854775807 := by
  obtain ⟨b, off, cs, e, hb, hr, hc⟩ := h.cells_at hx
  obtain ⟨A_net_trans, c_net_trans, A_signals, c_signals, A_labels, c_labels, rfl, g0, g1, g2, g3, g4, g5, g6, g7, g8, g9, g10⟩ := shSTG_rep hr
  exact ⟨b, off, A_net_trans, c_net_trans, A_signals, c_signals, A_labels, c_labels, e, hb, by simpa [shSTG_size] using hc 0 _ rfl, by simpa [shSTG_size] using hc 1 _ rfl, by simpa [shSTG_size] using hc 2 _ rfl, by simpa [shSTG_size] using hc 3 _ rfl, by simpa [shSTG_size] using hc 4 _ rfl, g0, g1, g2, g3, g4, g5, g6, g7, g8, g9, g10⟩
theorem RA.STG_at {w wr : World} {A : Option Addr} {l : List STG} {k : Nat} {x : STG} (h : RA shSTG w A l) (hb : Below w.heap.size w wr) (hx : l[k]? = some x) :
    ∃ (b off : Nat) (A_net_trans : Option Addr) (c_net_trans : Nat) (A_signals : Option Addr) (c_signals : Nat) (A_labels : Option Addr) (c_labels : Nat), A = some ⟨b, off, none⟩ ∧ b < wr.heap.size ∧ wr.cell? ⟨b, off + k * 5, none⟩ = some (.int .i64 x.net.places) ∧ wr.cell? ⟨b, off + k * 5 + 1, none⟩ = some (.slice A_net_trans (x.net.trans).length c_net_trans) ∧ wr.cell? ⟨b, off + k * 5 + 2, none⟩ = some (.slice A_signals (x.signals).length c_signals) ∧ wr.cell? ⟨b, off + k * 5 + 3, none⟩ = some (.slice A_labels (x.labels).length c_labels) ∧ wr.cell? ⟨b, off + k * 5 + 4, none⟩ = some (.string ⟨(x.start).toArray⟩) ∧ InI x.net.places ∧ (x.net.trans).length ≤ c_net_trans ∧ c_net_trans ≤ 9223372036854775807 ∧ RA shTr wr A_net_trans x.net.trans ∧ (x.signals).length ≤ c_signals ∧ c_signals ≤ 9223372036854775807 ∧ RA shSig wr A_signals x.signals ∧ (x.labels).length ≤ c_labels ∧ c_labels ≤ 9223372036854775807 ∧ RA shLab wr A_labels x.labels ∧ (x.start).length ≤ 9223372036854775807 := RSl.STG_at (h.to hb) hx

structure Dl where
  low : Int
  high : Int
  deriving DecidableEq
def shDl : Sh Dl := Sh.via (shPair shInt shInt) (fun x => (x.low, x.high))
theorem shDl_size : shDl.size = 2 := rfl
theorem shDl_rep {w : World} {D : Nat → Prop} {cs : List Value} {x : Dl} (h : shDl.rep w D cs x) : cs = [.int .i64 x.low, .int .i64 x.high] ∧ InI x.low ∧ InI x.high := by
  obtain ⟨p1, q1, rfl, h1, k1⟩ := h
  obtain ⟨rfl, f2⟩ := h1
  obtain ⟨rfl, f3⟩ := k1
  exact ⟨rfl, f2, f3⟩
theorem shDl_mk {w : World} {D : Nat → Prop} {x : Dl} (f0 : InI x.low) (f1 : InI x.high) : shDl.rep w D [.int .i64 x.low, .int .i64 x.high] x := by
  exact ⟨[.int .i64 x.low], _, rfl, ⟨rfl, f0⟩, ⟨rfl, f1⟩⟩
theorem RSl.Dl_at {w : World} {D : Nat → Prop} {A : Option Addr} {l : List Dl} {k : Nat} {x : Dl} (h : RSl shDl w D A l) (hx : l[k]? = some x) :
    ∃ (b off : Nat), A = some ⟨b, off, none⟩ ∧ D b ∧ w.cell? ⟨b, off + k * 2, none⟩ = some (.int .i64 x.low) ∧ w.cell? ⟨b, off + k * 2 + 1, none⟩ = some (.int .i64 x.high) ∧ InI x.low ∧ InI x.high := by
  obtain ⟨b, off, cs, e, hb, hr, hc⟩ := h.cells_at hx
  obtain ⟨rfl, g0, g1⟩ := shDl_rep hr
  exact ⟨b, off, e, hb, by simpa [shDl_size] using hc 0 _ rfl, by simpa [shDl_size] using hc 1 _ rfl, g0, g1⟩
theorem RA.Dl_at {w wr : World} {A : Option Addr} {l : List Dl} {k : Nat} {x : Dl} (h : RA shDl w A l) (hb : Below w.heap.size w wr) (hx : l[k]? = some x) :
    ∃ (b off : Nat), A = some ⟨b, off, none⟩ ∧ b < wr.heap.size ∧ wr.cell? ⟨b, off + k * 2, none⟩ = some (.int .i64 x.low) ∧ wr.cell? ⟨b, off + k * 2 + 1, none⟩ = some (.int .i64 x.high) ∧ InI x.low ∧ InI x.high := RSl.Dl_at (h.to hb) hx

structure Mv where
  from_ : Int
  by_ : Int
  to : Int
  deriving DecidableEq
def shMv : Sh Mv := Sh.via (shPair shInt (shPair shInt shInt)) (fun x => (x.from_, (x.by_, x.to)))
theorem shMv_size : shMv.size = 3 := rfl
theorem shMv_rep {w : World} {D : Nat → Prop} {cs : List Value} {x : Mv} (h : shMv.rep w D cs x) : cs = [.int .i64 x.from_, .int .i64 x.by_, .int .i64 x.to] ∧ InI x.from_ ∧ InI x.by_ ∧ InI x.to := by
  obtain ⟨p1, q1, rfl, h1, k1⟩ := h
  obtain ⟨rfl, f2⟩ := h1
  obtain ⟨p3, q3, rfl, h3, k3⟩ := k1
  obtain ⟨rfl, f4⟩ := h3
  obtain ⟨rfl, f5⟩ := k3
  exact ⟨rfl, f2, f4, f5⟩
theorem shMv_mk {w : World} {D : Nat → Prop} {x : Mv} (f0 : InI x.from_) (f1 : InI x.by_) (f2 : InI x.to) : shMv.rep w D [.int .i64 x.from_, .int .i64 x.by_, .int .i64 x.to] x := by
  exact ⟨[.int .i64 x.from_], _, rfl, ⟨rfl, f0⟩, ⟨[.int .i64 x.by_], _, rfl, ⟨rfl, f1⟩, ⟨rfl, f2⟩⟩⟩
theorem RSl.Mv_at {w : World} {D : Nat → Prop} {A : Option Addr} {l : List Mv} {k : Nat} {x : Mv} (h : RSl shMv w D A l) (hx : l[k]? = some x) :
    ∃ (b off : Nat), A = some ⟨b, off, none⟩ ∧ D b ∧ w.cell? ⟨b, off + k * 3, none⟩ = some (.int .i64 x.from_) ∧ w.cell? ⟨b, off + k * 3 + 1, none⟩ = some (.int .i64 x.by_) ∧ w.cell? ⟨b, off + k * 3 + 2, none⟩ = some (.int .i64 x.to) ∧ InI x.from_ ∧ InI x.by_ ∧ InI x.to := by
  obtain ⟨b, off, cs, e, hb, hr, hc⟩ := h.cells_at hx
  obtain ⟨rfl, g0, g1, g2⟩ := shMv_rep hr
  exact ⟨b, off, e, hb, by simpa [shMv_size] using hc 0 _ rfl, by simpa [shMv_size] using hc 1 _ rfl, by simpa [shMv_size] using hc 2 _ rfl, g0, g1, g2⟩
theorem RA.Mv_at {w wr : World} {A : Option Addr} {l : List Mv} {k : Nat} {x : Mv} (h : RA shMv w A l) (hb : Below w.heap.size w wr) (hx : l[k]? = some x) :
    ∃ (b off : Nat), A = some ⟨b, off, none⟩ ∧ b < wr.heap.size ∧ wr.cell? ⟨b, off + k * 3, none⟩ = some (.int .i64 x.from_) ∧ wr.cell? ⟨b, off + k * 3 + 1, none⟩ = some (.int .i64 x.by_) ∧ wr.cell? ⟨b, off + k * 3 + 2, none⟩ = some (.int .i64 x.to) ∧ InI x.from_ ∧ InI x.by_ ∧ InI x.to := RSl.Mv_at (h.to hb) hx

structure RG where
  marks : List (List UInt8)
  moves : List Mv
  deriving DecidableEq
def shRG : Sh RG := Sh.via (shPair (shSl shStr) (shSl shMv)) (fun x => (x.marks, x.moves))
theorem shRG_size : shRG.size = 2 := rfl
theorem shRG_rep {w : World} {D : Nat → Prop} {cs : List Value} {x : RG} (h : shRG.rep w D cs x) : ∃ (A_marks : Option Addr) (c_marks : Nat) (A_moves : Option Addr) (c_moves : Nat), cs = [.slice A_marks (x.marks).length c_marks, .slice A_moves (x.moves).length c_moves] ∧ (x.marks).length ≤ c_marks ∧ c_marks ≤ 9223372036854775807 ∧ RSl shStr w D A_marks x.marks ∧ (x.moves).length ≤ c_moves ∧ c_moves ≤ 9223372036854775807 ∧ RSl shMv w D A_moves x.moves := by
  obtain ⟨p1, q1, rfl, h1, k1⟩ := h
  obtain ⟨A2, c2, rfl, f2, g2, r2⟩ := h1
  obtain ⟨A3, c3, rfl, f3, g3, r3⟩ := k1
  exact ⟨A2, c2, A3, c3, rfl, f2, g2, r2, f3, g3, r3⟩
theorem shRG_mk {w : World} {D : Nat → Prop} {x : RG} {A_marks : Option Addr} {c_marks : Nat} {A_moves : Option Addr} {c_moves : Nat} (f0 : (x.marks).length ≤ c_marks) (f1 : c_marks ≤ 9223372036854775807) (f2 : RSl shStr w D A_marks x.marks) (f3 : (x.moves).length ≤ c_moves) (f4 : c_moves ≤ 9223372036854775807) (f5 : RSl shMv w D A_moves x.moves) : shRG.rep w D [.slice A_marks (x.marks).length c_marks, .slice A_moves (x.moves).length c_moves] x := by
  exact ⟨[.slice A_marks (x.marks).length c_marks], _, rfl, ⟨_, _, rfl, f0, f1, f2⟩, ⟨_, _, rfl, f3, f4, f5⟩⟩
theorem RSl.RG_at {w : World} {D : Nat → Prop} {A : Option Addr} {l : List RG} {k : Nat} {x : RG} (h : RSl shRG w D A l) (hx : l[k]? = some x) :
    ∃ (b off : Nat) (A_marks : Option Addr) (c_marks : Nat) (A_moves : Option Addr) (c_moves : Nat), A = some ⟨b, off, none⟩ ∧ D b ∧ w.cell? ⟨b, off + k * 2, none⟩ = some (.slice A_marks (x.marks).length c_marks) ∧ w.cell? ⟨b, off + k * 2 + 1, none⟩ = some (.slice A_moves (x.moves).length c_moves) ∧ (x.marks).length ≤ c_marks ∧ c_marks ≤ 9223372036854775807 ∧ RSl shStr w D A_marks x.marks ∧ (x.moves).length ≤ c_moves ∧ c_moves ≤ 9223372036854775807 ∧ RSl shMv w D A_moves x.moves := by
  obtain ⟨b, off, cs, e, hb, hr, hc⟩ := h.cells_at hx
  obtain ⟨A_marks, c_marks, A_moves, c_moves, rfl, g0, g1, g2, g3, g4, g5⟩ := shRG_rep hr
  exact ⟨b, off, A_marks, c_marks, A_moves, c_moves, e, hb, by simpa [shRG_size] using hc 0 _ rfl, by simpa [shRG_size] using hc 1 _ rfl, g0, g1, g2, g3, g4, g5⟩
theorem RA.RG_at {w wr : World} {A : Option Addr} {l : List RG} {k : Nat} {x : RG} (h : RA shRG w A l) (hb : Below w.heap.size w wr) (hx : l[k]? = some x) :
    ∃ (b off : Nat) (A_marks : Option Addr) (c_marks : Nat) (A_moves : Option Addr) (c_moves : Nat), A = some ⟨b, off, none⟩ ∧ b < wr.heap.size ∧ wr.cell? ⟨b, off + k * 2, none⟩ = some (.slice A_marks (x.marks).length c_marks) ∧ wr.cell? ⟨b, off + k * 2 + 1, none⟩ = some (.slice A_moves (x.moves).length c_moves) ∧ (x.marks).length ≤ c_marks ∧ c_marks ≤ 9223372036854775807 ∧ RA shStr wr A_marks x.marks ∧ (x.moves).length ≤ c_moves ∧ c_moves ≤ 9223372036854775807 ∧ RA shMv wr A_moves x.moves := RSl.RG_at (h.to hb) hx

structure Pin where
  at_ : Int
  not_ : Bool
  deriving DecidableEq
def shPin : Sh Pin := Sh.via (shPair shInt shBool) (fun x => (x.at_, x.not_))
theorem shPin_size : shPin.size = 2 := rfl
theorem shPin_rep {w : World} {D : Nat → Prop} {cs : List Value} {x : Pin} (h : shPin.rep w D cs x) : cs = [.int .i64 x.at_, .bool x.not_] ∧ InI x.at_ := by
  obtain ⟨p1, q1, rfl, h1, k1⟩ := h
  obtain ⟨rfl, f2⟩ := h1
  obtain rfl := k1
  exact ⟨rfl, f2⟩
theorem shPin_mk {w : World} {D : Nat → Prop} {x : Pin} (f0 : InI x.at_) : shPin.rep w D [.int .i64 x.at_, .bool x.not_] x := by
  exact ⟨[.int .i64 x.at_], _, rfl, ⟨rfl, f0⟩, rfl⟩
theorem RSl.Pin_at {w : World} {D : Nat → Prop} {A : Option Addr} {l : List Pin} {k : Nat} {x : Pin} (h : RSl shPin w D A l) (hx : l[k]? = some x) :
    ∃ (b off : Nat), A = some ⟨b, off, none⟩ ∧ D b ∧ w.cell? ⟨b, off + k * 2, none⟩ = some (.int .i64 x.at_) ∧ w.cell? ⟨b, off + k * 2 + 1, none⟩ = some (.bool x.not_) ∧ InI x.at_ := by
  obtain ⟨b, off, cs, e, hb, hr, hc⟩ := h.cells_at hx
  obtain ⟨rfl, g0⟩ := shPin_rep hr
  exact ⟨b, off, e, hb, by simpa [shPin_size] using hc 0 _ rfl, by simpa [shPin_size] using hc 1 _ rfl, g0⟩
theorem RA.Pin_at {w wr : World} {A : Option Addr} {l : List Pin} {k : Nat} {x : Pin} (h : RA shPin w A l) (hb : Below w.heap.size w wr) (hx : l[k]? = some x) :
    ∃ (b off : Nat), A = some ⟨b, off, none⟩ ∧ b < wr.heap.size ∧ wr.cell? ⟨b, off + k * 2, none⟩ = some (.int .i64 x.at_) ∧ wr.cell? ⟨b, off + k * 2 + 1, none⟩ = some (.bool x.not_) ∧ InI x.at_ := RSl.Pin_at (h.to hb) hx

structure Wire where
  name : List UInt8
  kind : Int
  ins : List Pin
  cover : List (List UInt8)
  deriving DecidableEq
def shWire : Sh Wire := Sh.via (shPair shStr (shPair shInt (shPair (shSl shPin) (shSl shStr)))) (fun x => (x.name, (x.kind, (x.ins, x.cover))))
theorem shWire_size : shWire.size = 4 := rfl
theorem shWire_rep {w : World} {D : Nat → Prop} {cs : List Value} {x : Wire} (h : shWire.rep w D cs x) : ∃ (A_ins : Option Addr) (c_ins : Nat) (A_cover : Option Addr) (c_cover : Nat), cs = [.string ⟨(x.name).toArray⟩, .int .i64 x.kind, .slice A_ins (x.ins).length c_ins, .slice A_cover (x.cover).length c_cover] ∧ (x.name).length ≤ 9223372036854775807 ∧ InI x.kind ∧ (x.ins).length ≤ c_ins ∧ c_ins ≤ 9223372036854775807 ∧ RSl shPin w D A_ins x.ins ∧ (x.cover).length ≤ c_cover ∧ c_cover ≤ 9223372036854775807 ∧ RSl shStr w D A_cover x.cover := by
  obtain ⟨p1, q1, rfl, h1, k1⟩ := h
  obtain ⟨rfl, f2⟩ := h1
  obtain ⟨p3, q3, rfl, h3, k3⟩ := k1
  obtain ⟨rfl, f4⟩ := h3
  obtain ⟨p5, q5, rfl, h5, k5⟩ := k3
  obtain ⟨A6, c6, rfl, f6, g6, r6⟩ := h5
  obtain ⟨A7, c7, rfl, f7, g7, r7⟩ := k5
  exact ⟨A6, c6, A7, c7, rfl, f2, f4, f6, g6, r6, f7, g7, r7⟩
theorem shWire_mk {w : World} {D : Nat → Prop} {x : Wire} {A_ins : Option Addr} {c_ins : Nat} {A_cover : Option Addr} {c_cover : Nat} (f0 : (x.name).length ≤ 9223372036854775807) (f1 : InI x.kind) (f2 : (x.ins).length ≤ c_ins) (f3 : c_ins ≤ 9223372036854775807) (f4 : RSl shPin w D A_ins x.ins) (f5 : (x.cover).length ≤ c_cover) (f6 : c_cover ≤ 9223372036854775807) (f7 : RSl shStr w D A_cover x.cover) : shWire.rep w D [.string ⟨(x.name).toArray⟩, .int .i64 x.kind, .slice A_ins (x.ins).length c_ins, .slice A_cover (x.cover).length c_cover] x := by
  exact ⟨[.string ⟨(x.name).toArray⟩], _, rfl, ⟨rfl, f0⟩, ⟨[.int .i64 x.kind], _, rfl, ⟨rfl, f1⟩, ⟨[.slice A_ins (x.ins).length c_ins], _, rfl, ⟨_, _, rfl, f2, f3, f4⟩, ⟨_, _, rfl, f5, f6, f7⟩⟩⟩⟩
theorem RSl.Wire_at {w : World} {D : Nat → Prop} {A : Option Addr} {l : List Wire} {k : Nat} {x : Wire} (h : RSl shWire w D A l) (hx : l[k]? = some x) :
    ∃ (b off : Nat) (A_ins : Option Addr) (c_ins : Nat) (A_cover : Option Addr) (c_cover : Nat), A = some ⟨b, off, none⟩ ∧ D b ∧ w.cell? ⟨b, off + k * 4, none⟩ = some (.string ⟨(x.name).toArray⟩) ∧ w.cell? ⟨b, off + k * 4 + 1, none⟩ = some (.int .i64 x.kind) ∧ w.cell? ⟨b, off + k * 4 + 2, none⟩ = some (.slice A_ins (x.ins).length c_ins) ∧ w.cell? ⟨b, off + k * 4 + 3, none⟩ = some (.slice A_cover (x.cover).length c_cover) ∧ (x.name).length ≤ 9223372036854775807 ∧ InI x.kind ∧ (x.ins).length ≤ c_ins ∧ c_ins ≤ 9223372036854775807 ∧ RSl shPin w D A_ins x.ins ∧ (x.cover).length ≤ c_cover ∧ c_cover ≤ 9223372036854775807 ∧ RSl shStr w D A_cover x.cover := by
  obtain ⟨b, off, cs, e, hb, hr, hc⟩ := h.cells_at hx
  obtain ⟨A_ins, c_ins, A_cover, c_cover, rfl, g0, g1, g2, g3, g4, g5, g6, g7⟩ := shWire_rep hr
  exact ⟨b, off, A_ins, c_ins, A_cover, c_cover, e, hb, by simpa [shWire_size] using hc 0 _ rfl, by simpa [shWire_size] using hc 1 _ rfl, by simpa [shWire_size] using hc 2 _ rfl, by simpa [shWire_size] using hc 3 _ rfl, g0, g1, g2, g3, g4, g5, g6, g7⟩
theorem RA.Wire_at {w wr : World} {A : Option Addr} {l : List Wire} {k : Nat} {x : Wire} (h : RA shWire w A l) (hb : Below w.heap.size w wr) (hx : l[k]? = some x) :
    ∃ (b off : Nat) (A_ins : Option Addr) (c_ins : Nat) (A_cover : Option Addr) (c_cover : Nat), A = some ⟨b, off, none⟩ ∧ b < wr.heap.size ∧ wr.cell? ⟨b, off + k * 4, none⟩ = some (.string ⟨(x.name).toArray⟩) ∧ wr.cell? ⟨b, off + k * 4 + 1, none⟩ = some (.int .i64 x.kind) ∧ wr.cell? ⟨b, off + k * 4 + 2, none⟩ = some (.slice A_ins (x.ins).length c_ins) ∧ wr.cell? ⟨b, off + k * 4 + 3, none⟩ = some (.slice A_cover (x.cover).length c_cover) ∧ (x.name).length ≤ 9223372036854775807 ∧ InI x.kind ∧ (x.ins).length ≤ c_ins ∧ c_ins ≤ 9223372036854775807 ∧ RA shPin wr A_ins x.ins ∧ (x.cover).length ≤ c_cover ∧ c_cover ≤ 9223372036854775807 ∧ RA shStr wr A_cover x.cover := RSl.Wire_at (h.to hb) hx

structure Nl where
  signals : List Sig
  wires : List Wire
  deriving DecidableEq
def shNl : Sh Nl := Sh.via (shPair (shSl shSig) (shSl shWire)) (fun x => (x.signals, x.wires))
theorem shNl_size : shNl.size = 2 := rfl
theorem shNl_rep {w : World} {D : Nat → Prop} {cs : List Value} {x : Nl} (h : shNl.rep w D cs x) : ∃ (A_signals : Option Addr) (c_signals : Nat) (A_wires : Option Addr) (c_wires : Nat), cs = [.slice A_signals (x.signals).length c_signals, .slice A_wires (x.wires).length c_wires] ∧ (x.signals).length ≤ c_signals ∧ c_signals ≤ 9223372036854775807 ∧ RSl shSig w D A_signals x.signals ∧ (x.wires).length ≤ c_wires ∧ c_wires ≤ 9223372036854775807 ∧ RSl shWire w D A_wires x.wires := by
  obtain ⟨p1, q1, rfl, h1, k1⟩ := h
  obtain ⟨A2, c2, rfl, f2, g2, r2⟩ := h1
  obtain ⟨A3, c3, rfl, f3, g3, r3⟩ := k1
  exact ⟨A2, c2, A3, c3, rfl, f2, g2, r2, f3, g3, r3⟩
theorem shNl_mk {w : World} {D : Nat → Prop} {x : Nl} {A_signals : Option Addr} {c_signals : Nat} {A_wires : Option Addr} {c_wires : Nat} (f0 : (x.signals).length ≤ c_signals) (f1 : c_signals ≤ 9223372036854775807) (f2 : RSl shSig w D A_signals x.signals) (f3 : (x.wires).length ≤ c_wires) (f4 : c_wires ≤ 9223372036854775807) (f5 : RSl shWire w D A_wires x.wires) : shNl.rep w D [.slice A_signals (x.signals).length c_signals, .slice A_wires (x.wires).length c_wires] x := by
  exact ⟨[.slice A_signals (x.signals).length c_signals], _, rfl, ⟨_, _, rfl, f0, f1, f2⟩, ⟨_, _, rfl, f3, f4, f5⟩⟩
theorem RSl.Nl_at {w : World} {D : Nat → Prop} {A : Option Addr} {l : List Nl} {k : Nat} {x : Nl} (h : RSl shNl w D A l) (hx : l[k]? = some x) :
    ∃ (b off : Nat) (A_signals : Option Addr) (c_signals : Nat) (A_wires : Option Addr) (c_wires : Nat), A = some ⟨b, off, none⟩ ∧ D b ∧ w.cell? ⟨b, off + k * 2, none⟩ = some (.slice A_signals (x.signals).length c_signals) ∧ w.cell? ⟨b, off + k * 2 + 1, none⟩ = some (.slice A_wires (x.wires).length c_wires) ∧ (x.signals).length ≤ c_signals ∧ c_signals ≤ 9223372036854775807 ∧ RSl shSig w D A_signals x.signals ∧ (x.wires).length ≤ c_wires ∧ c_wires ≤ 9223372036854775807 ∧ RSl shWire w D A_wires x.wires := by
  obtain ⟨b, off, cs, e, hb, hr, hc⟩ := h.cells_at hx
  obtain ⟨A_signals, c_signals, A_wires, c_wires, rfl, g0, g1, g2, g3, g4, g5⟩ := shNl_rep hr
  exact ⟨b, off, A_signals, c_signals, A_wires, c_wires, e, hb, by simpa [shNl_size] using hc 0 _ rfl, by simpa [shNl_size] using hc 1 _ rfl, g0, g1, g2, g3, g4, g5⟩
theorem RA.Nl_at {w wr : World} {A : Option Addr} {l : List Nl} {k : Nat} {x : Nl} (h : RA shNl w A l) (hb : Below w.heap.size w wr) (hx : l[k]? = some x) :
    ∃ (b off : Nat) (A_signals : Option Addr) (c_signals : Nat) (A_wires : Option Addr) (c_wires : Nat), A = some ⟨b, off, none⟩ ∧ b < wr.heap.size ∧ wr.cell? ⟨b, off + k * 2, none⟩ = some (.slice A_signals (x.signals).length c_signals) ∧ wr.cell? ⟨b, off + k * 2 + 1, none⟩ = some (.slice A_wires (x.wires).length c_wires) ∧ (x.signals).length ≤ c_signals ∧ c_signals ≤ 9223372036854775807 ∧ RA shSig wr A_signals x.signals ∧ (x.wires).length ≤ c_wires ∧ c_wires ≤ 9223372036854775807 ∧ RA shWire wr A_wires x.wires := RSl.Nl_at (h.to hb) hx

end Go.Proofs.YtmfplddmccggkaaGreat
