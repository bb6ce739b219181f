import Derived.Test.YtmfplddmccggkaaGreatUnexpectedOutputsF
import Derived.Test.YtmfplddmccggkaaGreatData
import Derived.Test.YtmfplddmccggkaaGreatDistPure
import Derived.Test.YtmfplddmccggkaaGreatSysPure
namespace Go.Proofs.YtmfplddmccggkaaGreat
open Go.RowKit
set_option linter.unusedVariables false
set_option linter.unusedSimpArgs false
theorem ZaW (n lo hi : Int) : ZaD [pI n, pI lo, pI hi] = some (pB (decide (lo ≤ n) && decide (n ≤ hi))) := by
 show (fun x0 x1 x2 => ZaD [x0, x1, x2]) _ _ _ = _
 rw [ZrE]
 by_cases h : lo ≤ n <;> simp only [h, EVS]
def ZsS (first : Bool) (b : UInt8) : Bool := (decide ((97 : Int) ≤ b.toNat) && decide ((b.toNat : Int) ≤ 122)) || (!first && (!decide ((b.toNat : Int) < 48) && !decide ((57 : Int) < b.toNat)))
def Zhh : Bool → List UInt8 → Bool
 | _, [] => true
 | f, b :: r => ZsS f b && Zhh false r
def Zaw (s : List UInt8) : Bool := Zhh true s && (decide ((1 : Int) ≤ s.length) && decide ((s.length : Int) ≤ 6))
theorem Zku (s : List UInt8) (hs : s.length ≤ 9223372036854775807) : ZdQ [.str s] = some (pB (Zaw s)) := by
 show (fun x0 => ZdQ [x0]) _ = _
 rw [Zoo]
 refine (congrArg (Zh true) (Zdg (R := PV) (fun k : Nat => [pI (Int.ofNat k)]) (fun k => s.length + 1 - k) (fun k => some (pB (Zhh (k == 0) (s.drop k) && (decide ((1 : Int) ≤ s.length) && decide ((s.length : Int) ≤ 6))))) _ (fun again k ih => ?_) _ 0 (by omega))).trans ?_
 ·by_cases hk : k < s.length
  ·obtain ⟨b, hb⟩ : ∃ b, s[k]? = some b := ⟨s[k], List.getElem?_eq_getElem hk⟩
   have hd : s.drop k = b :: s.drop (k + 1) := by
    obtain ⟨h1, rfl⟩ := List.getElem?_eq_some_iff.1 hb
    exact List.drop_eq_getElem_cons h1
   have hlt : decide ((k : Int) < s.length) = true := by simpa using hk
   have hw : IntKind.i64.wrap ((k : Int) + 1) = ((k + 1 : Nat) : Int) := by rw [Zda (by omega) (by omega)]; omega
   have hnext := ih (k + 1) (by omega)
   simp only [Int.ofNat_eq_natCast] at hnext
   have hk0 : decide ((k : Int) = 0) = (k == 0) := by rw [Bool.eq_iff_iff]; simp
   rw [hd]
   have hk1 : (k + 1 == 0) = false := rfl
   rw [hk1] at hnext
   have ev1 := hlt
   have ev2 := Zs (k := .i64) hb
   simp only [Zhh, ZsS, hlt, Zs hb, hk0, hw, hnext, EVS]
   by_cases c1 : (97 : Int) ≤ b.toNat
   all_goals simp only [c1, Zs hb, EVS]
   by_cases c2 : (b.toNat : Int) ≤ 122
   all_goals try simp only [c2, Zs hb, EVS]
   all_goals try simp only [hk0]
   all_goals try (cases c5 : (k == 0))
   all_goals try simp only [c5, Zs hb, EVS]
   all_goals try (by_cases c3 : (b.toNat : Int) < 48)
   all_goals try simp only [c3, Zs hb, EVS]
   all_goals try (by_cases c4 : (57 : Int) < b.toNat)
   all_goals try simp only [c4, Zs hb, EVS]
  ·have hd : s.drop k = [] := List.drop_eq_nil_of_le (by omega)
   have hlt : decide ((k : Int) < s.length) = false := by simpa using hk
   rw [hd]
   simp only [Zhh, hlt, ZaW, EVS]
 ·simp only [Zaw, List.drop_zero, beq_self_eq_true, EVS]
def Zi7 (b : UInt8) : Bool := decide ((b.toNat : Int) = 48) || decide ((b.toNat : Int) = 49) || decide ((b.toNat : Int) = 45)
def Zh6 (s : List UInt8) : Bool := ZT (fun _ b => Zi7 b) 0 s && (decide ((1 : Int) ≤ s.length) && decide ((s.length : Int) ≤ 8))
theorem Zi {α : Type} {l : List α} {k : Nat} {x : α} (h : l[k]? = some x) : k < l.length := (List.getElem?_eq_some_iff.1 h).1
theorem Zn {k n : Nat} (h : k < n) (hn : n ≤ 9223372036854775807) : IntKind.i64.wrap ((k : Int) + 1) = ((k + 1 : Nat) : Int) := by rw [Zda (by omega) (by omega)]; omega
theorem Zap {k n : Nat} (h : k < n) : decide ((k : Int) < (n : Int)) = true := by simpa using h
theorem ZaP {n : Nat} : decide ((n : Int) < (n : Int)) = false := by simp
theorem Zn1 (s : List UInt8) (hs : s.length ≤ 9223372036854775807) : Zd9 [.str s] = some (pB (Zh6 s)) := by
 show (fun x0 => Zd9 [x0]) _ = _
 rw [ZmS]
 refine (congrArg (Zh true) (Z5 (R := PV) s (fun _ b => Zi7 b) (some (pB false)) (some (pB (decide ((1 : Int) ≤ s.length) && decide ((s.length : Int) ≤ 8)))) _ hs (fun again k b hb => ?_) (fun again => ?_))).trans ?_
 ·have hk := Zi hb
  cases c1 : decide ((b.toNat : Int) = 48) <;> cases c2 : decide ((b.toNat : Int) = 49) <;> cases c3 : decide ((b.toNat : Int) = 45) <;>
   simp only [Zi7, Zap hk, Zn hk hs, Zs hb, c1, c2, c3, EVS]
 ·simp only [ZaP, ZaW, EVS]
 ·unfold Zh6
  cases ZT (fun _ b => Zi7 b) 0 s <;> simp only [EVS]
abbrev Z7 (s : List UInt8 × Int) : PV := .agg [.str s.1, pI s.2]
def inR (n lo hi : Int) : Bool := decide (lo ≤ n) && decide (n ≤ hi)
def ZlQ (l : List (List UInt8 × Int)) (k : Nat) (s : List UInt8 × Int) : Bool := (Zaw s.1 && inR s.2 1 3) && ZT (fun _ y => !decide (s.1 = y.1)) 0 (l.take k)
def ZgW (l : List (List UInt8 × Int)) : Bool := ZT (ZlQ l) 0 l && inR l.length 1 8
theorem ZlR (x : List UInt8 × Int) : Zb7 2 (Z7 x) = true := rfl
theorem ZgX (l : List (List UInt8 × Int)) (hl : l.length ≤ 9223372036854775807) (hs : ∀ s ∈ l, s.1.length ≤ 9223372036854775807) : Zct [.lst (l.map Z7)] = some (pB (ZgW l)) := by
 show (fun x0 => Zct [x0]) _ = _
 rw [ZkU]
 simp only [EVS]
 refine (congrArg (Zh true) (Z5 (R := PV) l (ZlQ l) (some (pB false)) (some (pB (inR l.length 1 8))) _ hl (fun again k s hb => ?_) (fun again => ?_))).trans ?_
 ·have hk := Zi hb
  have hi : Zq (.lst (l.map Z7)) (.int .i64 (k : Int)) = some (Z7 s) := Zo hb
  have hc : Zjj 2 (.lst (l.map Z7)) none (some (.int .i64 (k : Int))) = some (.lst ((l.take k).map Z7)) := Zjy ZlR (by omega)
  have hn := Zku s.1 (hs s (List.mem_of_getElem? hb))
  simp only [Zap hk, Zn hk hl, hi, Z7, hn, ZaW, ZlQ, inR, EVS]
  obtain c1 | c1 := (Bool.eq_false_or_eq_true (Zaw s.1)).symm <;> simp only [c1, ZaW, EVS]
  obtain c2 | c2 := (Bool.eq_false_or_eq_true (decide (1 ≤ s.2) && decide (s.2 ≤ 3))).symm <;> simp only [c2, EVS]
  simp only [hc, EVS]
  refine (Z5 (R := PV) (l.take k) (fun _ y => !decide (s.1 = y.1)) (some (pB false)) (again [pI ((k + 1 : Nat) : Int)]) _ (by simp; omega) (fun again' j y hy => ?_) (fun again' => ?_)).trans ?_
  ·have hj := Zi hy
   have hi' : Zq (.lst ((l.take k).map Z7)) (.int .i64 (j : Int)) = some (Z7 y) := Zo hy
   simp only [Zap hj, Zn hj (by simp; omega), hi', Z7, EVS]
   cases c3 : decide (s.1 = y.1) <;> simp only [c3, EVS]
  ·simp only [ZaP, Zn hk hl, EVS]
  ·rfl
 ·simp only [ZaP, ZaW, inR, EVS]
 ·unfold ZgW
  cases ZT (ZlQ l) 0 l <;> simp only [EVS]
def ZjH (n : Int) (l : List (List UInt8)) : Bool := ZT (fun _ c => Zh6 c && decide ((c.length : Int) = n)) 0 l
def Zkv (n : Int) (l : List (List UInt8)) : Bool := ZjH n l && (inR n 1 8 && decide ((l.length : Int) ≤ 60))
theorem Zn2 (n : Int) (l : List (List UInt8)) (hl : l.length ≤ 9223372036854775807) (hs : ∀ s ∈ l, s.length ≤ 9223372036854775807) : Zea [pI n, .lst (l.map PV.str)] = some (pB (Zkv n l)) := by
 show (fun x0 x1 => Zea [x0, x1]) _ _ = _
 rw [ZmU]
 simp only [EVS]
 refine (congrArg (Zh true) (Z5 (R := PV) l (fun _ c => Zh6 c && decide ((c.length : Int) = n)) (some (pB false)) (some (pB (inR n 1 8 && decide ((l.length : Int) ≤ 60)))) _ hl (fun again k s hb => ?_) (fun again => ?_))).trans ?_
 ·have hk := Zi hb
  have hi : Zq (.lst (l.map PV.str)) (.int .i64 (k : Int)) = some (.str s) := Zo hb
  have hn := Zn1 s (hs s (List.mem_of_getElem? hb))
  simp only [Zap hk, Zn hk hl, hi, hn, EVS]
  obtain c1 | c1 := (Bool.eq_false_or_eq_true (Zh6 s)).symm <;> simp only [c1, EVS]
  obtain c2 | c2 := (Bool.eq_false_or_eq_true (decide ((s.length : Int) = n))).symm <;> simp only [c2, EVS]
 ·simp only [ZaP, ZaW, inR, EVS]
  obtain c1 | c1 := (Bool.eq_false_or_eq_true (decide (1 ≤ n) && decide (n ≤ 8))).symm <;> simp only [c1, EVS]
 ·unfold Zkv ZjH
  cases ZT (fun _ c => Zh6 c && decide ((c.length : Int) = n)) 0 l <;> simp only [EVS]
structure PWire where
 name : List UInt8
 kind : Int
 ins : List (Int × Bool)
 cover : List (List UInt8)
structure PNet where
 signals : List (List UInt8 × Int)
 wires : List PWire
abbrev Zas (p : Int × Bool) : PV := .agg [pI p.1, pB p.2]
abbrev Zac (w : PWire) : PV := .agg [.str w.name, pI w.kind, .lst (w.ins.map Zas), .lst (w.cover.map PV.str)]
abbrev Zam (n : PNet) : PV := .agg [.lst (n.signals.map Z7), .lst (n.wires.map Zac)]
abbrev Zz {α : Type} (l : List α) : Prop := l.length ≤ 9223372036854775807
structure PWire.Fit (w : PWire) : Prop where
 name : Zz w.name
 ins : Zz w.ins
 cover : Zz w.cover
 cubes : ∀ c ∈ w.cover, Zz c
structure PNet.Fit (n : PNet) : Prop where
 signals : Zz n.signals
 names : ∀ s ∈ n.signals, Zz s.1
 wires : Zz n.wires
 wire : ∀ w ∈ n.wires, w.Fit
def ZgY (n : PNet) (k : Nat) (p : Int × Bool) : Bool := inR p.1 0 ((n.wires.length : Int) - 1) && !(decide ((n.signals.length : Int) ≤ k) && decide ((k : Int) ≤ p.1))
def Zd4 (k : Nat) (kind : Int) (ins : List (Int × Bool)) : Bool :=
 if decide (kind = 1) = true then decide ((ins.length : Int) = 0)
 else if decide (kind = 4) = true then decide ((ins.length : Int) = 2)
 else if decide (kind = 5) = true then decide ((ins.length : Int) = 0) || (match ins with | [p] => decide (p.1 = k) && !p.2 | _ => false)
 else inR ins.length 1 8
def Zn3 (n : PNet) (k : Nat) (w : PWire) : Bool := ZT (fun _ p => ZgY n k p) 0 w.ins && Zd4 k w.kind w.ins
theorem Zn4 (n : PNet) (k : Nat) (w : PWire) (hn : n.Fit) (hw : w.Fit) : Zeb [Zam n, pI k, Zac w] = some (pB (Zn3 n k w)) := by
 show (fun x0 x1 x2 => Zeb [x0, x1, x2]) _ _ _ = _
 rw [ZmW]
 simp only [Zam, Zac, EVS]
 have hwl : IntKind.i64.wrap ((n.wires.length : Int) - 1) = (n.wires.length : Int) - 1 := Zda (by omega) (by have := hn.wires; unfold Zz at this; omega)
 have hi0 := hw.ins
 unfold Zz at hi0
 refine (congrArg (Zh true) (Z5 (R := PV) w.ins (fun _ p => ZgY n k p) (some (pB false)) (some (pB (Zd4 k w.kind w.ins))) _ hi0 (fun again j p hb => ?_) (fun again => ?_))).trans ?_
 ·have hk := Zi hb
  have hi : Zq (.lst (w.ins.map Zas)) (.int .i64 (j : Int)) = some (Zas p) := Zo hb
  simp only [Zap hk, Zn hk hi0, hi, Zas, hwl, ZaW, ZgY, inR, EVS]
  obtain c1 | c1 := (Bool.eq_false_or_eq_true (decide (0 ≤ p.1) && decide (p.1 ≤ (n.wires.length : Int) - 1))).symm <;> simp only [c1, EVS]
  obtain c2 | c2 := (Bool.eq_false_or_eq_true (decide ((n.signals.length : Int) ≤ (k : Int)))).symm <;> simp only [c2, EVS]
  obtain c3 | c3 := (Bool.eq_false_or_eq_true (decide ((k : Int) ≤ p.1))).symm <;> simp only [c3, EVS]
 ·simp only [ZaP, Zd4, EVS]
  obtain c1 | c1 := (Bool.eq_false_or_eq_true (decide (w.kind = 1))).symm <;> simp only [c1, EVS]
  obtain c2 | c2 := (Bool.eq_false_or_eq_true (decide (w.kind = 4))).symm <;> simp only [c2, EVS]
  obtain c3 | c3 := (Bool.eq_false_or_eq_true (decide (w.kind = 5))).symm <;> simp only [c3, ZaW, inR, EVS]
  have h01 : decide ((0 : Int) = 1) = false := rfl
  have h00 : decide ((0 : Int) = 0) = true := rfl
  have h11 : decide ((1 : Int) = 1) = true := rfl
  have h10 : decide ((1 : Int) = 0) = false := rfl
  rcases hq : w.ins with _ | ⟨p, _ | ⟨q, r⟩⟩
  ·simp only [List.length_nil, h00, EVS]
  ·have hi : Zq (.lst ([p].map Zas)) (.int .i64 0) = some (Zas p) := rfl
   simp only [List.length_cons, List.length_nil, Nat.zero_add, h11, h10, hi, Zas, List.drop_zero, List.drop_succ_cons, EVS]
   obtain c4 | c4 := (Bool.eq_false_or_eq_true (decide (p.1 = (k : Int)))).symm <;> simp only [c4, h11, h10, hi, Zas, List.drop_zero, List.drop_succ_cons, EVS]
  ·have h2 : decide (((r.length + 1 + 1 : Nat) : Int) = 0) = false := by simp; omega
   have h3 : decide (((r.length + 1 + 1 : Nat) : Int) = 1) = false := by simp; omega
   simp only [List.length_cons, h2, h3, EVS]
 ·unfold Zn3
  cases ZT (fun _ p => ZgY n k p) 0 w.ins <;> simp only [EVS]
def ZeE (n : PNet) (k : Nat) (w : PWire) : Bool := match n.signals[k]? with | some s => decide (w.name = s.1) && (decide (w.kind = 1) == decide (s.2 = 1)) | none => false
def Zkw (n : PNet) (k : Nat) (w : PWire) : Bool :=
 let seen := decide ((k : Int) < (n.signals.length : Int))
 (inR w.kind 1 5 && (seen || decide (w.kind = 2) || decide (w.kind = 3))) && (!seen || ZeE n k w) && (if decide (w.kind = 5) = true then Zkv n.signals.length w.cover else !decide ((0 : Int) < w.cover.length)) && (Zaw w.name && Zn3 n k w)
theorem Zn5 (n : PNet) (k : Nat) (w : PWire) (hn : n.Fit) (hw : w.Fit) : Zec [Zam n, pI k, Zac w] = some (pB (Zkw n k w)) := by
 have g1 := Zn2 n.signals.length w.cover hw.cover hw.cubes
 have g2 := Zku w.name hw.name
 have g3 := Zn4 n k w hn hw
 have g4 := ZaW w.kind 1 5
 simp only [Zam, Zac] at g3
 show (fun x0 x1 x2 => Zec [x0, x1, x2]) _ _ _ = _
 rw [ZmY]
 simp only [Zam, Zac, g4, EVS]
 have fin : ∀ b : Bool, ((some (pB (Zaw w.name && b)))) = (some (pB (Zaw w.name && b))) := fun _ => rfl
 simp only [Zkw, inR]
 obtain c1 | c1 := (Bool.eq_false_or_eq_true (decide (1 ≤ w.kind) && decide (w.kind ≤ 5))).symm <;> simp only [c1, EVS]
 obtain c2 | c2 := (Bool.eq_false_or_eq_true (decide ((k : Int) < (n.signals.length : Int)))).symm <;> simp only [c2, EVS]
 ·obtain c3 | c3 := (Bool.eq_false_or_eq_true (decide (w.kind = 2))).symm <;> simp only [c3, EVS]
  ·obtain c4 | c4 := (Bool.eq_false_or_eq_true (decide (w.kind = 3))).symm <;> simp only [c4, EVS]
   have c5 : decide (w.kind = 5) = false := by have := of_decide_eq_true c4; simp; omega
   simp only [c5, EVS]
   obtain c6 | c6 := (Bool.eq_false_or_eq_true (decide ((0 : Int) < w.cover.length))).symm <;> simp only [c6, g2, EVS]
   obtain c7 | c7 := (Bool.eq_false_or_eq_true (Zaw w.name)).symm <;> simp only [c7, g3, EVS]
  ·have c4 : decide (w.kind = 3) = false := by have := of_decide_eq_true c3; simp; omega
   have c5 : decide (w.kind = 5) = false := by have := of_decide_eq_true c3; simp; omega
   simp only [c4, c5, EVS]
   obtain c6 | c6 := (Bool.eq_false_or_eq_true (decide ((0 : Int) < w.cover.length))).symm <;> simp only [c6, g2, EVS]
   obtain c7 | c7 := (Bool.eq_false_or_eq_true (Zaw w.name)).symm <;> simp only [c7, g3, EVS]
 ·have hk : k < n.signals.length := by have := of_decide_eq_true c2; omega
  have hs : n.signals[k]? = some n.signals[k] := List.getElem?_eq_getElem hk
  have hi : Zq (.lst (n.signals.map Z7)) (.int .i64 (k : Int)) = some (Z7 n.signals[k]) := Zo hs
  simp only [ZeE, hs, hi, Z7, List.drop_zero, List.drop_succ_cons, EVS]
  obtain c3 | c3 := (Bool.eq_false_or_eq_true (decide (w.name = n.signals[k].1))).symm <;> simp only [c3, hi, Z7, List.drop_zero, List.drop_succ_cons, EVS]
  obtain c4 | c4 := (Bool.eq_false_or_eq_true (decide (w.kind = 1) == decide (n.signals[k].2 = 1))).symm <;> simp only [bne, c4, hi, Z7, List.drop_zero, List.drop_succ_cons, EVS]
  obtain c5 | c5 := (Bool.eq_false_or_eq_true (decide (w.kind = 5))).symm <;> simp only [c5, g1, g2, EVS]
  ·obtain c6 | c6 := (Bool.eq_false_or_eq_true (decide ((0 : Int) < w.cover.length))).symm <;> simp only [c6, g2, EVS]
   obtain c7 | c7 := (Bool.eq_false_or_eq_true (Zaw w.name)).symm <;> simp only [c7, g3, EVS]
  ·obtain c6 | c6 := (Bool.eq_false_or_eq_true (Zkv n.signals.length w.cover)).symm <;> simp only [c5, c6, g2, EVS]
   obtain c7 | c7 := (Bool.eq_false_or_eq_true (Zaw w.name)).symm <;> simp only [c5, c7, g3, EVS]
def Zcb (n : PNet) (k : Nat) (w : PWire) : Bool := Zkw n k w && ZT (fun _ v => !decide (v.name = w.name)) 0 (n.wires.take k)
def ZfH (n : PNet) : Bool := ZgW n.signals && (!decide ((n.wires.length : Int) < n.signals.length) && !decide ((24 : Int) < n.wires.length)) && ZT (Zcb n) 0 n.wires
theorem Zkx (x : PWire) : Zb7 4 (Zac x) = true := rfl
theorem Zn6 (n : PNet) (hn : n.Fit) : Zed [Zam n] = some (pB (ZfH n)) := by
 have g1 := ZgX n.signals hn.signals hn.names
 have hwl := hn.wires
 unfold Zz at hwl
 show (fun x0 => Zed [x0]) _ = _
 rw [Zm0]
 simp only [Zam, g1, EVS]
 unfold ZfH
 obtain c1 | c1 := (Bool.eq_false_or_eq_true (ZgW n.signals)).symm <;> simp only [c1, EVS]
 obtain c2 | c2 := (Bool.eq_false_or_eq_true (decide ((n.wires.length : Int) < n.signals.length))).symm <;> simp only [c2, EVS]
 obtain c3 | c3 := (Bool.eq_false_or_eq_true (decide ((24 : Int) < n.wires.length))).symm <;> simp only [c3, EVS]
 refine (congrArg (Zh true) (Z5 (R := PV) n.wires (Zcb n) (some (pB false)) (some (pB true)) _ hwl (fun again k w hb => ?_) (fun again => ?_))).trans ?_
 ·have hk := Zi hb
  have hi : Zq (.lst (n.wires.map Zac)) (.int .i64 (k : Int)) = some (Zac w) := Zo hb
  have hc : Zjj 4 (.lst (n.wires.map Zac)) none (some (.int .i64 (k : Int))) = some (.lst ((n.wires.take k).map Zac)) := Zjy Zkx (by omega)
  have g3 := Zn5 n k w hn (hn.wire w (List.mem_of_getElem? hb))
  simp only [Zam, Zac] at g3
  simp only [Zap hk, Zn hk hwl, hi, Zac, Zcb, g3, EVS]
  obtain c4 | c4 := (Bool.eq_false_or_eq_true (Zkw n k w)).symm <;> simp only [c4, hc, EVS]
  refine (Z5 (R := PV) (n.wires.take k) (fun _ v => !decide (v.name = w.name)) (some (pB false)) (again [pI ((k + 1 : Nat) : Int)]) _ (by simp; omega) (fun again' j y hy => ?_) (fun again' => ?_)).trans ?_
  ·have hj := Zi hy
   have hi' : Zq (.lst ((n.wires.take k).map Zac)) (.int .i64 (j : Int)) = some (Zac y) := Zo hy
   simp only [Zap hj, Zn hj (by simp; omega), hi', Zac, EVS]
   obtain c5 | c5 := (Bool.eq_false_or_eq_true (decide (y.name = w.name))).symm <;> simp only [c5, EVS]
  ·simp only [ZaP, Zn hk hwl, EVS]
  ·rfl
 ·simp only [ZaP, EVS]
 ·cases ZT (Zcb n) 0 n.wires <;> simp only [EVS]
theorem Zat (n lo hi : Int) : Zag [pI n, pI lo, pI hi] = some (pB (inR n lo hi)) := by
 show (fun x0 x1 x2 => Zag [x0, x1, x2]) _ _ _ = _
 rw [ZoA]
 unfold inR
 by_cases h : lo ≤ n <;> simp only [h, EVS]
def ZiG (k : Nat) (b : UInt8) : Bool := (decide ((97 : Int) ≤ b.toNat) && decide ((b.toNat : Int) ≤ 122)) || (!decide ((k : Int) = 0) && (decide ((48 : Int) ≤ b.toNat) && decide ((b.toNat : Int) ≤ 57)))
def Zmz (s : List UInt8) : Bool := ZT ZiG 0 s && inR s.length 1 6
theorem Zpv (s : List UInt8) (hs : s.length ≤ 9223372036854775807) : Zc6 [.str s] = some (pB (Zmz s)) := by
 show (fun x0 => Zc6 [x0]) _ = _
 rw [ZoD]
 refine (congrArg (Zh true) (Z5 (R := PV) s ZiG (some (pB false)) (some (pB (inR s.length 1 6))) _ hs (fun again k b hb => ?_) (fun again => ?_))).trans ?_
 ·have hk := Zi hb
  simp only [ZiG, Zap hk, Zn hk hs, Zs hb, EVS]
  obtain c1 | c1 := (Bool.eq_false_or_eq_true (decide ((97 : Int) ≤ b.toNat))).symm <;> simp only [c1, Zs hb, EVS]
  all_goals (obtain c2 | c2 := (Bool.eq_false_or_eq_true (decide ((b.toNat : Int) ≤ 122))).symm <;> try simp only [c2, Zs hb, EVS])
  all_goals (obtain c3 | c3 := (Bool.eq_false_or_eq_true (decide ((48 : Int) ≤ b.toNat))).symm <;> try simp only [c3, Zs hb, EVS])
  all_goals (obtain c4 | c4 := (Bool.eq_false_or_eq_true (decide ((b.toNat : Int) ≤ 57))).symm <;> try simp only [c4, Zs hb, EVS])
  all_goals (obtain c5 | c5 := (Bool.eq_false_or_eq_true (decide ((k : Int) = 0))).symm <;> try simp only [c5, EVS])
 ·simp only [ZaP, Zat, EVS]
 ·unfold Zmz
  cases ZT ZiG 0 s <;> simp only [EVS]
theorem Zky : ∀ (l : List UInt8) (k : Nat), Zhh (k == 0) l = ZT ZiG k l
 | [], _ => rfl
 | b :: r, k => by
  have h := Zky r (k + 1)
  have h1 : (k + 1 == 0) = false := rfl
  rw [h1] at h
  unfold Zhh ZT
  rw [h]
  congr 1
  unfold ZsS ZiG
  have e1 : decide ((48 : Int) ≤ b.toNat) = !decide ((b.toNat : Int) < 48) := by rw [Bool.eq_iff_iff]; simp
  have e2 : decide ((b.toNat : Int) ≤ 57) = !decide ((57 : Int) < b.toNat) := by rw [Bool.eq_iff_iff]; simp
  have e3 : decide ((k : Int) = 0) = (k == 0) := by rw [Bool.eq_iff_iff]; simp
  rw [e1, e2, e3]
theorem Zts (s : List UInt8) : Zaw s = Zmz s := by
 unfold Zaw Zmz inR
 rw [← Zky s 0]
 rfl
theorem Zi8 (s : List UInt8) (hs : s.length ≤ 9223372036854775807) : Zc6 [.str s] = some (pB (Zaw s)) := (Zpv s hs).trans (by rw [Zts])
def Zeo (s : List UInt8) (n : Int) : Bool := ZT (fun _ b => Zi7 b) 0 s && (decide ((s.length : Int) = n) && inR n 1 8)
theorem Zpw (s : List UInt8) (n : Int) (hs : s.length ≤ 9223372036854775807) : Zfy [.str s, pI n] = some (pB (Zeo s n)) := by
 show (fun x0 x1 => Zfy [x0, x1]) _ _ = _
 rw [ZoF]
 refine (congrArg (Zh true) (Z5 (R := PV) s (fun _ b => Zi7 b) (some (pB false)) (some (pB (decide ((s.length : Int) = n) && inR n 1 8))) _ hs (fun again k b hb => ?_) (fun again => ?_))).trans ?_
 ·have hk := Zi hb
  simp only [Zi7, Zap hk, Zn hk hs, Zs hb, EVS]
  obtain c1 | c1 := (Bool.eq_false_or_eq_true (decide ((b.toNat : Int) = 48))).symm <;> simp only [c1, Zs hb, EVS]
  obtain c2 | c2 := (Bool.eq_false_or_eq_true (decide ((b.toNat : Int) = 49))).symm <;> simp only [c2, Zs hb, EVS]
  obtain c3 | c3 := (Bool.eq_false_or_eq_true (decide ((b.toNat : Int) = 45))).symm <;> simp only [c3, Zs hb, EVS]
 ·simp only [ZaP, EVS]
  obtain c1 | c1 := (Bool.eq_false_or_eq_true (decide ((s.length : Int) = n))).symm <;> simp only [c1, Zat, EVS]
 ·unfold Zeo
  cases ZT (fun _ b => Zi7 b) 0 s <;> simp only [EVS]
def ixf {α : Type} (q : α → Bool) : Nat → List α → Int
 | _, [] => -1
 | k, x :: r => if q x = true then (k : Int) else ixf q (k + 1) r
theorem ZqL {α : Type} (q : α → Bool) : ∀ (l : List α) (k : Nat), rgo (fun k x => if q x = true then some (some (pI (k : Int))) else none) (some (pI (-1))) k l = some (pI (ixf q k l))
 | [], k => rfl
 | x :: r, k => by
  unfold rgo ixf
  cases q x
  ·simp [ZqL q r (k + 1)]
  ·simp
theorem Zep {α : Type} (q : α → Bool) : ∀ (l : List α) (k : Nat), decide ((0 : Int) ≤ ixf q k l) = !ZT (fun _ x => !q x) k l
 | [], k => rfl
 | x :: r, k => by
  unfold ixf ZT
  cases q x
  ·simp [Zep q r (k + 1)]
  ·simp
theorem Zds {α : Type} (l : List α) (q : α → Bool) (f : (List PV → Option PV) → List PV → Option PV) (hl : l.length ≤ 9223372036854775807)
 (h1 : ∀ again k x, l[k]? = some x → f again [pI (Int.ofNat k)] = if q x = true then some (pI (k : Int)) else again [pI (Int.ofNat (k + 1))])
 (h2 : ∀ again, f again [pI (Int.ofNat l.length)] = some (pI (-1))) : ZD f 18446744073709551616 [pI (Int.ofNat 0)] = some (pI (ixf q 0 l)) := by
 rw [ZoY l (fun k x => if q x = true then some (some (pI (k : Int))) else none) (some (pI (-1))) f hl (fun again k x hx => ?_) h2, ZqL]
 rw [h1 again k x hx]
 cases q x <;> simp
theorem Zkz (l : List PV) : ZcJ 1 (.tup [.agg l]) = some [.agg l] := by simp [ZcJ, PV.parts, PV.isU]
theorem ZiH (a x : List UInt8 × Int) : Zce [Z7 a, Z7 x] = some (pB (decide (a.1 = x.1))) := by
 show (fun x0 x1 => Zce [x0, x1]) _ _ = _
 rw [Zim]
 simp only [Z7, List.drop_zero, EVS]
theorem Zbl (l : List (List UInt8 × Int)) (x : List UInt8 × Int) (hl : Zz l) : ZB [.lst (l.map Z7), .tup [Z7 x]] = some (pI (ixf (fun a => decide (a.1 = x.1)) 0 l)) := by
 show (fun x0 x1 => ZB [x0, x1]) _ _ = _
 rw [Zbj]
 unfold Zz at hl
 simp only [EVS]
 refine (congrArg (Zh true) (Zds l (fun a => decide (a.1 = x.1)) _ hl (fun again k a hb => ?_) (fun again => ?_))).trans ?_
 ·have hk := Zi hb
  have hi : Zq (.lst (l.map Z7)) (.int .i64 (k : Int)) = some (Z7 a) := Zo hb
  have g := ZiH a x
  simp only [Z7] at g
  simp only [Zap hk, Zn hk hl, hi, Z7, Zkz, List.cons_append, List.nil_append, g, EVS]
 ·simp only [ZaP, EVS]
  rfl
 ·simp only [EVS]
theorem Za4 (l : List (List UInt8 × Int)) (x : List UInt8 × Int) (hl : Zz l) : Zw [.lst (l.map Z7), .tup [Z7 x]] = some (pB (!ZT (fun _ a => !decide (a.1 = x.1)) 0 l)) := by
 show (fun x0 x1 => Zw [x0, x1]) _ _ = _
 rw [Za2]
 simp only [Zbl l x hl, Zep (fun a : List UInt8 × Int => decide (a.1 = x.1)) l 0, EVS]
theorem Zlh (p : Int × Bool) (n : Nat) (hn : n ≤ 9223372036854775807) : Zde [Zas p, .agg [pI n]] = some (pB (!inR p.1 0 ((n : Int) - 1))) := by
 have hwl : IntKind.i64.wrap ((n : Int) - 1) = (n : Int) - 1 := Zda (by omega) (by omega)
 show (fun x0 x1 => Zde [x0, x1]) _ _ = _
 rw [ZkY]
 simp only [Zas, hwl, Zat, EVS]
theorem Zcc (l : List (Int × Bool)) (n : Nat) (hn : n ≤ 9223372036854775807) (hl : Zz l) : ZQ [.lst (l.map Zas), .tup [.agg [pI n]]] = some (pI (ixf (fun p => !inR p.1 0 ((n : Int) - 1)) 0 l)) := by
 show (fun x0 x1 => ZQ [x0, x1]) _ _ = _
 rw [Zb2]
 unfold Zz at hl
 simp only [EVS]
 refine (congrArg (Zh true) (Zds l (fun p => !inR p.1 0 ((n : Int) - 1)) _ hl (fun again k a hb => ?_) (fun again => ?_))).trans ?_
 ·have hk := Zi hb
  have hi : Zq (.lst (l.map Zas)) (.int .i64 (k : Int)) = some (Zas a) := Zo hb
  have g := Zlh a n hn
  simp only [Zas] at g
  simp only [Zap hk, Zn hk hl, hi, Zas, Zkz, List.cons_append, List.nil_append, g, EVS]
 ·simp only [ZaP, EVS]
  rfl
 ·simp only [EVS]
def Zcj (l : List (Int × Bool)) (n : Nat) : Bool := ZT (fun _ p => inR p.1 0 ((n : Int) - 1)) 0 l
theorem Zi9 (l : List (Int × Bool)) (n : Nat) (hn : n ≤ 9223372036854775807) (hl : Zz l) : Zdl [.lst (l.map Zas), pI n] = some (pB (Zcj l n)) := by
 have g : ZI [.lst (l.map Zas), .tup [.agg [pI n]]] = some (pB (!ZT (fun _ p => inR p.1 0 ((n : Int) - 1)) 0 l)) := by
  show (fun x0 x1 => ZI [x0, x1]) _ _ = _
  rw [ZbG]
  simp only [Zcc l n hn hl, Zep (fun p : Int × Bool => !inR p.1 0 ((n : Int) - 1)) l 0, Bool.not_not, EVS]
 show (fun x0 x1 => Zdl [x0, x1]) _ _ = _
 rw [Zm6]
 have lt : ∀ {R : Type} (l : List PV) (x : Option R), Za [.tup l] x = x := fun l x => (Eq.refl _).trans (Eq.refl _)
 simp only [lt, g, List.drop_zero, Bool.not_not, Zcj, EVS]
theorem ZmA (w : PWire) (x : List UInt8) : ZdB [Zac w, .agg [.str x]] = some (pB (decide (w.name = x))) := by
 show (fun x0 x1 => ZdB [x0, x1]) _ _ = _
 rw [ZlC]
 simp only [Zac, List.drop_zero, EVS]
theorem Zpx (l : List PWire) (x : List UInt8) (hl : Zz l) : Zfw [.lst (l.map Zac), .str x] = some (pI (ixf (fun w : PWire => decide (w.name = x)) 0 l)) := by
 unfold Zz at hl
 have g : ZR [.lst (l.map Zac), .tup [.agg [.str x]]] = some (pI (ixf (fun w : PWire => decide (w.name = x)) 0 l)) := by
  show (fun x0 x1 => ZR [x0, x1]) _ _ = _
  rw [Zb4]
  simp only [EVS]
  refine (congrArg (Zh true) (Zds l (fun w : PWire => decide (w.name = x)) _ hl (fun again k a hb => ?_) (fun again => ?_))).trans ?_
  ·have hk := Zi hb
   have hi : Zq (.lst (l.map Zac)) (.int .i64 (k : Int)) = some (Zac a) := Zo hb
   have g := ZmA a x
   simp only [Zac] at g
   simp only [Zap hk, Zn hk hl, hi, Zac, Zkz, List.cons_append, List.nil_append, g, EVS]
  ·simp only [ZaP, EVS]
   rfl
  ·simp only [EVS]
 show (fun x0 x1 => Zfw [x0, x1]) _ _ = _
 rw [ZoC]
 have lt : ∀ {R : Type} (l : List PV) (x : Option R), Za [.tup l] x = x := fun l x => (Eq.refl _).trans (Eq.refl _)
 simp only [lt, g, List.drop_zero, Bool.not_not, EVS]
theorem Zhi (c : List UInt8) (n : Int) (hc : Zz c) : ZbA [.str c, .agg [pI n]] = some (pB (!Zeo c n)) := by
 show (fun x0 x1 => ZbA [x0, x1]) _ _ = _
 rw [ZgP]
 simp only [Zpw c n hc, EVS]
theorem Za8 (l : List (List UInt8)) (n : Int) (hl : Zz l) (hc : ∀ c ∈ l, Zz c) : Zx [.lst (l.map PV.str), .tup [.agg [pI n]]] = some (pI (ixf (fun c : List UInt8 => !Zeo c n) 0 l)) := by
 unfold Zz at hl
 show (fun x0 x1 => Zx [x0, x1]) _ _ = _
 rw [Za7]
 simp only [EVS]
 refine (congrArg (Zh true) (Zds l (fun c : List UInt8 => !Zeo c n) _ hl (fun again k a hb => ?_) (fun again => ?_))).trans ?_
 ·have hk := Zi hb
  have hi : Zq (.lst (l.map PV.str)) (.int .i64 (k : Int)) = some (.str a) := Zo hb
  have g := Zhi a n (hc a (List.mem_of_getElem? hb))
  simp only [Zap hk, Zn hk hl, hi, Zkz, List.cons_append, List.nil_append, g, EVS]
 ·simp only [ZaP, EVS]
  rfl
 ·simp only [EVS]
theorem eqPin (a c : Int) (b d : Bool) : eqV (some [(0, TD.int .i64), (1, TD.bool)]) .struct (.agg [pI a, pB b]) (.agg [pI c, pB d]) = some (decide (a = c) && (b == d)) := by
 simp [eqV, ZjX, scEq, Zei]
theorem Ztt : ZC.bool.pv = pB false := (Eq.refl _).trans (Eq.refl _)
theorem sp12 (a b c : PV) : splice [a, b] 0 [c] = [c, b] := (Eq.refl _).trans (Eq.refl _)
def Zeq (n : Int) (l : List (List UInt8)) : Bool := (inR n 1 8 && decide ((l.length : Int) ≤ 60)) && ZT (fun _ c => Zeo c n) 0 l
def ZdM (n : PNet) (k : Nat) (w : PWire) : Bool :=
 if decide (w.kind = 1) = true then decide ((w.ins.length : Int) = 0)
 else if (decide (w.kind = 2) || decide (w.kind = 3)) = true then inR w.ins.length 1 8
 else if decide (w.kind = 4) = true then decide ((w.ins.length : Int) = 2)
 else if decide (w.kind = 5) = true then Zeq n.signals.length w.cover && (decide ((w.ins.length : Int) = 0) || (match w.ins with | [p] => decide (p.1 = (k : Int)) && (p.2 == false) | _ => false))
 else false
def Zn7 (n : PNet) (k : Nat) (w : PWire) : Bool := !((!decide (w.kind = 5) && decide ((0 : Int) < w.cover.length)) || !Zcj w.ins n.wires.length) && ZdM n k w
theorem Zpy (h160 : ∀ (n : Int) (l : List (List UInt8)), Zz l → (∀ c ∈ l, Zz c) → Zbh [pI n, .lst (l.map PV.str)] = some (pB (Zeq n l))) (n : PNet) (k : Nat) (w : PWire) (hn : n.Fit) (hk : n.wires[k]? = some w) : Zfz [Zam n, pI k] = some (pB (Zn7 n k w)) := by
 have hw := hn.wire w (List.mem_of_getElem? hk)
 have g1 := h160 n.signals.length w.cover hw.cover hw.cubes
 have hwl := hn.wires
 unfold Zz at hwl
 have g2 := Zi9 w.ins n.wires.length hwl hw.ins
 have hi : Zq (.lst (n.wires.map Zac)) (.int .i64 (k : Int)) = some (Zac w) := Zo hk
 show (fun x0 x1 => Zfz [x0, x1]) _ _ = _
 rw [ZoH]
 simp only [Zam, hi, Zac, EVS]
 unfold Zn7
 obtain c1 | c1 := (Bool.eq_false_or_eq_true (!decide (w.kind = 5))).symm <;> simp only [c1, g2, EVS]
 ·obtain c2 | c2 := (Bool.eq_false_or_eq_true (Zcj w.ins n.wires.length)).symm <;> simp only [c1, c2, g2, EVS]
  have c5 : decide (w.kind = 5) = true := by simpa using c1
  have e1 : decide (w.kind = 1) = false := by have := of_decide_eq_true c5; simp; omega
  have e2 : decide (w.kind = 2) = false := by have := of_decide_eq_true c5; simp; omega
  have e3 : decide (w.kind = 3) = false := by have := of_decide_eq_true c5; simp; omega
  have e4 : decide (w.kind = 4) = false := by have := of_decide_eq_true c5; simp; omega
  simp only [Zdh, ZdM, e1, e2, e3, e4, c5, g1, EVS]
  obtain c3 | c3 := (Bool.eq_false_or_eq_true (Zeq n.signals.length w.cover)).symm <;> simp only [c3, EVS]
  have h01 : decide ((0 : Int) = 1) = false := rfl
  have h00 : decide ((0 : Int) = 0) = true := rfl
  have h11 : decide ((1 : Int) = 1) = true := rfl
  have h10 : decide ((1 : Int) = 0) = false := rfl
  rcases hq : w.ins with _ | ⟨p, _ | ⟨q, r⟩⟩
  ·simp only [List.length_nil, h00, EVS]
  ·have hi : Zq (.lst ([p].map Zas)) (.int .i64 0) = some (Zas p) := rfl
   simp only [List.length_cons, List.length_nil, Nat.zero_add, h11, h10, hi, Zas, Ztt, sp12, eqPin, List.drop_zero, List.drop_succ_cons, EVS]
  ·have h2 : decide (((r.length + 1 + 1 : Nat) : Int) = 0) = false := by simp; omega
   have h3 : decide (((r.length + 1 + 1 : Nat) : Int) = 1) = false := by simp; omega
   simp only [List.length_cons, h2, h3, EVS]
 ·have c5 : decide (w.kind = 5) = false := by simpa using c1
  obtain c2 | c2 := (Bool.eq_false_or_eq_true (decide ((0 : Int) < w.cover.length))).symm <;> simp only [c1, c2, g2, EVS]
  obtain c3 | c3 := (Bool.eq_false_or_eq_true (Zcj w.ins n.wires.length)).symm <;> simp only [c3, EVS]
  simp only [Zdh, ZdM, c5, EVS]
  obtain e1 | e1 := (Bool.eq_false_or_eq_true (decide (w.kind = 1))).symm <;> simp only [e1, EVS]
  obtain e2 | e2 := (Bool.eq_false_or_eq_true (decide (w.kind = 2))).symm <;> simp only [e2, Zat, EVS]
  obtain e3 | e3 := (Bool.eq_false_or_eq_true (decide (w.kind = 3))).symm <;> simp only [e3, Zat, EVS]
  obtain e4 | e4 := (Bool.eq_false_or_eq_true (decide (w.kind = 4))).symm <;> simp only [e4, EVS]
theorem ZiI (n : Int) (l : List (List UInt8)) (hl : Zz l) (hc : ∀ c ∈ l, Zz c) : Zbh [pI n, .lst (l.map PV.str)] = some (pB (Zeq n l)) := by
 have g : Zt [.lst (l.map PV.str), .tup [.agg [pI n]]] = some (pB (!ZT (fun _ c => Zeo c n) 0 l)) := by
  show (fun x0 x1 => Zt [x0, x1]) _ _ = _
  rw [ZaR]
  simp only [Za8 l n hl hc, Zep (fun c : List UInt8 => !Zeo c n) l 0, Bool.not_not, EVS]
 show (fun x0 x1 => Zbh [x0, x1]) _ _ = _
 rw [Zik]
 simp only [Zat, ZfR, List.drop_zero, Zeq, EVS]
 obtain c1 | c1 := (Bool.eq_false_or_eq_true (inR n 1 8)).symm <;> simp only [c1, EVS]
 obtain c2 | c2 := (Bool.eq_false_or_eq_true (decide ((l.length : Int) ≤ 60))).symm <;> simp only [c2, ZfR, g, Bool.not_not, EVS]
def ZiJ (l : List (List UInt8 × Int)) (k : Nat) (s : List UInt8 × Int) : Bool := (Zaw s.1 && inR s.2 1 3) && ZT (fun _ a => !decide (a.1 = s.1)) 0 (l.take k)
def ZlS (l : List (List UInt8 × Int)) : Bool := ZT (ZiJ l) 0 l && inR l.length 1 8
theorem Zf5 (l : List (List UInt8 × Int)) (hl : Zz l) (hs : ∀ s ∈ l, Zz s.1) : ZbZ [.lst (l.map Z7)] = some (pB (ZlS l)) := by
 unfold Zz at hl
 show (fun x0 => ZbZ [x0]) _ = _
 rw [Zjp]
 simp only [EVS]
 refine (congrArg (Zh true) (Z5 (R := PV) l (ZiJ l) (some (pB false)) (some (pB (inR l.length 1 8))) _ hl (fun again k s hb => ?_) (fun again => ?_))).trans ?_
 ·have hk := Zi hb
  have hi : Zq (.lst (l.map Z7)) (.int .i64 (k : Int)) = some (Z7 s) := Zo hb
  have hc : Zjj 2 (.lst (l.map Z7)) none (some (.int .i64 (k : Int))) = some (.lst ((l.take k).map Z7)) := Zjy ZlR (by omega)
  have hn := Zi8 s.1 (hs s (List.mem_of_getElem? hb))
  have g := Za4 (l.take k) s (by show (l.take k).length ≤ _; simp; omega)
  simp only [Z7] at g
  simp only [Zap hk, Zn hk hl, hi, Z7, hn, ZiJ, EVS]
  obtain c1 | c1 := (Bool.eq_false_or_eq_true (Zaw s.1)).symm <;> simp only [c1, Zat, EVS]
  obtain c2 | c2 := (Bool.eq_false_or_eq_true (inR s.2 1 3)).symm <;> simp only [c2, EVS]
  simp only [hc, List.drop_zero, ZfR, g, EVS]
  obtain c3 | c3 := (Bool.eq_false_or_eq_true (ZT (fun _ (a : List UInt8 × Int) => !decide (a.1 = s.1)) 0 (l.take k))).symm <;> simp only [c3, EVS]
 ·simp only [ZaP, Zat, EVS]
 ·unfold ZlS
  cases ZT (ZiJ l) 0 l <;> simp only [EVS]
def ZdN (n : PNet) (k : Nat) (w : PWire) : Bool :=
 (Zn7 n k w && Zaw w.name && ZT (fun _ v => !decide (v.name = w.name)) 0 (n.wires.take k)) &&
 (if decide ((k : Int) < (n.signals.length : Int)) = true then ZeE n k w else (decide (w.kind = 2) || decide (w.kind = 3)) && Zcj w.ins k)
def netI (n : PNet) : Bool := (ZlS n.signals && inR n.wires.length n.signals.length 24) && ZT (ZdN n) 0 n.wires
theorem Zhj (n : PNet) (hn : n.Fit) : Zbt [Zam n] = some (pB (netI n)) := by
 have g1 := Zf5 n.signals hn.signals hn.names
 have hwl := hn.wires
 unfold Zz at hwl
 show (fun x0 => Zbt [x0]) _ = _
 rw [ZgL]
 simp only [Zam, g1, EVS]
 unfold netI
 obtain c1 | c1 := (Bool.eq_false_or_eq_true (ZlS n.signals)).symm <;> simp only [c1, Zat, EVS]
 obtain c2 | c2 := (Bool.eq_false_or_eq_true (inR n.wires.length n.signals.length 24)).symm <;> simp only [c2, EVS]
 refine (congrArg (Zh true) (Z5 (R := PV) n.wires (ZdN n) (some (pB false)) (some (pB true)) _ hwl (fun again k w hb => ?_) (fun again => ?_))).trans ?_
 ·have hk := Zi hb
  have hw := hn.wire w (List.mem_of_getElem? hb)
  have hi : Zq (.lst (n.wires.map Zac)) (.int .i64 (k : Int)) = some (Zac w) := Zo hb
  have hc : Zjj 4 (.lst (n.wires.map Zac)) none (some (.int .i64 (k : Int))) = some (.lst ((n.wires.take k).map Zac)) := Zjy Zkx (by omega)
  have g2 := Zpy ZiI n k w hn hb
  have g3 := Zi8 w.name hw.name
  have g4 := Zpx (n.wires.take k) w.name (by show (n.wires.take k).length ≤ _; simp; omega)
  have g5 := Zi9 w.ins k (by omega) hw.ins
  simp only [Zam] at g2
  simp only [Zap hk, Zn hk hwl, hi, Zac, ZdN, g2, EVS]
  obtain c1 | c1 := (Bool.eq_false_or_eq_true (Zn7 n k w)).symm <;> simp only [c1, g3, EVS]
  obtain c2 | c2 := (Bool.eq_false_or_eq_true (Zaw w.name)).symm <;> simp only [c2, hc, g4, EVS]
  simp only [Zep (fun v : PWire => decide (v.name = w.name)) (n.wires.take k) 0]
  obtain c3 | c3 := (Bool.eq_false_or_eq_true (ZT (fun _ (v : PWire) => !decide (v.name = w.name)) 0 (n.wires.take k))).symm <;> simp only [c3, Zdh, EVS]
  obtain c4 | c4 := (Bool.eq_false_or_eq_true (decide ((k : Int) < (n.signals.length : Int)))).symm <;> simp only [c4, EVS]
  ·obtain c5 | c5 := (Bool.eq_false_or_eq_true (decide (w.kind = 2))).symm <;> simp only [c5, g5, EVS]
   ·obtain c6 | c6 := (Bool.eq_false_or_eq_true (decide (w.kind = 3))).symm <;> simp only [c6, g5, EVS]
    obtain c7 | c7 := (Bool.eq_false_or_eq_true (Zcj w.ins k)).symm <;> simp only [c7, Zn hk hwl, EVS]
   ·obtain c7 | c7 := (Bool.eq_false_or_eq_true (Zcj w.ins k)).symm <;> simp only [c7, Zn hk hwl, EVS]
  ·have hks : k < n.signals.length := by have := of_decide_eq_true c4; omega
   have hs : n.signals[k]? = some n.signals[k] := List.getElem?_eq_getElem hks
   have hi2 : Zq (.lst (n.signals.map Z7)) (.int .i64 (k : Int)) = some (Z7 n.signals[k]) := Zo hs
   simp only [ZeE, hs, hi2, Z7, List.drop_zero, List.drop_succ_cons, EVS]
   obtain c5 | c5 := (Bool.eq_false_or_eq_true (decide (w.name = n.signals[k].1))).symm <;> simp only [c5, hi2, Z7, List.drop_zero, List.drop_succ_cons, EVS]
   obtain c6 | c6 := (Bool.eq_false_or_eq_true (decide (w.kind = 1) == decide (n.signals[k].2 = 1))).symm <;> simp only [bne, c6, Zn hk hwl, EVS]
 ·simp only [ZaP, EVS]
 ·cases ZT (ZdN n) 0 n.wires <;> simp only [EVS]
theorem Zau {α : Type} (q : α → Bool) : ∀ (l : List α) (k : Nat), ZT (fun _ x => q x) k l = l.all q
 | [], _ => rfl
 | x :: r, k => by unfold ZT; rw [Zau q r (k + 1), List.all_cons]
theorem Zc4 {α : Type} (f g : Nat → α → Bool) (h : ∀ k x, f k x = g k x) : ∀ (l : List α) (k : Nat), ZT f k l = ZT g k l
 | [], _ => rfl
 | x :: r, k => by unfold ZT; rw [h k x, Zc4 f g h r (k + 1)]
theorem ZqM (l : List (List UInt8 × Int)) : ZgW l = ZlS l := by
 unfold ZgW ZlS
 rw [Zc4 (ZlQ l) (ZiJ l) (fun k x => ?_) l 0]
 unfold ZlQ ZiJ
 rw [Zc4 (fun _ (y : List UInt8 × Int) => !decide (x.1 = y.1)) (fun _ (y : List UInt8 × Int) => !decide (y.1 = x.1)) (fun _ y => by simp [eq_comm]) _ 0]
theorem ZsT (n : Int) (l : List (List UInt8)) : Zkv n l = Zeq n l := by
 unfold Zkv Zeq ZjH
 rw [Bool.and_comm, Bool.eq_iff_iff]
 simp only [Bool.and_eq_true]
 refine and_congr_right fun h => ?_
 rw [Zc4 (fun _ c => Zh6 c && decide ((c.length : Int) = n)) (fun _ c => Zeo c n) (fun _ c => ?_) l 0]
 unfold Zh6 Zeo inR
 rw [Bool.eq_iff_iff]
 simp only [Bool.and_eq_true, decide_eq_true_eq]
 constructor
 ·rintro ⟨⟨h1, h2, h3⟩, h4⟩
  exact ⟨h1, h4, by omega, by omega⟩
 ·rintro ⟨h1, h2, h3, h4⟩
  exact ⟨⟨h1, by omega, by omega⟩, h2⟩
theorem Zru (n : PNet) (k : Nat) (l : List (Int × Bool)) (h : k < n.signals.length) : ZT (fun _ p => ZgY n k p) 0 l = Zcj l n.wires.length := by
 unfold Zcj
 refine Zc4 _ _ (fun _ p => ?_) l 0
 unfold ZgY
 have : decide ((n.signals.length : Int) ≤ k) = false := by simp; omega
 rw [this]
 simp
theorem Zrv (n : PNet) (k : Nat) (l : List (Int × Bool)) (h : ¬ k < n.signals.length) : ZT (fun _ p => ZgY n k p) 0 l = (Zcj l n.wires.length && Zcj l k) := by
 unfold Zcj
 rw [Zau, Zau, Zau, Bool.eq_iff_iff]
 have : decide ((n.signals.length : Int) ≤ k) = true := by simp; omega
 simp only [Bool.and_eq_true, List.all_eq_true, ZgY, inR, this, Bool.true_and, Bool.not_eq_true', decide_eq_true_eq, decide_eq_false_iff_not]
 constructor
 ·intro h
  exact ⟨fun p hp => (h p hp).1, fun p hp => ⟨(h p hp).1.1, by have := (h p hp).2; omega⟩⟩
 ·rintro ⟨h1, h2⟩ p hp
  exact ⟨h1 p hp, by have := (h2 p hp).2; omega⟩
theorem Ztv (n : PNet) (k : Nat) (w : PWire) : (inR w.kind 1 5 && ((if decide (w.kind = 5) = true then Zeq n.signals.length w.cover else !decide ((0 : Int) < w.cover.length)) && Zd4 k w.kind w.ins)) = (!(!decide (w.kind = 5) && decide ((0 : Int) < w.cover.length)) && ZdM n k w) := by
 unfold Zd4 ZdM
 by_cases h1 : w.kind = 1
 ·simp [h1, inR]
 by_cases h2 : w.kind = 2
 ·simp [h2, inR]
 by_cases h3 : w.kind = 3
 ·simp [h3, inR]
 by_cases h4 : w.kind = 4
 ·simp [h4, inR]
 by_cases h5 : w.kind = 5
 ·obtain ⟨nm, kd, ins, cov⟩ := w
  simp only at h5
  rcases ins with _ | ⟨p, _ | ⟨q, r⟩⟩ <;> simp [h5, inR]
 ·have : inR w.kind 1 5 = false := by
   unfold inR
   simp only [Bool.and_eq_false_iff, decide_eq_false_iff_not]
   omega
  simp [this, h1, h2, h3, h4, h5]
theorem Ztw (n : PNet) (k : Nat) (w : PWire) : Zcb n k w = ZdN n k w := by
 unfold Zcb ZdN Zkw Zn7 Zn3
 have hf := Ztv n k w
 rw [ZsT]
 by_cases hk : k < n.signals.length
 ·have hd : decide ((k : Int) < (n.signals.length : Int)) = true := by simpa using hk
  rw [Zru n k w.ins hk]
  simp only [hd, if_true, Bool.true_or, Bool.not_true, Bool.false_or, Bool.not_false, Bool.false_eq_true, if_false, Bool.true_and]
  revert hf
  generalize inR w.kind 1 5 = a1
  generalize (if decide (w.kind = 5) = true then Zeq (↑n.signals.length) w.cover else !decide ((0 : Int) < ↑w.cover.length)) = a2
  generalize Zd4 k w.kind w.ins = a3
  generalize (!decide (w.kind = 5) && decide ((0 : Int) < w.cover.length)) = a4
  generalize ZdM n k w = a5
  generalize Zcj w.ins n.wires.length = a6
  generalize ZeE n k w = a7
  generalize Zaw w.name = a8
  generalize ZT (fun _ (v : PWire) => !decide (v.name = w.name)) 0 (n.wires.take k) = a9
  cases a1 <;> cases a2 <;> cases a3 <;> cases a4 <;> cases a5 <;> cases a6 <;> cases a7 <;> cases a8 <;> cases a9 <;> decide
 ·have hd : decide ((k : Int) < (n.signals.length : Int)) = false := by simpa using hk
  rw [Zrv n k w.ins hk]
  simp only [hd, if_true, Bool.true_or, Bool.not_true, Bool.false_or, Bool.not_false, Bool.false_eq_true, if_false, Bool.true_and]
  revert hf
  generalize inR w.kind 1 5 = a1
  generalize (if decide (w.kind = 5) = true then Zeq (↑n.signals.length) w.cover else !decide ((0 : Int) < ↑w.cover.length)) = a2
  generalize Zd4 k w.kind w.ins = a3
  generalize (!decide (w.kind = 5) && decide ((0 : Int) < w.cover.length)) = a4
  generalize ZdM n k w = a5
  generalize Zcj w.ins n.wires.length = a6
  generalize Zaw w.name = a8
  generalize Zcj w.ins k = a7
  generalize decide (w.kind = 2) = b2
  generalize decide (w.kind = 3) = b3
  generalize ZT (fun _ (v : PWire) => !decide (v.name = w.name)) 0 (n.wires.take k) = a9
  cases a1 <;> cases a2 <;> cases a3 <;> cases a4 <;> cases a5 <;> cases a6 <;> cases a7 <;> cases a8 <;> cases a9 <;> cases b2 <;> cases b3 <;> decide
theorem net_eq (n : PNet) : ZfH n = netI n := by
 unfold ZfH netI
 rw [ZqM, Zc4 (Zcb n) (ZdN n) (fun k x => Ztw n k x) n.wires 0]
 congr 2
 unfold inR
 rw [Bool.eq_iff_iff]
 simp
def Zh7 (b : UInt8) : Bool := decide ((b.toNat : Int) = 48) || decide ((b.toNat : Int) = 49)
def Zax (s : List UInt8) (n : Int) : Bool := ZT (fun _ b => Zh7 b) 0 s && decide ((s.length : Int) = n)
theorem ZkA (s : List UInt8) (n : Int) (hs : Zz s) : ZdR [.str s, pI n] = some (pB (Zax s n)) := by
 unfold Zz at hs
 show (fun x0 x1 => ZdR [x0, x1]) _ _ = _
 rw [Zop]
 refine (congrArg (Zh true) (Z5 (R := PV) s (fun _ b => Zh7 b) (some (pB false)) (some (pB (decide ((s.length : Int) = n)))) _ hs (fun again k b hb => ?_) (fun again => ?_))).trans ?_
 ·have hk := Zi hb
  simp only [Zh7, Zap hk, Zn hk hs, Zs hb, EVS]
  obtain c1 | c1 := (Bool.eq_false_or_eq_true (decide ((b.toNat : Int) = 48))).symm <;> simp only [c1, Zs hb, EVS]
  obtain c2 | c2 := (Bool.eq_false_or_eq_true (decide ((b.toNat : Int) = 49))).symm <;> simp only [c2, Zs hb, EVS]
 ·simp only [ZaP, EVS]
 ·unfold Zax
  cases ZT (fun _ b => Zh7 b) 0 s <;> simp only [EVS]
theorem ZkB (s : List UInt8) (n : Int) (hs : Zz s) : ZdO [.str s, pI n] = some (pB (Zax s n)) := by
 unfold Zz at hs
 show (fun x0 x1 => ZdO [x0, x1]) _ _ = _
 rw [Zon]
 refine (congrArg (Zh true) (Z5 (R := PV) s (fun _ b => Zh7 b) (some (pB false)) (some (pB (decide ((s.length : Int) = n)))) _ hs (fun again k b hb => ?_) (fun again => ?_))).trans ?_
 ·have hk := Zi hb
  simp only [Zh7, Zap hk, Zn hk hs, Zs hb, EVS]
  obtain c1 | c1 := (Bool.eq_false_or_eq_true (decide ((b.toNat : Int) = 48))).symm <;> simp only [c1, Zs hb, EVS]
  obtain c2 | c2 := (Bool.eq_false_or_eq_true (decide ((b.toNat : Int) = 49))).symm <;> simp only [c2, Zs hb, EVS]
 ·simp only [ZaP, EVS]
 ·unfold Zax
  cases ZT (fun _ b => Zh7 b) 0 s <;> simp only [EVS]
def Ze0 (n : PNet) (s : List UInt8) : Bool := ZfH n && Zax s n.wires.length
def ZcI (p : Int × Bool) (s : List UInt8) : Bool := match s[p.1.toNat]? with | some b => decide ((b.toNat : Int) = 49) != p.2 | none => false
theorem ZsU {p : Int × Bool} {s : List UInt8} (h0 : 0 ≤ p.1) (h1 : p.1 < s.length) : ∃ b : UInt8, s[p.1.toNat]? = some b ∧ Zai (.str s) (pI p.1) = some (pU b) := by
 have h2 : p.1.toNat < s.length := by omega
 refine ⟨s[p.1.toNat], List.getElem?_eq_getElem h2, ?_⟩
 have := Zs (k := .i64) (List.getElem?_eq_getElem h2)
 rw [Int.toNat_of_nonneg h0] at this
 exact this
theorem Zhk (p : Int × Bool) (s : List UInt8) (h0 : 0 ≤ p.1) (h1 : p.1 < s.length) : Zc5 [Zas p, .str s] = some (pB (ZcI p s)) := by
 obtain ⟨b, hb, hv⟩ := ZsU h0 h1
 show (fun x0 x1 => Zc5 [x0, x1]) _ _ = _
 rw [Zov]
 simp only [Zas, hv, ZcI, hb, bne, EVS]
theorem Zdt (p : Int × Bool) (s : List UInt8) (h0 : 0 ≤ p.1) (h1 : p.1 < s.length) : Zbv [Zas p, .str s] = some (pB (ZcI p s)) := by
 obtain ⟨b, hb, hv⟩ := ZsU h0 h1
 show (fun x0 x1 => Zbv [x0, x1]) _ _ = _
 rw [Zlu]
 simp only [Zas, hv, ZcI, hb, bne, EVS]
def Zpz (code : List UInt8) (k : Nat) (b : UInt8) : Bool := decide ((b.toNat : Int) = 45) || (match code[k]? with | some c => decide ((b.toNat : Int) = c.toNat) | none => false)
def Zjm (cube code : List UInt8) : Bool := ZT (Zpz code) 0 cube
theorem ZpA (cube code : List UInt8) (hs : Zz cube) (hl : cube.length ≤ code.length) : Zfq [.str cube, .str code] = some (pB (Zjm cube code)) := by
 unfold Zz at hs
 show (fun x0 x1 => Zfq [x0, x1]) _ _ = _
 rw [Zox]
 refine (congrArg (Zh true) (Z5 (R := PV) cube (Zpz code) (some (pB false)) (some (pB true)) _ hs (fun again k b hb => ?_) (fun again => ?_))).trans ?_
 ·have hk := Zi hb
  have hc : code[k]? = some code[k] := List.getElem?_eq_getElem (by omega)
  simp only [Zpz, hc, Zap hk, Zn hk hs, Zs hb, Zs hc, EVS]
  obtain c1 | c1 := (Bool.eq_false_or_eq_true (decide ((b.toNat : Int) = 45))).symm <;> simp only [c1, Zs hb, Zs hc, EVS]
  obtain c2 | c2 := (Bool.eq_false_or_eq_true (decide ((b.toNat : Int) = (code[k].toNat : Int)))).symm <;> simp only [c2, EVS]
 ·simp only [ZaP, EVS]
 ·unfold Zjm
  cases ZT (Zpz code) 0 cube <;> simp only [EVS]
theorem ZmB (cube code : List UInt8) (hs : Zz cube) (hl : cube.length ≤ code.length) : Zdy [.str cube, .str code] = some (pB (Zjm cube code)) := by
 unfold Zz at hs
 show (fun x0 x1 => Zdy [x0, x1]) _ _ = _
 rw [Zlw]
 simp only [EVS]
 refine (congrArg (Zh true) (Z5 (R := PV) cube (Zpz code) (some (pB false)) (some (pB true)) _ hs (fun again k b hb => ?_) (fun again => ?_))).trans ?_
 ·have hk := Zi hb
  have hc : code[k]? = some code[k] := List.getElem?_eq_getElem (by omega)
  simp only [Zpz, hc, Zap hk, Zn hk hs, Zs hb, Zs hc, EVS]
  obtain c1 | c1 := (Bool.eq_false_or_eq_true (decide ((b.toNat : Int) = 45))).symm <;> simp only [c1, Zs hb, Zs hc, EVS]
  obtain c2 | c2 := (Bool.eq_false_or_eq_true (decide ((b.toNat : Int) = (code[k].toNat : Int)))).symm <;> simp only [c2, EVS]
 ·simp only [ZaP, EVS]
 ·unfold Zjm
  cases ZT (Zpz code) 0 cube <;> simp only [EVS]
def inP (l : List (List UInt8)) (code : List UInt8) : Bool := !ZT (fun _ c => !Zjm c code) 0 l
theorem Zrw (l : List (List UInt8)) (code : List UInt8) (hl : Zz l) (hc : ∀ c ∈ l, Zz c ∧ c.length ≤ code.length) : ZgG [.lst (l.map PV.str), .str code] = some (pB (inP l code)) := by
 unfold Zz at hl
 show (fun x0 x1 => ZgG [x0, x1]) _ _ = _
 rw [Zp3]
 simp only [EVS]
 refine (congrArg (Zh true) (Z5 (R := PV) l (fun _ c => !Zjm c code) (some (pB true)) (some (pB false)) _ hl (fun again k s hb => ?_) (fun again => ?_))).trans ?_
 ·have hk := Zi hb
  have hi : Zq (.lst (l.map PV.str)) (.int .i64 (k : Int)) = some (.str s) := Zo hb
  have hh := hc s (List.mem_of_getElem? hb)
  have g := ZpA s code hh.1 hh.2
  simp only [Zap hk, Zn hk hl, hi, g, EVS]
  obtain c1 | c1 := (Bool.eq_false_or_eq_true (Zjm s code)).symm <;> simp only [c1, EVS]
 ·simp only [ZaP, EVS]
 ·unfold inP
  cases ZT (fun _ c => !Zjm c code) 0 l <;> simp only [EVS]
theorem ZpB (l : List (List UInt8)) (code : List UInt8) (hl : Zz l) (hc : ∀ c ∈ l, Zz c ∧ c.length ≤ code.length) : Zft [.lst (l.map PV.str), .str code] = some (pB (inP l code)) := by
 have g0 : ZJ [.lst (l.map PV.str), .tup [.agg [.str code]]] = some (pI (ixf (fun c : List UInt8 => Zjm c code) 0 l)) := by
  unfold Zz at hl
  show (fun x0 x1 => ZJ [x0, x1]) _ _ = _
  rw [ZbN]
  simp only [EVS]
  refine (congrArg (Zh true) (Zds l (fun c : List UInt8 => Zjm c code) _ hl (fun again k a hb => ?_) (fun again => ?_))).trans ?_
  ·have hk := Zi hb
   have hi : Zq (.lst (l.map PV.str)) (.int .i64 (k : Int)) = some (.str a) := Zo hb
   have hh := hc a (List.mem_of_getElem? hb)
   have g : Zdz [.str a, .agg [.str code]] = some (pB (Zjm a code)) := by
    show (fun x0 x1 => Zdz [x0, x1]) _ _ = _
    rw [Zly]
    simp only [ZmB a code hh.1 hh.2, EVS]
   simp only [Zap hk, Zn hk hl, hi, Zkz, List.cons_append, List.nil_append, g, EVS]
  ·simp only [ZaP, EVS]
   rfl
  ·simp only [EVS]
 have g1 : ZE [.lst (l.map PV.str), .tup [.agg [.str code]]] = some (pB (inP l code)) := by
  show (fun x0 x1 => ZE [x0, x1]) _ _ = _
  rw [Zbo]
  simp only [g0, inP, Zep (fun c : List UInt8 => Zjm c code) l 0, EVS]
 show (fun x0 x1 => Zft [x0, x1]) _ _ = _
 rw [Zoz]
 simp only [ZfR, List.drop_zero, g1, EVS]
def ZpC (l : List (Int × Bool)) (s : List UInt8) : Prop := ∀ p ∈ l, 0 ≤ p.1 ∧ p.1 < s.length
theorem ZbC (l : List (Int × Bool)) (s : List UInt8) (hl : Zz l) (hp : ZpC l s) : ZG [.lst (l.map Zas), .tup [.agg [.str s]]] = some (pB (!ZT (fun _ p => ZcI p s) 0 l)) := by
 have g0 : ZM [.lst (l.map Zas), .tup [.agg [.str s]]] = some (pI (ixf (fun p : Int × Bool => !ZcI p s) 0 l)) := by
  unfold Zz at hl
  show (fun x0 x1 => ZM [x0, x1]) _ _ = _
  rw [ZbT]
  simp only [EVS]
  refine (congrArg (Zh true) (Zds l (fun p : Int × Bool => !ZcI p s) _ hl (fun again k a hb => ?_) (fun again => ?_))).trans ?_
  ·have hk := Zi hb
   have hi : Zq (.lst (l.map Zas)) (.int .i64 (k : Int)) = some (Zas a) := Zo hb
   have hh := hp a (List.mem_of_getElem? hb)
   have g := Zdt a s hh.1 hh.2
   simp only [Zas] at g
   have g' : ZcU [Zas a, .agg [.str s]] = some (pB (!ZcI a s)) := by
    show (fun x0 x1 => ZcU [x0, x1]) _ _ = _
    rw [Zjt]
    simp only [Zas, g, EVS]
   simp only [Zas] at g'
   simp only [Zap hk, Zn hk hl, hi, Zas, Zkz, List.cons_append, List.nil_append, g', EVS]
  ·simp only [ZaP, EVS]
   rfl
  ·simp only [EVS]
 show (fun x0 x1 => ZG [x0, x1]) _ _ = _
 rw [Zbx]
 simp only [g0, Zep (fun p : Int × Bool => !ZcI p s) l 0, Bool.not_not, EVS]
theorem ZbD (l : List (Int × Bool)) (s : List UInt8) (hl : Zz l) (hp : ZpC l s) : ZH [.lst (l.map Zas), .tup [.agg [.str s]]] = some (pB (!ZT (fun _ p => !ZcI p s) 0 l)) := by
 have g0 : ZN [.lst (l.map Zas), .tup [.agg [.str s]]] = some (pI (ixf (fun p : Int × Bool => ZcI p s) 0 l)) := by
  unfold Zz at hl
  show (fun x0 x1 => ZN [x0, x1]) _ _ = _
  rw [ZbV]
  simp only [EVS]
  refine (congrArg (Zh true) (Zds l (fun p : Int × Bool => ZcI p s) _ hl (fun again k a hb => ?_) (fun again => ?_))).trans ?_
  ·have hk := Zi hb
   have hi : Zq (.lst (l.map Zas)) (.int .i64 (k : Int)) = some (Zas a) := Zo hb
   have hh := hp a (List.mem_of_getElem? hb)
   have g := Zdt a s hh.1 hh.2
   simp only [Zas] at g
   have g' : ZcV [Zas a, .agg [.str s]] = some (pB (ZcI a s)) := by
    show (fun x0 x1 => ZcV [x0, x1]) _ _ = _
    rw [Zjv]
    simp only [Zas, g, EVS]
   simp only [Zas] at g'
   simp only [Zap hk, Zn hk hl, hi, Zas, Zkz, List.cons_append, List.nil_append, g', EVS]
  ·simp only [ZaP, EVS]
   rfl
  ·simp only [EVS]
 show (fun x0 x1 => ZH [x0, x1]) _ _ = _
 rw [Zbz]
 simp only [g0, Zep (fun p : Int × Bool => ZcI p s) l 0, EVS]
def Zjn (s : List UInt8) (k : Nat) : Bool := match s[k]? with | some b => decide ((b.toNat : Int) = 49) | none => false
def ZqN (n : PNet) (s : List UInt8) (k : Nat) (w : PWire) : Bool :=
 if decide (w.kind = 5) = true then inP w.cover (s.take n.signals.length)
 else if decide (w.kind = 4) = true then (match w.ins with | [p, q] => if (ZcI p s != ZcI q s) = true then ZcI p s else Zjn s k | _ => Zjn s k)
 else Zjn s k
def Zh8 (n : PNet) (s : List UInt8) (k : Nat) (w : PWire) : Bool :=
 if decide (w.kind = 2) = true then ZT (fun _ p => ZcI p s) 0 w.ins
 else if decide (w.kind = 3) = true then !ZT (fun _ p => !ZcI p s) 0 w.ins
 else ZqN n s k w
theorem ZkC (s : List UInt8) (k : Nat) (h : k ≤ s.length) : ZfF (.str s) none (some (pI (k : Int))) = some (.str (s.take k)) := by
 have : (0 : Int) ≤ (k : Int) ∧ (k : Int) ≤ (s.length : Int) := by omega
 simp [ZfF, Zix, Zl8, this]
structure At (n : PNet) (s : List UInt8) (k : Nat) (w : PWire) : Prop where
 fit : n.Fit
 here : n.wires[k]? = some w
 wire : w.Fit
 fits : Zz s
 lt : k < s.length
 sig : n.signals.length ≤ s.length
 pins : ZpC w.ins s
 cubes : w.kind = 5 → ∀ c ∈ w.cover, c.length ≤ n.signals.length
 two : w.kind = 4 → w.ins.length = 2
theorem loop3 {l : List (Int × Bool)} (s : List UInt8) (E : Bool → Bool → Bool) (f : (List PV → Option PV) → List PV → Option PV) (hl : l.length ≤ 9223372036854775807)
 (h1 : ∀ again (a b : Bool) (k : Nat) x, l[k]? = some x → f again [pB a, pB b, pI (k : Int)] = again [pB (a && ZcI x s), pB (b || ZcI x s), pI ((k + 1 : Nat) : Int)])
 (h2 : ∀ again (a b : Bool) (k : Nat), ¬ k < l.length → f again [pB a, pB b, pI (k : Int)] = some (pB (E a b))) :
 ZD f 18446744073709551616 [pB true, pB false, pI (0 : Int)] = some (pB (E (ZT (fun _ p => ZcI p s) 0 l) (!ZT (fun _ p => !ZcI p s) 0 l))) := by
 have key := Zdg (R := PV) (fun t : Bool × Bool × Nat => [pB t.1, pB t.2.1, pI (t.2.2 : Int)]) (fun t => l.length + 1 - t.2.2) (fun t => some (pB (E (t.1 && (l.drop t.2.2).all fun p => ZcI p s) (t.2.1 || !(l.drop t.2.2).all fun p => !ZcI p s)))) f (fun again t ih => ?_) 18446744073709551616 (true, false, 0) (by simp only; omega)
 ·simp only [Bool.true_and, Bool.false_or, List.drop_zero] at key
  rw [Zau, Zau]
  exact key
 ·obtain ⟨a, b, k⟩ := t
  dsimp only at ih ⊢
  by_cases hk : k < l.length
  ·have hx : l[k]? = some l[k] := List.getElem?_eq_getElem hk
   rw [h1 again a b k _ hx, ih (_, _, k + 1) (by simp only; omega), List.drop_eq_getElem_cons hk]
   simp only [List.all_cons, Bool.and_assoc]
   cases ZcI l[k] s <;> simp
  ·rw [h2 again a b k hk, List.drop_eq_nil_of_le (by omega)]
   simp
theorem Zn8 (n : PNet) (s : List UInt8) (k : Nat) (w : PWire) (h : At n s k w) : Zee [Zam n, .str s, pI k] = some (pB (Zh8 n s k w)) := by
 have hi : Zq (.lst (n.wires.map Zac)) (.int .i64 (k : Int)) = some (Zac w) := Zo h.here
 have hil := h.wire.ins
 unfold Zz at hil
 show (fun x0 x1 x2 => Zee [x0, x1, x2]) _ _ _ = _
 rw [Zm2]
 simp only [Zam, hi, Zac, EVS]
 refine (congrArg (Zh true) (loop3 (l := w.ins) s (fun a b => if decide (w.kind = 2) = true then a else if decide (w.kind = 3) = true then b else ZqN n s k w) _ hil (fun again a b j p hb => ?_) (fun again a b j hj => ?_))).trans ?_
 ·have hk := Zi hb
  have hi2 : Zq (.lst (w.ins.map Zas)) (.int .i64 (j : Int)) = some (Zas p) := Zo hb
  have hp := h.pins p (List.mem_of_getElem? hb)
  have g := Zhk p s hp.1 hp.2
  simp only [Zas] at g
  simp only [Zap hk, Zn hk hil, hi2, Zas, g, EVS]
  cases a <;> cases b <;> simp only [EVS]
 ·have hlt : decide ((j : Int) < (w.ins.length : Int)) = false := by simp; omega
  simp only [hlt, EVS]
  obtain c1 | c1 := (Bool.eq_false_or_eq_true (decide (w.kind = 2))).symm <;> simp only [c1, EVS]
  obtain c2 | c2 := (Bool.eq_false_or_eq_true (decide (w.kind = 3))).symm <;> simp only [c2, EVS]
  have hone : Zjn s k = decide ((s[k]'h.lt).toNat = (49 : Int)) := by unfold Zjn; rw [List.getElem?_eq_getElem h.lt]
  have hbv : Zai (.str s) (.int .i64 (k : Int)) = some (pU (s[k]'h.lt)) := Zs (List.getElem?_eq_getElem h.lt)
  unfold ZqN
  obtain c5 | c5 := (Bool.eq_false_or_eq_true (decide (w.kind = 5))).symm <;> simp only [c5, EVS]
  ·obtain c4 | c4 := (Bool.eq_false_or_eq_true (decide (w.kind = 4))).symm <;> simp only [c4, Zdh, hbv, hone, EVS]
   have h2 := h.two (of_decide_eq_true c4)
   have hpins := h.pins
   revert h2 hpins
   rcases w.ins with _ | ⟨p, _ | ⟨q, _ | ⟨r, t⟩⟩⟩
   ·intro h2; simp at h2
   ·intro h2; simp at h2
   ·intro _ hpins
    have i0 : Zq (.lst ([p, q].map Zas)) (.int .i64 0) = some (Zas p) := rfl
    have i1 : Zq (.lst ([p, q].map Zas)) (.int .i64 1) = some (Zas q) := rfl
    have hp := hpins p (by simp)
    have hq := hpins q (by simp)
    have g1 := Zhk p s hp.1 hp.2
    have g2 := Zhk q s hq.1 hq.2
    simp only [Zas] at g1 g2
    simp only [i0, i1, Zas, g1, g2, EVS]
    cases ZcI p s <;> cases ZcI q s <;> simp [bne, hbv, Zqe]
   ·intro h2; simp at h2
  ·have hc := Zrw w.cover (s.take n.signals.length) h.wire.cover (fun c hc => ⟨h.wire.cubes c hc, by have := h.cubes (of_decide_eq_true c5) c hc; have := h.sig; simp; omega⟩)
   simp only [ZkC s _ h.sig, hc, EVS]
 ·simp only [Zh8, EVS]
theorem ZmC (n : PNet) (s : List UInt8) (k : Nat) (w : PWire) (h : At n s k w) : ZdA [Zam n, .str s, pI k] = some (pB (Zh8 n s k w)) := by
 have hi : Zq (.lst (n.wires.map Zac)) (.int .i64 (k : Int)) = some (Zac w) := Zo h.here
 have g2 := ZbC w.ins s h.wire.ins h.pins
 have g3 := ZbD w.ins s h.wire.ins h.pins
 have hone : Zjn s k = decide ((s[k]'h.lt).toNat = (49 : Int)) := by unfold Zjn; rw [List.getElem?_eq_getElem h.lt]
 have hbv : Zai (.str s) (.int .i64 (k : Int)) = some (pU (s[k]'h.lt)) := Zs (List.getElem?_eq_getElem h.lt)
 show (fun x0 x1 x2 => ZdA [x0, x1, x2]) _ _ _ = _
 rw [ZlA]
 simp only [Zam, hi, Zac, EVS]
 unfold Zh8
 obtain c2 | c2 := (Bool.eq_false_or_eq_true (decide (w.kind = 2))).symm <;> simp only [c2, ZfR, List.drop_zero, g2, Bool.not_not, EVS]
 obtain c3 | c3 := (Bool.eq_false_or_eq_true (decide (w.kind = 3))).symm <;> simp only [c3, ZfR, List.drop_zero, g3, Bool.not_not, EVS]
 unfold ZqN
 obtain c4 | c4 := (Bool.eq_false_or_eq_true (decide (w.kind = 4))).symm <;> simp only [c4, Zdh, EVS]
 ·obtain c5 | c5 := (Bool.eq_false_or_eq_true (decide (w.kind = 5))).symm <;> simp only [c5, hbv, hone, EVS]
  have hc := ZpB w.cover (s.take n.signals.length) h.wire.cover (fun c hc => ⟨h.wire.cubes c hc, by have := h.cubes (of_decide_eq_true c5) c hc; have := h.sig; simp; omega⟩)
  simp only [ZkC s _ h.sig, hc, EVS]
 ·have c5 : decide (w.kind = 5) = false := by have := of_decide_eq_true c4; simp; omega
  have h2 := h.two (of_decide_eq_true c4)
  have hpins := h.pins
  simp only [c5, hone, EVS]
  revert h2 hpins
  rcases w.ins with _ | ⟨p, _ | ⟨q, _ | ⟨r, t⟩⟩⟩
  ·intro h2; simp at h2
  ·intro h2; simp at h2
  ·intro _ hpins
   have i0 : Zq (.lst ([p, q].map Zas)) (.int .i64 0) = some (Zas p) := rfl
   have i1 : Zq (.lst ([p, q].map Zas)) (.int .i64 1) = some (Zas q) := rfl
   have hp := hpins p (by simp)
   have hq := hpins q (by simp)
   have g1 := Zdt p s hp.1 hp.2
   have g2 := Zdt q s hq.1 hq.2
   simp only [Zas] at g1 g2
   simp only [i0, i1, Zas, g1, g2, EVS]
   cases ZcI p s <;> cases ZcI q s <;> simp [bne, hbv, Zqe, Zl5]
  ·intro h2; simp at h2
theorem Zh9 {α : Type} (q : Nat → α → Bool) : ∀ (l : List α) (j : Nat), ZT q j l = true → ∀ (i : Nat) (x : α), l[i]? = some x → q (j + i) x = true
 | [], j, _, i, x, hx => by simp at hx
 | y :: r, j, h, i, x, hx => by
  unfold ZT at h
  rw [Bool.and_eq_true] at h
  cases i with
  | zero => simp at hx; subst hx; simpa using h.1
  | succ i =>
   have := Zh9 q r (j + 1) h.2 i x (by simpa using hx)
   rw [show j + (i + 1) = j + 1 + i by omega]
   exact this
theorem ZkD {α : Type} (q : α → Bool) {l : List α} (h : ZT (fun _ x => q x) 0 l = true) {x : α} (hx : x ∈ l) : q x = true := by
 rw [Zau] at h
 exact List.all_eq_true.1 h x hx
def Zjo (u : Bool) : UInt8 := if u = true then 49 else 48
theorem ZiK (u : Bool) : ZdH [pB u] = some (.str [Zjo u]) := by
 show (fun x0 => ZdH [x0]) _ = _
 rw [ZpU]
 cases u <;> simp only [EVS] <;> rfl
theorem Ztx (u : Bool) : ZjI [pB u] = some (pU (Zjo u)) := by
 show (fun x0 => ZjI [x0]) _ = _
 rw [Zs1]
 cases u <;> simp only [EVS] <;> rfl
theorem Zty {α : Type} (c : List α) (i : Nat) (b : α) (h : i < c.length) : c.take i ++ [b] ++ c.drop (i + 1) = c.set i b := by
 rw [List.set_eq_take_append_cons_drop, if_pos h, List.append_assoc]
 rfl
theorem ZiL (c : List UInt8) (i : Nat) (b : UInt8) (h : i < c.length) (hc : Zz c) : ZdI [.str c, pI i, .str [b]] = some (.str (c.set i b)) := by
 unfold Zz at hc
 have h1 : ZfF (.str c) none (some (.int .i64 (i : Int))) = some (.str (c.take i)) := Zis (by omega)
 have h2 : ZfF (.str c) (some (.int .i64 ((i + 1 : Nat) : Int))) none = some (.str (c.drop (i + 1))) := Zq4 (by omega)
 show (fun x0 x1 x2 => ZdI [x0, x1, x2]) _ _ _ = _
 rw [ZpV]
 have h3 : Zf .add TD.str (.str (c.take i)) (.str [b]) = some (.str (c.take i ++ [b])) := Zsi (by simp; omega)
 have h4 : Zf .add TD.str (.str (c.take i ++ [b])) (.str (c.drop (i + 1))) = some (.str (c.take i ++ [b] ++ c.drop (i + 1))) := Zsi (by simp; omega)
 simp only [h1, Zn h hc, h2, h3, h4, Zty c i b h, EVS]
theorem ZlT {s : List UInt8} {n : Nat} : Zax s n = true ↔ (∀ b ∈ s, Zh7 b = true) ∧ s.length = n := by
 unfold Zax
 rw [Zau, Bool.and_eq_true, List.all_eq_true, decide_eq_true_eq]
 constructor
 ·rintro ⟨h1, h2⟩; exact ⟨h1, by omega⟩
 ·rintro ⟨h1, h2⟩; exact ⟨h1, by omega⟩
theorem at_of (n : PNet) (s : List UInt8) (k : Nat) (hn : n.Fit) (hs : Zz s) (hv : Ze0 n s = true) (hk : k < n.wires.length) : At n s k n.wires[k] := by
 unfold Ze0 ZfH Zax at hv
 simp only [Bool.and_eq_true, decide_eq_true_eq, Bool.not_eq_true', decide_eq_false_iff_not] at hv
 obtain ⟨⟨⟨h1, h2, h3⟩, h4⟩, h5, h6⟩ := hv
 have hx : n.wires[k]? = some n.wires[k] := List.getElem?_eq_getElem hk
 have hw := Zh9 _ _ _ h4 k _ hx
 rw [Nat.zero_add] at hw
 unfold Zcb Zkw Zn3 at hw
 simp only [Bool.and_eq_true] at hw
 obtain ⟨⟨⟨⟨hkd, _⟩, hcov⟩, _, hpins, hform⟩, _⟩ := hw
 refine ⟨hn, hx, hn.wire _ (List.getElem_mem hk), hs, by omega, by omega, fun p hp => ?_, fun hk5 c hc => ?_, fun hk4 => ?_⟩
 ·have := ZkD (fun p => ZgY n k p) hpins hp
  unfold ZgY inR at this
  simp only [Bool.and_eq_true, decide_eq_true_eq] at this
  omega
 ·rw [if_pos (by simp [hk5])] at hcov
  unfold Zkv ZjH at hcov
  simp only [Bool.and_eq_true] at hcov
  have := ZkD (fun c => Zh6 c && decide ((c.length : Int) = n.signals.length)) hcov.1 hc
  simp only [Bool.and_eq_true, decide_eq_true_eq] at this
  omega
 ·unfold Zd4 at hform
  rw [if_neg (by simp [hk4]), if_pos (by simp [hk4])] at hform
  simp only [decide_eq_true_eq] at hform
  omega
theorem ZqO {α : Type} (f : α → PV) (l : List α) (i : Nat) (x : α) : (l.map f).set i (f x) = (l.set i x).map f := by rw [List.map_set]
structure PArc where
 from_ : Int
 sig : Int
 up : Bool
 to_ : Int
structure PSG where
 signals : List (List UInt8 × Int)
 codes : List (List UInt8)
 arcs : List PArc
def Zar (a : PArc) : PV := .agg [pI a.from_, pI a.sig, pB a.up, pI a.to_]
def eSG (c : PSG) : PV := .agg [.lst (c.signals.map Z7), .lst (c.codes.map PV.str), .lst (c.arcs.map Zar)]
structure SGFit (c : PSG) : Prop where
 sigs : Zz c.signals
 names : ∀ s ∈ c.signals, Zz s.1
 codes : Zz c.codes
 each : ∀ x ∈ c.codes, Zz x
 arcs : Zz c.arcs
def Zd5 (n : Int) (sig : Int) (up : Bool) : Bool := inR sig 0 (n - 1) || (decide (sig = -1) && !up)
theorem Zn9 (sig : Int) (up : Bool) (n : Nat) (hn : n ≤ 9223372036854775807) : Zd8 [.agg [pI sig, pB up], pI n] = some (pB (Zd5 n sig up)) := by
 have g := ZaW sig 0 ((n : Int) - 1)
 have gi : inR sig 0 ((n : Int) - 1) = (decide ((0 : Int) ≤ sig) && decide (sig ≤ (n : Int) - 1)) := rfl
 rw [← gi] at g
 have hw : IntKind.i64.wrap ((n : Int) - 1) = (n : Int) - 1 := Zda (by omega) (by omega)
 show (fun x0 x1 => Zd8 [x0, x1]) _ _ = _
 rw [ZmQ]
 unfold Zd5
 simp only [hw, g, EVS]
 cases inR sig 0 ((n : Int) - 1) <;> simp only [EVS]
 rw [show Int.negSucc 0 = (-1 : Int) from rfl]
 cases decide (sig = -1) <;> simp only [EVS]
theorem ZpD (sig : Int) (up : Bool) (n : Nat) (hn : n ≤ 9223372036854775807) : Ze8 [.agg [pI sig, pB up], pI n] = some (pB (Zd5 n sig up)) := by
 have g := Zat sig 0 ((n : Int) - 1)
 have hw : IntKind.i64.wrap ((n : Int) - 1) = (n : Int) - 1 := Zda (by omega) (by omega)
 have he : eqV (some [(0, TD.int IntKind.i64), (1, TD.bool)]) TD.struct (.agg [pI sig, pB up]) (.agg [pI (-1), pB false]) = some (decide (sig = -1) && !up) := by
  rw [eqPin]; cases up <;> rfl
 show (fun x0 x1 => Ze8 [x0, x1]) _ _ = _
 rw [Zom]
 unfold Zd5
 simp only [hw, g, EVS]
 cases inR sig 0 ((n : Int) - 1) <;> simp only [EVS]
 rw [show Int.negSucc 0 = (-1 : Int) from rfl]
 have hsp : splice [ZC.pv (.int .i64), ZC.pv .bool] 0 [pI (-1)] = [pI (-1), pB false] := rfl
 simp only [hsp, he, EVS]
def Zia (sig : Int) (up : Bool) (x y : List UInt8) : Bool :=
 if decide (sig < 0) = true then decide (x = y) else decide (x = y.set sig.toNat (Zjo (!up))) && decide (y = x.set sig.toNat (Zjo up))
def ZgZ (sig : Int) (up : Bool) (y : List UInt8) (k : Nat) (b : UInt8) : Bool :=
 if decide ((k : Int) = sig) = true then !(decide ((b.toNat : Int) = 49) == up) && decide (((y.getD k 0).toNat : Int) = 49) == up else decide ((b.toNat : Int) = (y.getD k 0).toNat)
theorem ZpE : (false == false) = true := rfl
theorem ZpF : (false == true) = false := rfl
theorem ZpG : (true == false) = false := rfl
theorem ZpH : (true == true) = true := rfl
theorem bbn (a b : Bool) : Zf .neq TD.bool (.bool a) (.bool b) = some (.bool (!(a == b))) := rfl
theorem Zli (a : PArc) (x y : List UInt8) (hx : Zz x) (hl : y.length = x.length) : Zdc [Zar a, .str x, .str y] = some (pB (ZT (ZgZ a.sig a.up y) 0 x)) := by
 unfold Zz at hx
 show (fun x0 x1 x2 => Zdc [x0, x1, x2]) _ _ _ = _
 rw [ZkT]
 simp only [Zar, EVS]
 refine (congrArg (fun m : Option PV => m.bind fun r => if r.sc = true then some r else none) (Z5 (R := PV) x (ZgZ a.sig a.up y) (some (pB false)) (some (pB true)) _ hx (fun again k b hb => ?_) (fun again => ?_))).trans ?_
 ·have hk := Zi hb
  have hy : y[k]? = some (y.getD k 0) := by rw [List.getD_eq_getElem?_getD, List.getElem?_eq_getElem (by omega)]; rfl
  have b1 := Zs (k := .i64) hb
  have b2 := Zs (k := .i64) hy
  unfold ZgZ
  simp only [Zap hk, Zn hk hx, b1, b2, EVS]
  cases c1 : decide ((k : Int) = a.sig)
  ·simp only [c1, Zap hk, Zn hk hx, b1, b2, EVS]
   cases decide ((b.toNat : Int) = (y.getD k 0).toNat) <;> simp only [EVS]
  ·simp only [c1, Zap hk, Zn hk hx, b1, b2, EVS]
   cases decide ((b.toNat : Int) = 49) <;> cases c3 : decide (((y.getD k 0).toNat : Int) = 49) <;> cases a.up <;> first | rfl | (simp only [ZpE, ZpF, ZpG, ZpH, b1, b2, EVS]; done) | (simp only [ZpE, ZpF, ZpG, ZpH, b1, b2, EVS]; rfl) | (simp only [ZpE, ZpF, ZpG, ZpH, bbn, b1, b2, c3, EVS]; done)
 ·simp only [ZaP, EVS]
 ·cases ZT (ZgZ a.sig a.up y) 0 x <;> simp only [EVS] <;> rfl
theorem ZkE {α : Type} (q : Nat → α → Bool) : ∀ (l : List α) (j : Nat), ZT q j l = true ↔ ∀ (i : Nat) (x : α), l[i]? = some x → q (j + i) x = true
 | [], j => by simp [ZT]
 | y :: r, j => by
  refine ⟨fun h => Zh9 q (y :: r) j h, fun h => ?_⟩
  unfold ZT
  rw [Bool.and_eq_true]
  refine ⟨by simpa using h 0 y rfl, (ZkE q r (j + 1)).2 fun i x hx => ?_⟩
  have := h (i + 1) x (by simpa using hx)
  rw [show j + (i + 1) = j + 1 + i by omega] at this
  exact this
theorem ZqP {b : UInt8} (h : Zh7 b = true) : b = Zjo (decide ((b.toNat : Int) = 49)) := by
 unfold Zh7 at h
 simp only [Bool.or_eq_true, decide_eq_true_eq, Bool.and_eq_true, Bool.not_eq_true', decide_eq_false_iff_not] at h
 by_cases c : (b.toNat : Int) = 49
 ·simp only [c, decide_true]
  apply UInt8.toNat_inj.1
  show b.toNat = 49
  omega
 ·simp only [c, decide_false]
  apply UInt8.toNat_inj.1
  show b.toNat = 48
  omega
theorem ZqQ {x : List UInt8} {n : Int} (h : Zax x n = true) {i : Nat} {b : UInt8} (hi : x[i]? = some b) : Zh7 b = true := by
 unfold Zax at h
 rw [Bool.and_eq_true] at h
 exact ZkD Zh7 h.1 (List.mem_of_getElem? hi)
theorem ZeF {x : List UInt8} {n : Nat} (h : Zax x n = true) : x.length = n := by
 unfold Zax at h
 rw [Bool.and_eq_true, decide_eq_true_eq] at h
 omega
theorem ZmD {a b : UInt8} : (a.toNat : Int) = b.toNat ↔ a = b := by
 rw [Int.ofNat_inj, UInt8.toNat_inj]
theorem Ztz (sig : Int) (up : Bool) (x y : List UInt8) (n : Nat) (hx : Zax x n = true) (hy : Zax y n = true) (he : Zd5 n sig up = true) : ZT (ZgZ sig up y) 0 x = Zia sig up x y := by
 have lx := ZeF hx
 have ly := ZeF hy
 rw [Bool.eq_iff_iff, ZkE]
 unfold Zd5 inR at he
 simp only [Bool.or_eq_true, Bool.and_eq_true, decide_eq_true_eq, Bool.not_eq_true'] at he
 have gy : ∀ i b, x[i]? = some b → y[i]? = some (y.getD i 0) := fun i b hb => by
  have := (List.getElem?_eq_some_iff.1 hb).1
  rw [List.getD_eq_getElem?_getD, List.getElem?_eq_getElem (by omega)]; rfl
 unfold Zia
 by_cases c : sig < 0
 ·simp only [c, decide_true, if_true, decide_eq_true_eq]
  constructor
  ·intro h
   apply List.ext_getElem (by omega)
   intro i h1 h2
   have := h i x[i] (List.getElem?_eq_getElem h1)
   unfold ZgZ at this
   have d : decide (((0 + i : Nat) : Int) = sig) = false := by simp only [decide_eq_false_iff_not]; omega
   rw [d] at this
   simp only [Nat.zero_add, Bool.false_eq_true, if_false, decide_eq_true_eq, ZmD] at this
   rw [this, List.getD_eq_getElem?_getD, List.getElem?_eq_getElem h2]; rfl
  ·rintro rfl i b hb
   unfold ZgZ
   have d : decide (((0 + i : Nat) : Int) = sig) = false := by simp only [decide_eq_false_iff_not]; omega
   rw [d]
   simp only [Nat.zero_add, Bool.false_eq_true, if_false, decide_eq_true_eq, ZmD]
   rw [List.getD_eq_getElem?_getD, hb]; rfl
 ·obtain ⟨s, rfl⟩ := Int.eq_ofNat_of_zero_le (show 0 ≤ sig by omega)
  have hs : s < n := by omega
  simp only [c, decide_false, Bool.false_eq_true, if_false, Bool.and_eq_true, decide_eq_true_eq, Int.toNat_natCast]
  have hxs : x[s]? = some (x[s]'(by omega)) := List.getElem?_eq_getElem _
  have hys : y[s]? = some (y[s]'(by omega)) := List.getElem?_eq_getElem _
  have gs : y.getD s 0 = y[s]'(by omega) := by rw [List.getD_eq_getElem?_getD, hys]; rfl
  constructor
  ·intro h
   have h0 := h s _ hxs
   unfold ZgZ at h0
   simp only [Nat.zero_add, decide_true, if_true, gs] at h0
   have bx := ZqP (ZqQ hx hxs)
   have by_ := ZqP (ZqQ hy hys)
   have ho : ∀ i (h1 : i < x.length) (h2 : i < y.length), i ≠ s → x[i] = y[i] := fun i h1 h2 hn => by
    have := h i x[i] (List.getElem?_eq_getElem h1)
    unfold ZgZ at this
    have d : decide (((0 + i : Nat) : Int) = (s : Int)) = false := by simp only [decide_eq_false_iff_not]; omega
    rw [d] at this
    simp only [Nat.zero_add, Bool.false_eq_true, if_false, decide_eq_true_eq, ZmD] at this
    rw [this, List.getD_eq_getElem?_getD, List.getElem?_eq_getElem h2]; rfl
   generalize decide (((x[s]'(by omega)).toNat : Int) = 49) = p at h0 bx
   generalize decide (((y[s]'(by omega)).toNat : Int) = 49) = q at h0 by_
   have hp : p = !up := by revert h0; cases p <;> cases q <;> cases up <;> decide
   have hq : q = up := by revert h0; cases p <;> cases q <;> cases up <;> decide
   refine ⟨List.ext_getElem (by simp; omega) fun i h1 h2 => ?_, List.ext_getElem (by simp; omega) fun i h1 h2 => ?_⟩
   ·rw [List.getElem_set]
    split
    ·rename_i e; subst e; rw [bx, hp]
    ·rename_i e; exact ho i h1 (by simpa using h2) (Ne.symm e)
   ·rw [List.getElem_set]
    split
    ·rename_i e; subst e; rw [by_, hq]
    ·rename_i e; exact (ho i (by simpa using h2) h1 (Ne.symm e)).symm
  ·rintro ⟨e1, e2⟩ i b hb
   unfold ZgZ
   have hi := (List.getElem?_eq_some_iff.1 hb).1
   by_cases cs : i = s
   ·subst cs
    simp only [Nat.zero_add, decide_true, if_true, gs]
    have hbx : x[i]? = some (Zjo (!up)) := by rw [e1, List.getElem?_set]; simp; omega
    have hby : y[i]? = some (Zjo up) := by rw [e2, List.getElem?_set]; simp; omega
    rw [hb] at hbx
    rw [hys] at hby
    rw [Option.some.inj hbx, Option.some.inj hby]
    cases up <;> decide
   ·have d : decide (((0 + i : Nat) : Int) = (s : Int)) = false := by simp only [decide_eq_false_iff_not]; omega
    rw [d]
    simp only [Nat.zero_add, Bool.false_eq_true, if_false, decide_eq_true_eq, ZmD]
    have : y[i]? = x[i]? := by
     conv => lhs; rw [e2]
     rw [List.getElem?_set, if_neg (Ne.symm cs)]
    rw [List.getD_eq_getElem?_getD, this, hb]; rfl
theorem ZkF (s u : PV) : splice (splice [ZC.pv (.int .i64), ZC.pv .bool] 0 [s]) 1 [u] = [s, u] := rfl
def Zcd (n : Nat) (last : Int) (a : PArc) : Bool := (inR a.from_ 0 last && inR a.to_ 0 last) && Zd5 n a.sig a.up
def Zhl (c : PSG) (a : PArc) : Bool := Zcd c.signals.length ((c.codes.length : Int) - 1) a && Zia a.sig a.up (c.codes.getD a.from_.toNat []) (c.codes.getD a.to_.toNat [])
structure CodesP (c : PSG) : Prop where
 one : 1 ≤ c.codes.length
 many : c.codes.length ≤ 300
 bits : ∀ x ∈ c.codes, Zax x c.signals.length = true
 arcs : c.arcs.length ≤ 4000
theorem ZkG {c : PSG} {a : PArc} (h : Zcd c.signals.length ((c.codes.length : Int) - 1) a = true) : ∃ f t x y, a.from_ = ((f : Nat) : Int) ∧ a.to_ = ((t : Nat) : Int) ∧ f < c.codes.length ∧ t < c.codes.length ∧ c.codes[f]? = some x ∧ c.codes[t]? = some y ∧ Zd5 c.signals.length a.sig a.up = true := by
 unfold Zcd inR at h
 simp only [Bool.and_eq_true, decide_eq_true_eq] at h
 obtain ⟨⟨⟨h1, h2⟩, h3, h4⟩, h5⟩ := h
 obtain ⟨f, hf⟩ := Int.eq_ofNat_of_zero_le h1
 obtain ⟨t, ht⟩ := Int.eq_ofNat_of_zero_le h3
 have l1 : f < c.codes.length := by omega
 have l2 : t < c.codes.length := by omega
 exact ⟨f, t, _, _, hf, ht, l1, l2, List.getElem?_eq_getElem l1, List.getElem?_eq_getElem l2, h5⟩
theorem Zrx (c : PSG) (a : PArc) (hc : SGFit c) (hp : CodesP c) : ZgD [eSG c, Zar a] = some (pB (Zhl c a)) := by
 have hsl := hc.sigs
 unfold Zz at hsl
 have hm := hp.many
 have g1 := ZaW a.from_ 0 ((c.codes.length : Int) - 1)
 have g2 := ZaW a.to_ 0 ((c.codes.length : Int) - 1)
 have gi : ∀ z : Int, inR z 0 ((c.codes.length : Int) - 1) = (decide ((0 : Int) ≤ z) && decide (z ≤ (c.codes.length : Int) - 1)) := fun _ => rfl
 rw [← gi] at g1 g2
 have g3 := Zn9 a.sig a.up c.signals.length hsl
 have hw : IntKind.i64.wrap ((c.codes.length : Int) - 1) = (c.codes.length : Int) - 1 := Zda (by omega) (by omega)
 show (fun x0 x1 => ZgD [x0, x1]) _ _ = _
 rw [ZpX]
 unfold Zhl
 cases hg : Zcd c.signals.length ((c.codes.length : Int) - 1) a
 ·unfold Zcd at hg
  cases c1 : inR a.from_ 0 ((c.codes.length : Int) - 1)
  ·simp only [eSG, Zar, List.length_map, hw, g1, c1, EVS]
  cases c2 : inR a.to_ 0 ((c.codes.length : Int) - 1)
  ·simp only [eSG, Zar, List.length_map, hw, g1, g2, c1, c2, EVS]
  cases c3 : Zd5 c.signals.length a.sig a.up
  ·simp only [eSG, Zar, List.length_map, hw, g1, g2, g3, c1, c2, c3, ZkF, EVS]
  ·rw [c1, c2, c3] at hg; cases hg
 ·obtain ⟨f, t, x, y, hf, ht, l1, l2, hx, hy, he⟩ := ZkG hg
  unfold Zcd at hg
  simp only [Bool.and_eq_true] at hg
  have bx := hp.bits x (List.mem_of_getElem? hx)
  have by_ := hp.bits y (List.mem_of_getElem? hy)
  have i1 : Zq (.lst (c.codes.map PV.str)) (.int .i64 (f : Int)) = some (.str x) := Zo hx
  have i2 : Zq (.lst (c.codes.map PV.str)) (.int .i64 (t : Int)) = some (.str y) := Zo hy
  have e1 : c.codes.getD f [] = x := by rw [List.getD_eq_getElem?_getD, hx]; rfl
  have e2 : c.codes.getD t [] = y := by rw [List.getD_eq_getElem?_getD, hy]; rfl
  have c1 := hg.1.1
  have c2 := hg.1.2
  simp only [hf] at g1 c1
  simp only [ht] at g2 c2
  rw [hf, ht, Int.toNat_natCast, Int.toNat_natCast, e1, e2]
  unfold Zia
  have lx := ZeF bx
  have ly := ZeF by_
  by_cases cs : a.sig < 0
  ·have d : decide (a.sig < 0) = true := by simpa using cs
   simp only [eSG, Zar, hf, ht, List.length_map, hw, g1, g2, g3, c1, c2, he, ZkF, i1, i2, d, EVS]
  ·have d : decide (a.sig < 0) = false := by simpa using cs
   obtain ⟨s, hs⟩ := Int.eq_ofNat_of_zero_le (show 0 ≤ a.sig by omega)
   have hsn : s < c.signals.length := by
    unfold Zd5 inR at he
    simp only [Bool.or_eq_true, Bool.and_eq_true, decide_eq_true_eq] at he
    omega
   have s1 := ZiL y s (Zjo (!a.up)) (by omega) (hc.each y (List.mem_of_getElem? hy))
   have s2 := ZiL x s (Zjo a.up) (by omega) (hc.each x (List.mem_of_getElem? hx))
   have b1 := ZiK (!a.up)
   have b2 := ZiK a.up
   rw [hs] at d g3 he
   simp only [eSG, Zar, hf, ht, hs, List.length_map, hw, g1, g2, g3, c1, c2, he, ZkF, i1, i2, d, s1, b1, Int.toNat_natCast, Bool.false_eq_true, if_false, EVS]
   cases c4 : decide (x = y.set s (Zjo (!a.up)))
   ·simp only [EVS]
   ·simp only [s2, b2, EVS]
def ZkH (c : PSG) : List (Nat × Nat) := c.arcs.map fun a => (a.from_.toNat, a.to_.toNat)
def ZkI (n : Nat) (l : List PArc) : Prop := ∀ a ∈ l, inR a.from_ 0 ((n : Int) - 1) = true ∧ inR a.to_ 0 ((n : Int) - 1) = true
theorem ZiM {n : Nat} {l : List PArc} (h : ZkI n l) {a : PArc} (ha : a ∈ l) : ∃ f t : Nat, a.from_ = f ∧ a.to_ = t ∧ f < n ∧ t < n := by
 obtain ⟨h1, h2⟩ := h a ha
 unfold inR at h1 h2
 simp only [Bool.and_eq_true, decide_eq_true_eq] at h1 h2
 obtain ⟨f, hf⟩ := Int.eq_ofNat_of_zero_le h1.1
 obtain ⟨t, ht⟩ := Int.eq_ofNat_of_zero_le h2.1
 exact ⟨f, t, hf, ht, by omega, by omega⟩
theorem Zja : ∀ (r : List (Nat × Nat)) (m : List Bool), (ZdC r m).length = m.length
 | [], _ => rfl
 | e :: r, m => by
  unfold ZdC
  rw [Zja r]
  split <;> simp
theorem se_b (a b : Bool) : Zca 0 1 [.bool a] (.bool a) (.bool b) = some (.bool b) := rfl
theorem ZqR {R : Type} (e : List Bool → Option R) : ∀ (l : List PArc) (k : Nat) (m : List Bool), Zch (fun (m : List Bool) (_ : Nat) (a : PArc) => .inl (if m.getD a.from_.toNat false = true then m.set a.to_.toNat true else m)) e k m l = e (ZdC (l.map fun a => (a.from_.toNat, a.to_.toNat)) m)
 | [], k, m => rfl
 | a :: l, k, m => ZqR e l (k + 1) _
theorem ZlU {R : Type} (es : List (Nat × Nat)) (e : List Bool → Option R) : ∀ (l : List (List UInt8)) (k : Nat) (m : List Bool), Zch (fun (m : List Bool) (_ : Nat) (_ : List UInt8) => .inl (ZdC es m)) e k m l = e (metG es l.length m)
 | [], k, m => rfl
 | a :: l, k, m => ZlU es e l (k + 1) _
theorem Zry (c : PSG) (hc : SGFit c) (hp : CodesP c) (ha : ZkI c.codes.length c.arcs) : ZgE [eSG c] = some (pB ((Zp4 c.codes.length (ZkH c) 0).all id)) := by
 have h1 := hp.one
 have h2 := hp.many
 have h3 := hp.arcs
 have hmk := mk_v (TI.mk 1 1 TD.bool [ZC.bool] [] false) c.codes.length (by omega)
 have hz : ZbI (TI.mk 1 1 TD.bool [ZC.bool] [] false) = .bool false := rfl
 rw [hz] at hmk
 have hp0 : Zhf (List.replicate c.codes.length (PV.bool false)) (.int .i64 ((0 : Nat) : Int)) = some (.int .i64 ((0 : Nat) : Int)) := Zl6 (by simp; omega)
 have hg0 : (List.replicate c.codes.length (PV.bool false))[0]? = some (.bool false) := by rw [List.getElem?_replicate, if_pos (by omega)]
 have hs0 : (List.replicate c.codes.length (PV.bool false)).set 0 (.bool true) = ((List.replicate c.codes.length false).set 0 true).map PV.bool := by rw [← ZqO, List.map_replicate]
 simp only [Int.natCast_zero] at hp0
 have ht0 : Int.toNat 0 = 0 := rfl
 show (fun x0 => ZgE [x0]) _ = _
 rw [ZpZ]
 simp only [eSG, List.length_map, hmk, hp0, ht0, hg0, se_b, hs0, EVS]
 obtain ⟨m0, hm0⟩ : ∃ m0, (List.replicate c.codes.length false).set 0 true = m0 := ⟨_, rfl⟩
 have hl0 : m0.length = c.codes.length := by rw [← hm0]; simp
 unfold Zp4
 rw [hm0]
 refine (congrArg (fun m : Option PV => m.bind fun r => if r.sc = true then some r else none) ((ZfS (R := PV) c.codes (fun (m : List Bool) k => [.lst (m.map PV.bool), pI (Int.ofNat k)]) (fun _ m => m.length = c.codes.length) (fun (m : List Bool) _ _ => .inl (ZdC (ZkH c) m)) (fun m => some (pB (m.all id))) _ (by omega) (fun m k x m' hm hx he => ?_) (fun again m k x hm hx => ?_) (fun again m hm => ?_) hl0).trans (ZlU _ _ _ _ _))).trans ?_
 ·cases he; rw [Zja]; exact hm
 ·have hk := Zi hx
  simp only [Zap hk, EVS]
  refine (ZfS (R := PV) c.arcs (fun (m : List Bool) k => [.lst (m.map PV.bool), pI (Int.ofNat k)]) (fun _ m => m.length = c.codes.length) (fun (m : List Bool) _ a => .inl (if m.getD a.from_.toNat false = true then m.set a.to_.toNat true else m)) (fun m => again [.lst (m.map PV.bool), pI (Int.ofNat (k + 1))]) _ (by omega) (fun m j a m' hm ha' he => ?_) (fun again' m j a hm ha' => ?_) (fun again' m hm => ?_) hm).trans (ZqR _ _ _ _)
  ·cases he; split <;> simp [hm]
  ·have hj := Zi ha'
   obtain ⟨f, t, hf, ht, l1, l2⟩ := ZiM ha (List.mem_of_getElem? ha')
   have hi : Zq (.lst (c.arcs.map Zar)) (.int .i64 (j : Int)) = some (Zar a) := Zo ha'
   have p1 : Zhf (m.map PV.bool) (.int .i64 (f : Int)) = some (.int .i64 (f : Int)) := Zl6 (by rw [List.length_map]; omega)
   have p2 : Zhf (m.map PV.bool) (.int .i64 (t : Int)) = some (.int .i64 (t : Int)) := Zl6 (by rw [List.length_map]; omega)
   have q1 : (m.map PV.bool)[f]? = some (.bool (m.getD f false)) := by rw [List.getElem?_map, List.getD_eq_getElem?_getD, List.getElem?_eq_getElem (by omega)]; rfl
   have q2 : (m.map PV.bool)[t]? = some (.bool (m.getD t false)) := by rw [List.getElem?_map, List.getD_eq_getElem?_getD, List.getElem?_eq_getElem (by omega)]; rfl
   have st : (m.map PV.bool).set t (.bool true) = (m.set t true).map PV.bool := ZqO PV.bool m t true
   rw [hf, ht, Int.toNat_natCast, Int.toNat_natCast]
   cases hb : m.getD f false <;> simp only [Zap hj, Zn hj (show c.arcs.length ≤ 9223372036854775807 by omega), hi, Zar, hf, ht, p1, p2, q1, q2, hb, se_b, st, Bool.false_eq_true, if_false, if_true, EVS]
  ·simp only [ZaP, Zn hk (show c.codes.length ≤ 9223372036854775807 by omega), EVS]
 ·simp only [ZaP, EVS]
  refine (Z5 (R := PV) m (fun _ b => b) (some (pB false)) (some (pB true)) _ (by omega) (fun again k b hb => ?_) (fun again => ?_)).trans ?_
  ·have hk := Zi hb
   have p1 : Zhf (m.map PV.bool) (.int .i64 (k : Int)) = some (.int .i64 (k : Int)) := Zl6 (by rw [List.length_map]; omega)
   have q1 : (m.map PV.bool)[k]? = some (.bool b) := by rw [List.getElem?_map, hb]; rfl
   cases b <;> simp only [List.length_map, Zap hk, Zn hk (show m.length ≤ 9223372036854775807 by omega), p1, q1, Bool.false_eq_true, if_false, if_true, EVS]
  ·simp only [List.length_map, ZaP, EVS]
  ·rw [Zau]
   show _ = some (pB (m.all fun b => b))
   cases m.all (fun b => b) <;> rfl
 ·simp only [EVS]
theorem Zlj (n s : Nat) (es : List (Nat × Nat)) (hn : n ≤ 1000) (hs : s < n) (hl : es.length ≤ 100000) (hes : ∀ e ∈ es, e.1 < n ∧ e.2 < n) : Zdf [pI (n : Int), .lst (es.map pSt), pI (s : Int)] = some (.lst ((ZcW n es s).map pI)) := by
 have hc : (0 : Int) ≤ (n : Int) ∧ (n : Int) ≤ 1000 ∧ (0 : Int) ≤ (s : Int) ∧ (s : Int) < (n : Int) ∧ es.length ≤ 100000 ∧ (es.all fun e => decide (e.1 < (n : Int).toNat ∧ e.2 < (n : Int).toNat)) = true := by
  refine ⟨by omega, by omega, by omega, by omega, hl, List.all_eq_true.2 fun e he => ?_⟩
  rw [Int.toNat_natCast]
  exact decide_eq_true (hes e he)
 show (match Zk3 (es.map pSt) with
  | some es => if (0 : Int) ≤ (n : Int) ∧ (n : Int) ≤ 1000 ∧ (0 : Int) ≤ (s : Int) ∧ (s : Int) < (n : Int) ∧ es.length ≤ 100000 ∧ (es.all fun e => decide (e.1 < (n : Int).toNat ∧ e.2 < (n : Int).toNat)) = true then some (PV.lst ((ZcW (n : Int).toNat es (s : Int).toNat).map pI)) else none
  | none => none) = _
 rw [Zl0]
 show (if _ then _ else _) = _
 rw [if_pos hc, Int.toNat_natCast, Int.toNat_natCast]
def ZeG (c : PSG) : Bool := (ZgW c.signals && inR c.codes.length 1 300) && !decide ((4000 : Int) < c.arcs.length)
def ZmE (c : PSG) : Bool := c.codes.all fun x => Zax x c.signals.length
def Ze1 (c : PSG) : Bool := c.arcs.all (Zhl c)
def Zf6 (c : PSG) : Bool := (Zp4 c.codes.length (ZkH c) 0).all id
def sgV (c : PSG) : Bool := (ZeG c && ZmE c) && (Ze1 c && Zf6 c)
theorem Zf7 {c : PSG} (h1 : ZeG c = true) (h2 : ZmE c = true) : CodesP c := by
 unfold ZeG inR at h1
 simp only [Bool.and_eq_true, Bool.not_eq_true', decide_eq_true_eq, decide_eq_false_iff_not] at h1
 unfold ZmE at h2
 exact ⟨by omega, by omega, fun x hx => List.all_eq_true.1 h2 x hx, by omega⟩
theorem ZlV {c : PSG} (h : Ze1 c = true) : ZkI c.codes.length c.arcs := fun a ha => by
 have := List.all_eq_true.1 h a ha
 unfold Zhl Zcd at this
 simp only [Bool.and_eq_true] at this
 exact this.1.1
theorem ZpI (c : PSG) (hc : SGFit c) : Zfn [eSG c] = some (pB (sgV c)) := by
 have hcl := hc.codes
 have hal := hc.arcs
 unfold Zz at hcl hal
 have g1 := ZgX c.signals hc.sigs hc.names
 have g2 := ZaW (c.codes.length : Int) 1 300
 have gi : inR (c.codes.length : Int) 1 300 = (decide ((1 : Int) ≤ c.codes.length) && decide ((c.codes.length : Int) ≤ 300)) := rfl
 rw [← gi] at g2
 show (fun x0 => Zfn [x0]) _ = _
 rw [Zor]
 unfold sgV
 cases hpre : ZeG c
 ·unfold ZeG at hpre
  cases c1 : ZgW c.signals
  ·simp only [eSG, List.length_map, g1, c1, EVS]
  cases c2 : inR (c.codes.length : Int) 1 300
  ·simp only [eSG, List.length_map, g1, g2, c1, c2, EVS]
  cases c3 : decide ((4000 : Int) < c.arcs.length)
  ·rw [c1, c2, c3] at hpre; cases hpre
  ·simp only [eSG, List.length_map, g1, g2, c1, c2, c3, EVS]
 have hpre' := hpre
 unfold ZeG at hpre'
 simp only [Bool.and_eq_true, Bool.not_eq_true'] at hpre'
 obtain ⟨⟨c1, c2⟩, c3⟩ := hpre'
 simp only [eSG, List.length_map, g1, g2, c1, c2, c3, EVS]
 refine (congrArg (fun m : Option PV => m.bind fun r => if r.sc = true then some r else none) (Zgt (R := PV) c.codes (fun _ x => Zax x c.signals.length) (some (pB false)) (some (pB (Ze1 c && Zf6 c))) _ hcl (fun again k x hx => ?_) (fun hall again => ?_))).trans ?_
 ·have hk := Zi hx
  have hi : Zq (.lst (c.codes.map PV.str)) (.int .i64 (k : Int)) = some (.str x) := Zo hx
  have g := ZkA x c.signals.length (hc.each x (List.mem_of_getElem? hx))
  cases cb : Zax x c.signals.length <;> simp only [Zap hk, Zn hk hcl, hi, g, cb, Bool.false_eq_true, if_false, if_true, EVS]
 ·rw [Zau] at hall
  have hp := Zf7 hpre hall
  simp only [ZaP, EVS]
  refine (Zgt (R := PV) c.arcs (fun _ a => Zhl c a) (some (pB false)) (some (pB (Zf6 c))) _ hal (fun again k a hx => ?_) (fun hall' again => ?_)).trans ?_
  ·have hk := Zi hx
   have hi : Zq (.lst (c.arcs.map Zar)) (.int .i64 (k : Int)) = some (Zar a) := Zo hx
   have g := Zrx c a hc hp
   simp only [eSG, Zar] at g
   cases cb : Zhl c a <;> simp only [Zar, Zap hk, Zn hk hal, hi, g, cb, ZaC, Zqm, Bool.false_eq_true, if_false, if_true, EVS]
  ·rw [Zau] at hall'
   have g := Zry c hc hp (ZlV hall')
   simp only [eSG] at g
   simp only [ZaP, ZaC, g, EVS]
   rfl
  ·rw [Zau]
   show _ = some (pB (c.arcs.all (Zhl c) && Zf6 c))
   cases c.arcs.all (Zhl c) <;> rfl
 ·rw [Zau]
  show _ = some (pB ((true && c.codes.all (fun x => Zax x c.signals.length)) && (Ze1 c && Zf6 c)))
  cases c.codes.all (fun x => Zax x c.signals.length) <;> simp only [Bool.false_eq_true, if_false, if_true, EVS] <;> rfl
theorem Zf8 (l : List Int) (x : Int) (hl : Zz l) : ZaX [.lst (l.map pI), pI x] = some (pI (ixf (fun a => decide (x = a)) 0 l)) := by
 show (fun x0 x1 => ZaX [x0, x1]) _ _ = _
 rw [ZfK]
 unfold Zz at hl
 simp only [EVS]
 refine (congrArg (fun m : Option PV => m.bind fun r => if r.sc = true then some r else none) (Zds l (fun a => decide (x = a)) _ hl (fun again k a hb => ?_) (fun again => ?_))).trans ?_
 ·have hk := Zi hb
  have hi : Zq (.lst (l.map pI)) (.int .i64 (k : Int)) = some (pI a) := Zo hb
  simp only [Zap hk, Zn hk hl, hi, EVS]
 ·simp only [ZaP, EVS]
  rfl
 ·simp only [EVS]
theorem ZeH (l : List Int) (x : Int) (hl : Zz l) : Zay [.lst (l.map pI), pI x] = some (pB (!ZT (fun _ a => !decide (x = a)) 0 l)) := by
 have g := Zf8 l x hl
 show (fun x0 x1 => Zay [x0, x1]) _ _ = _
 rw [Zet]
 simp only [g, Zep (fun a => decide (x = a)) l 0, EVS]
theorem ZkJ {R : Type} (e : List (Nat × Nat) → Option R) : ∀ (l : List PArc) (k : Nat) (acc : List (Nat × Nat)), Zch (fun (acc : List (Nat × Nat)) (_ : Nat) (a : PArc) => .inl (acc ++ [(a.from_.toNat, a.to_.toNat)])) e k acc l = e (acc ++ l.map fun a => (a.from_.toNat, a.to_.toNat))
 | [], k, acc => by simp [Zch]
 | a :: l, k, acc => by
  show Zch _ e (k + 1) (acc ++ [(a.from_.toNat, a.to_.toNat)]) l = _
  rw [ZkJ e l]
  simp
theorem ZtA (a b : PV) : splice (splice [ZC.pv (.int .i64), ZC.pv (.int .i64)] 0 [a]) 1 [b] = [a, b] := rfl
theorem ZmF (n : Nat) (l : List PArc) (ha : ZkI n l) (hl : l.length ≤ 4000) : Zdu [.lst (l.map Zar)] = some (.lst ((l.map fun a => (a.from_.toNat, a.to_.toNat)).map pSt)) := by
 show (fun x0 => Zdu [x0]) _ = _
 rw [Zlo]
 simp only [List.length_map, EVS]
 refine (ZfS (R := PV) l (fun (acc : List (Nat × Nat)) k => [.lst (acc.map pSt), pI (Int.ofNat k)]) (fun k acc => acc.length = k) (fun (acc : List (Nat × Nat)) _ a => .inl (acc ++ [(a.from_.toNat, a.to_.toNat)])) (fun acc => some (.lst (acc.map pSt))) _ (by omega) (fun acc k x acc' hi hx he => ?_) (fun again acc k a hi hx => ?_) (fun again acc hi => ?_) (b := []) rfl).trans ((ZkJ _ _ _ _).trans ?_)
 ·cases he; simp; omega
 ·have hk := Zi hx
  obtain ⟨f, t, hf, ht, l1, l2⟩ := ZiM ha (List.mem_of_getElem? hx)
  have hi' : Zq (.lst (l.map Zar)) (.int .i64 (k : Int)) = some (Zar a) := Zo hx
  have hla : acc.length + [PV.agg [pI (f : Int), pI (t : Int)]].length ≤ 4294967296 ∧ [PV.agg [pI (f : Int), pI (t : Int)]].all (Zb7 2) = true := ⟨by simp; omega, rfl⟩
  have hps : acc.map pSt ++ [PV.agg [pI (f : Int), pI (t : Int)]] = (acc ++ [(f, t)]).map pSt := by simp [pSt]
  simp only [Zap hk, Zn hk (show l.length ≤ 9223372036854775807 by omega), hi', Zar, hf, ht, Int.toNat_natCast, ZtA, List.length_map, if_pos hla, hps, EVS]
 ·simp only [ZaP, EVS]
 ·rfl
theorem Zf9 (x : Int) : ∀ (l : List Int) (k : Nat), ZT (fun _ a => !decide (x = a)) k l = !decide (x ∈ l)
 | [], k => by simp [ZT]
 | a :: l, k => by
  unfold ZT
  rw [Zf9 x l (k + 1), Bool.eq_iff_iff]
  simp only [Bool.and_eq_true, Bool.not_eq_true', decide_eq_false_iff_not, List.mem_cons, not_or]
theorem ZmG {c : PSG} (h : ZkI c.codes.length c.arcs) : ∀ e ∈ ZkH c, e.1 < c.codes.length ∧ e.2 < c.codes.length := fun e he => by
 unfold ZkH at he
 obtain ⟨a, ha, rfl⟩ := List.mem_map.1 he
 obtain ⟨f, t, hf, ht, l1, l2⟩ := ZiM h ha
 simp only [hf, ht, Int.toNat_natCast]
 exact ⟨l1, l2⟩
theorem ZfI (c : PSG) (hc : SGFit c) : ZaI [eSG c] = some (pB (sgV c)) := by
 have hcl := hc.codes
 have hal := hc.arcs
 have hsl := hc.sigs
 unfold Zz at hcl hal hsl
 have g1 := Zf5 c.signals hc.sigs hc.names
 rw [← ZqM] at g1
 have g2 := Zat (c.codes.length : Int) 1 300
 show (fun x0 => ZaI [x0]) _ = _
 rw [Zfb]
 unfold sgV
 cases hpre : ZeG c
 ·unfold ZeG at hpre
  cases c1 : ZgW c.signals
  ·simp only [eSG, List.length_map, g1, c1, EVS]
  cases c2 : inR (c.codes.length : Int) 1 300
  ·simp only [eSG, List.length_map, g1, g2, c1, c2, EVS]
  cases c3 : decide ((4000 : Int) < c.arcs.length)
  ·rw [c1, c2, c3] at hpre; cases hpre
  ·simp only [eSG, List.length_map, g1, g2, c1, c2, c3, EVS]
 have hpre' := hpre
 unfold ZeG at hpre'
 simp only [Bool.and_eq_true, Bool.not_eq_true'] at hpre'
 obtain ⟨⟨c1, c2⟩, c3⟩ := hpre'
 have hw : IntKind.i64.wrap ((c.codes.length : Int) - 1) = (c.codes.length : Int) - 1 := Zda (by omega) (by omega)
 simp only [eSG, List.length_map, g1, g2, c1, c2, c3, hw, EVS]
 refine (congrArg (fun m : Option PV => m.bind fun r => if r.sc = true then some r else none) (Zgt (R := PV) c.codes (fun _ x => Zax x c.signals.length) (some (pB false)) (some (pB (Ze1 c && Zf6 c))) _ hcl (fun again k x hx => ?_) (fun hall again => ?_))).trans ?_
 ·have hk := Zi hx
  have hi : Zq (.lst (c.codes.map PV.str)) (.int .i64 (k : Int)) = some (.str x) := Zo hx
  have g := ZkB x c.signals.length (hc.each x (List.mem_of_getElem? hx))
  cases cb : Zax x c.signals.length <;> simp only [Zap hk, Zn hk hcl, hi, g, cb, Bool.false_eq_true, if_false, if_true, EVS]
 ·rw [Zau] at hall
  have hp := Zf7 hpre hall
  simp only [ZaP, EVS]
  refine (Zgt (R := PV) c.arcs (fun _ a => Zhl c a) (some (pB false)) (some (pB (Zf6 c))) _ hal (fun again k a hx => ?_) (fun hall' again => ?_)).trans ?_
  ·have hk := Zi hx
   have hi : Zq (.lst (c.arcs.map Zar)) (.int .i64 (k : Int)) = some (Zar a) := Zo hx
   have g3 := Zat a.from_ 0 ((c.codes.length : Int) - 1)
   have g4 := Zat a.to_ 0 ((c.codes.length : Int) - 1)
   have g5 := ZpD a.sig a.up c.signals.length hsl
   unfold Zhl
   cases hg : Zcd c.signals.length ((c.codes.length : Int) - 1) a
   ·unfold Zcd at hg
    cases d1 : inR a.from_ 0 ((c.codes.length : Int) - 1)
    ·simp only [Zar, Zap hk, Zn hk hal, hi, List.length_map, g3, d1, Bool.false_eq_true, if_false, if_true, EVS]
    cases d2 : inR a.to_ 0 ((c.codes.length : Int) - 1)
    ·simp only [Zar, Zap hk, Zn hk hal, hi, List.length_map, g3, g4, d1, d2, Bool.false_eq_true, if_false, if_true, EVS]
    cases d3 : Zd5 c.signals.length a.sig a.up
    ·simp only [Zar, Zap hk, Zn hk hal, hi, List.length_map, g3, g4, g5, d1, d2, d3, ZkF, Bool.false_eq_true, if_false, if_true, EVS]
    ·rw [d1, d2, d3] at hg; cases hg
   ·obtain ⟨f, t, x, y, hf, ht, l1, l2, hx', hy', he⟩ := ZkG hg
    unfold Zcd at hg
    simp only [Bool.and_eq_true] at hg
    have bx := hp.bits x (List.mem_of_getElem? hx')
    have by_ := hp.bits y (List.mem_of_getElem? hy')
    have i1 : Zq (.lst (c.codes.map PV.str)) (.int .i64 (f : Int)) = some (.str x) := Zo hx'
    have i2 : Zq (.lst (c.codes.map PV.str)) (.int .i64 (t : Int)) = some (.str y) := Zo hy'
    have e1 : c.codes.getD f [] = x := by rw [List.getD_eq_getElem?_getD, hx']; rfl
    have e2 : c.codes.getD t [] = y := by rw [List.getD_eq_getElem?_getD, hy']; rfl
    have d1 := hg.1.1
    have d2 := hg.1.2
    have lx := ZeF bx
    have ly := ZeF by_
    have g6 := Zli a x y (hc.each x (List.mem_of_getElem? hx')) (by omega)
    rw [Ztz a.sig a.up x y _ bx by_ he] at g6
    simp only [Zar, hf, ht] at g3 g4 g6 d1 d2
    rw [hf, ht, Int.toNat_natCast, Int.toNat_natCast, e1, e2]
    cases d4 : Zia a.sig a.up x y <;> simp only [Zar, hf, ht, Zap hk, Zn hk hal, hi, List.length_map, g3, g4, g5, g6, d1, d2, he, d4, i1, i2, ZkF, Zqm, Bool.false_eq_true, if_false, if_true, EVS]
  ·rw [Zau] at hall'
   have hin := ZlV hall'
   have g7 := ZmF c.codes.length c.arcs hin hp.arcs
   have g8 := Zlj c.codes.length 0 (ZkH c) (by have := hp.many; omega) hp.one (by have := hp.arcs; unfold ZkH; rw [List.length_map]; omega) (ZmG hin)
   have hd := Zk2 hp.one (ZmG hin)
   have g9 := ZeH (ZcW c.codes.length (ZkH c) 0) (-1) (by unfold Zz; rw [hd.len]; omega)
   have hme : Zf6 c = !decide ((-1 : Int) ∈ ZcW c.codes.length (ZkH c) 0) := Zs4 hp.one (ZmG hin)
   rw [Zf9] at g9
   unfold ZkH at g8
   simp only [ZaP, List.length_map, g7, EVS]
   rw [show (Int.negSucc 0) = (-1 : Int) from rfl]
   simp only [Int.natCast_zero] at g8
   simp only [g8, EVS]
   unfold ZkH at g9 hme
   simp only [g9, hme, Bool.not_not, EVS]
  ·rw [Zau]
   show _ = some (pB (c.arcs.all (Zhl c) && Zf6 c))
   cases c.arcs.all (Zhl c) <;> rfl
 ·rw [Zau]
  show _ = some (pB ((true && c.codes.all (fun x => Zax x c.signals.length)) && (Ze1 c && Zf6 c)))
  cases c.codes.all (fun x => Zax x c.signals.length) <;> simp only [Bool.false_eq_true, if_false, if_true, EVS] <;> rfl
theorem Zoa {R α β : Type} (l : List α) (J : β → Nat → List PV) (Inv : Nat → β → Prop) (step : β → Nat → α → Sum β (Option R)) (e : β → Option R) (f : (List PV → Option R) → List PV → Option R) (hl : l.length ≤ 9223372036854775807)
 (hs : ∀ b k x b', Inv k b → l[k]? = some x → step b k x = .inl b' → Inv (k + 1) b')
 (h1 : ∀ again b k x, Inv k b → l[k]? = some x → f again (J b k) = match step b k x with | .inl b' => again (J b' (k + 1)) | .inr z => z)
 (h2 : ∀ again b, Inv l.length b → f again (J b l.length) = e b) {b : β} {k : Nat} (hk : k ≤ l.length) (hb : Inv k b) : ZD f 18446744073709551616 (J b k) = Zch step e k b (l.drop k) := by
 have key := Zdg (R := R) (fun q : {q : β × Nat // Inv q.2 q.1 ∧ q.2 ≤ l.length} => J q.1.1 q.1.2) (fun q => l.length + 1 - q.1.2) (fun q => Zch step e q.1.2 q.1.1 (l.drop q.1.2)) f (fun again q ih => ?_) 18446744073709551616 ⟨(b, k), hb, hk⟩ (by simp only; omega)
 ·exact key
 ·obtain ⟨⟨b, k⟩, hi, hk⟩ := q
  dsimp only at ih hi hk ⊢
  by_cases hlt : k < l.length
  ·have hx : l[k]? = some l[k] := List.getElem?_eq_getElem hlt
   rw [h1 again b k _ hi hx, List.drop_eq_getElem_cons hlt]
   unfold Zch
   cases hst : step b k l[k] with
   | inl b' => exact ih ⟨(b', k + 1), hs _ _ _ _ hi hx hst, hlt⟩ (by simp only; omega)
   | inr z => rfl
  ·obtain rfl : k = l.length := by omega
   rw [h2 again b hi, List.drop_length]
   rfl
theorem capsA0 : ZcJ 0 (.tup []) = some [] := by simp [ZcJ, PV.parts]
theorem ZgJ (a : PArc) : Za9 [Zar a] = some (pB (decide (a.sig = -1))) := by
 show (fun x0 => Za9 [x0]) _ = _
 rw [Zgp]
 simp only [Zar, EVS]
 rfl
theorem Zbm (l : List PArc) (hl : Zz l) : ZA [.lst (l.map Zar), .tup []] = some (pI (ixf (fun a => decide (a.sig = -1)) 0 l)) := by
 show (fun x0 x1 => ZA [x0, x1]) _ _ = _
 rw [Zbg]
 unfold Zz at hl
 simp only [EVS]
 refine (congrArg (fun m : Option PV => m.bind fun r => if r.sc = true then some r else none) (Zds l (fun a => decide (a.sig = -1)) _ hl (fun again k a hb => ?_) (fun again => ?_))).trans ?_
 ·have hk := Zi hb
  have hi : Zq (.lst (l.map Zar)) (.int .i64 (k : Int)) = some (Zar a) := Zo hb
  have g := ZgJ a
  simp only [Zar] at g
  cases hc : decide (a.sig = -1) <;> simp only [Zap hk, Zn hk hl, hi, Zar, g, hc, capsA0, List.append_nil, List.cons_append, List.nil_append, Bool.false_eq_true, if_false, if_true, EVS]
 ·simp only [ZaP, EVS]
  rfl
 ·simp only [EVS]
def Ze2 (l : List PArc) : Bool := l.any fun a => decide (a.sig = -1)
theorem Za5 (l : List PArc) (hl : Zz l) : Zv [.lst (l.map Zar), .tup []] = some (pB (Ze2 l)) := by
 have g := Zbm l hl
 show (fun x0 x1 => Zv [x0, x1]) _ _ = _
 rw [Za0]
 simp only [g, Zep (fun a : PArc => decide (a.sig = -1)) l 0, EVS]
 rw [Zau, List.all_eq_not_any_not]
 simp only [Bool.not_not]
 rfl
theorem ZmH (c : PSG) (hl : Zz c.arcs) : Zdx [eSG c] = some (pB (c.arcs.any fun a => decide (a.sig < 0))) := by
 unfold Zz at hl
 show (fun x0 => Zdx [x0]) _ = _
 rw [Zlt]
 simp only [eSG, EVS]
 refine (congrArg (fun m : Option PV => m.bind fun r => if r.sc = true then some r else none) (Z5 (R := PV) c.arcs (fun _ a => !decide (a.sig < 0)) (some (pB true)) (some (pB false)) _ hl (fun again k a hx => ?_) (fun again => ?_))).trans ?_
 ·have hk := Zi hx
  have hi : Zq (.lst (c.arcs.map Zar)) (.int .i64 (k : Int)) = some (Zar a) := Zo hx
  cases hc : decide (a.sig < 0) <;> simp only [List.length_map, Zap hk, Zn hk hl, hi, Zar, hc, Bool.not_true, Bool.not_false, Bool.false_eq_true, if_false, if_true, EVS]
 ·simp only [List.length_map, ZaP, EVS]
 ·rw [Zau, List.any_eq_not_all_not]
  cases c.arcs.all (fun a => !decide (a.sig < 0)) <;> simp only [Bool.not_true, Bool.not_false, Bool.false_eq_true, if_false, if_true, EVS]
theorem ZpJ {c : PSG} (h : Ze1 c = true) : (c.arcs.any fun a => decide (a.sig < 0)) = Ze2 c.arcs := by
 unfold Ze2
 rw [Bool.eq_iff_iff, List.any_eq_true, List.any_eq_true]
 constructor
 ·rintro ⟨a, ha, h1⟩
  refine ⟨a, ha, ?_⟩
  have := List.all_eq_true.1 h a ha
  unfold Zhl Zcd Zd5 inR at this
  simp only [Bool.and_eq_true, Bool.or_eq_true, decide_eq_true_eq] at this h1 ⊢
  omega
 ·rintro ⟨a, ha, h1⟩
  refine ⟨a, ha, ?_⟩
  simp only [decide_eq_true_eq] at h1 ⊢
  omega
theorem ZsV (x y : List UInt8 × Int) : eqV (some [(0, TD.str), (1, TD.int IntKind.i64)]) TD.struct (.agg [.str x.1, pI x.2]) (.agg [.str y.1, pI y.2]) = some (decide (x = y)) := by
 have e : decide (x = y) = ((x.1 == y.1) && ((x.2 == y.2) && true)) := by
  rw [Bool.eq_iff_iff]
  simp only [decide_eq_true_eq, Bool.and_eq_true, Prod.ext_iff, beq_iff_eq, and_true]
 rw [e]
 show (some (x.1 == y.1)).bind (fun b => (some ((x.2 == y.2) && true)).map fun c => b && c) = _
 rfl
def Ze3 (l : List (List UInt8 × Int)) (k : Nat) (x : List UInt8 × Int) : Bool := match l[k]? with | some y => decide (x = y) | none => false
theorem ZqS (l m : List (List UInt8 × Int)) (h : l.length = m.length) : ZT (Ze3 m) 0 l = decide (l = m) := by
 rw [Bool.eq_iff_iff, ZkE, decide_eq_true_eq]
 constructor
 ·intro hx
  apply List.ext_getElem h
  intro i h1 h2
  have := hx i l[i] (List.getElem?_eq_getElem h1)
  unfold Ze3 at this
  rw [Nat.zero_add, List.getElem?_eq_getElem h2] at this
  simpa using this
 ·rintro rfl i x hi
  unfold Ze3
  rw [Nat.zero_add, hi]
  simp
theorem ZeI (l m : List (List UInt8 × Int)) (hl : Zz l) : Zaz [.lst (l.map Z7), .lst (m.map Z7)] = some (pB (decide (l = m))) := by
 unfold Zz at hl
 show (fun x0 x1 => Zaz [x0, x1]) _ _ = _
 rw [Zex]
 by_cases hlen : l.length = m.length
 ·have d : decide ((l.length : Int) = (m.length : Int)) = true := by rw [decide_eq_true_eq]; omega
  simp only [List.length_map, d, EVS]
  refine (congrArg (fun m : Option PV => m.bind fun r => if r.sc = true then some r else none) (Z5 (R := PV) l (Ze3 m) (some (pB false)) (some (pB true)) _ hl (fun again k x hx => ?_) (fun again => ?_))).trans ?_
  ·have hk := Zi hx
   have hy : m[k]? = some (m[k]'(by omega)) := List.getElem?_eq_getElem _
   have hi : Zq (.lst (l.map Z7)) (.int .i64 (k : Int)) = some (Z7 x) := Zo hx
   have hj : Zq (.lst (m.map Z7)) (.int .i64 (k : Int)) = some (Z7 (m[k]'(by omega))) := Zo hy
   have hs : Ze3 m k x = decide (x = m[k]'(by omega)) := by unfold Ze3; rw [hy]
   have he := ZsV x (m[k]'(by omega))
   rw [hs]
   cases hc : decide (x = m[k]'(by omega)) <;> simp only [List.length_map, Zap hk, Zn hk hl, hi, hj, Z7, ZbO, he, hc, Bool.not_true, Bool.not_false, Bool.false_eq_true, if_false, if_true, EVS]
  ·simp only [List.length_map, ZaP, EVS]
  ·rw [ZqS l m hlen]
   cases decide (l = m) <;> simp only [Bool.false_eq_true, if_false, if_true, EVS]
 ·have d : decide ((l.length : Int) = (m.length : Int)) = false := by simp only [decide_eq_false_iff_not]; omega
  have hne : decide (l = m) = false := by simp only [decide_eq_false_iff_not]; rintro rfl; exact hlen rfl
  simp only [List.length_map, d, hne, EVS]
theorem Zib (l m : List (List UInt8 × Int)) (hl : Zz l) : ZbR [.lst (l.map Z7), .lst (m.map Z7)] = some (pB (decide (l = m))) := by
 unfold Zz at hl
 show (fun x0 x1 => ZbR [x0, x1]) _ _ = _
 rw [Zhy]
 by_cases hlen : l.length = m.length
 ·have d : decide ((l.length : Int) = (m.length : Int)) = true := by rw [decide_eq_true_eq]; omega
  simp only [List.length_map, d, EVS]
  refine (congrArg (fun m : Option PV => m.bind fun r => if r.sc = true then some r else none) (Z5 (R := PV) l (Ze3 m) (some (pB false)) (some (pB true)) _ hl (fun again k x hx => ?_) (fun again => ?_))).trans ?_
  ·have hk := Zi hx
   have hy : m[k]? = some (m[k]'(by omega)) := List.getElem?_eq_getElem _
   have hi : Zq (.lst (l.map Z7)) (.int .i64 (k : Int)) = some (Z7 x) := Zo hx
   have hj : Zq (.lst (m.map Z7)) (.int .i64 (k : Int)) = some (Z7 (m[k]'(by omega))) := Zo hy
   have hs : Ze3 m k x = decide (x = m[k]'(by omega)) := by unfold Ze3; rw [hy]
   have he := ZsV x (m[k]'(by omega))
   rw [hs]
   cases hc : decide (x = m[k]'(by omega)) <;> simp only [List.length_map, Zap hk, Zn hk hl, hi, hj, Z7, ZbO, he, hc, Bool.not_true, Bool.not_false, Bool.false_eq_true, if_false, if_true, EVS]
  ·simp only [List.length_map, ZaP, EVS]
  ·rw [ZqS l m hlen]
   cases decide (l = m) <;> simp only [Bool.false_eq_true, if_false, if_true, EVS]
 ·have d : decide ((l.length : Int) = (m.length : Int)) = false := by simp only [decide_eq_false_iff_not]; omega
  have hne : decide (l = m) = false := by simp only [decide_eq_false_iff_not]; rintro rfl; exact hlen rfl
  simp only [List.length_map, d, hne, EVS]
def Zhm (a b : PArc) : Bool := (((!decide (a.sig = -1)) && decide (b.from_ = a.from_)) && decide (b.sig = a.sig)) && !decide (b.to_ = a.to_)
def ZmI (a b : PArc) : Bool := ((decide (a.from_ = b.from_) && decide (a.sig = b.sig)) && decide (0 ≤ a.sig)) && !decide (a.to_ = b.to_)
def wE (p : Nat × Nat) : PV := .lst [pI p.1, pI p.2]
def Zcy (w : PArc → PArc → Bool) (i : Nat) (a : PArc) : Nat → List (Nat × Nat) → List PArc → List (Nat × Nat)
 | _, acc, [] => acc
 | k, acc, b :: l => Zcy w i a (k + 1) (if w a b = true then acc ++ [(i, k)] else acc) l
def Ze4 (w : PArc → PArc → Bool) (arcs : List PArc) : Nat → List (Nat × Nat) → List PArc → List (Nat × Nat)
 | _, acc, [] => acc
 | i, acc, a :: l => Ze4 w arcs (i + 1) (Zcy w i a (i + 1) acc (arcs.drop (i + 1))) l
theorem Zga {R : Type} (w : PArc → PArc → Bool) (i : Nat) (a : PArc) (e : List (Nat × Nat) → Option R) : ∀ (l : List PArc) (k : Nat) (acc : List (Nat × Nat)), Zch (fun (acc : List (Nat × Nat)) k b => .inl (if w a b = true then acc ++ [(i, k)] else acc)) e k acc l = e (Zcy w i a k acc l)
 | [], k, acc => rfl
 | b :: l, k, acc => by unfold Zch Zcy; exact Zga w i a e l (k + 1) _
theorem Zgb {R : Type} (w : PArc → PArc → Bool) (arcs : List PArc) (e : List (Nat × Nat) → Option R) : ∀ (l : List PArc) (k : Nat) (acc : List (Nat × Nat)), Zch (fun (acc : List (Nat × Nat)) i a => .inl (Zcy w i a (i + 1) acc (arcs.drop (i + 1)))) e k acc l = e (Ze4 w arcs k acc l)
 | [], k, acc => rfl
 | b :: l, k, acc => by unfold Zch Ze4; exact Zgb w arcs e l (k + 1) _
theorem Zhn (w : PArc → PArc → Bool) (i : Nat) (a : PArc) : ∀ (l : List PArc) (k : Nat) (acc : List (Nat × Nat)), (Zcy w i a k acc l).length ≤ acc.length + l.length
 | [], k, acc => by simp [Zcy]
 | b :: l, k, acc => by
  have := Zhn w i a l (k + 1) (if w a b = true then acc ++ [(i, k)] else acc)
  unfold Zcy
  split at this <;> rename_i h
  ·rw [if_pos h]; simp at this ⊢; omega
  ·rw [if_neg h]; simp at this ⊢; omega
theorem Zic {w w' : PArc → PArc → Bool} (i : Nat) (a : PArc) : ∀ (l : List PArc) (k : Nat) (acc : List (Nat × Nat)), (∀ b ∈ l, w a b = w' a b) → Zcy w i a k acc l = Zcy w' i a k acc l
 | [], k, acc, h => rfl
 | b :: l, k, acc, h => by unfold Zcy; rw [h b List.mem_cons_self]; exact Zic i a l _ _ fun b hb => h b (List.mem_cons_of_mem _ hb)
theorem Zid {w w' : PArc → PArc → Bool} (arcs : List PArc) : ∀ (l : List PArc) (k : Nat) (acc : List (Nat × Nat)), (∀ a ∈ l, ∀ b ∈ arcs, w a b = w' a b) → Ze4 w arcs k acc l = Ze4 w' arcs k acc l
 | [], k, acc, h => rfl
 | a :: l, k, acc, h => by
  unfold Ze4
  rw [Zic k a _ _ _ fun b hb => h a List.mem_cons_self b (List.mem_of_mem_drop hb)]
  exact Zid arcs l _ _ fun a ha => h a (List.mem_cons_of_mem _ ha)
def Zgc (w : PArc → PArc → Bool) (c : PSG) : List (Nat × Nat) := Ze4 w c.arcs 0 [] c.arcs
theorem ZtB {c : PSG} (h : Ze1 c = true) : Zgc ZmI c = Zgc Zhm c := Zid _ _ _ _ fun a ha b hb => by
 have := List.all_eq_true.1 h a ha
 unfold Zhl Zcd Zd5 inR at this
 simp only [Bool.and_eq_true, Bool.or_eq_true, decide_eq_true_eq] at this
 have h1 : a.sig = -1 ∨ 0 ≤ a.sig := by omega
 unfold ZmI Zhm
 rw [Bool.eq_iff_iff]
 simp only [Bool.and_eq_true, Bool.not_eq_true', decide_eq_true_eq, decide_eq_false_iff_not]
 omega
theorem Zob (c : PSG) (hl : c.arcs.length ≤ 4000) : Zef [eSG c] = some (.lst ((Zgc Zhm c).map wE)) := by
 show (fun x0 => Zef [x0]) _ = _
 rw [Zm5]
 simp only [eSG, EVS]
 refine (ZfS (R := PV) c.arcs (fun (acc : List (Nat × Nat)) i => [.lst (acc.map wE), pI (Int.ofNat i)]) (fun i acc => acc.length ≤ i * 4000) (fun acc i a => .inl (Zcy Zhm i a (i + 1) acc (c.arcs.drop (i + 1)))) (fun acc => some (.lst (acc.map wE))) _ (by omega) (fun acc i a acc' hi hx he => ?_) (fun again acc i a hi hx => ?_) (fun again acc hi => ?_) (b := []) (by simp)).trans (Zgb _ _ _ _ _ _)
 ·cases he
  have := Zhn Zhm i a (c.arcs.drop (i + 1)) (i + 1) acc
  simp at this
  omega
 ·have hk := Zi hx
  have hi' : Zq (.lst (c.arcs.map Zar)) (.int .i64 (i : Int)) = some (Zar a) := Zo hx
  have hnx := Zn hk (show c.arcs.length ≤ 9223372036854775807 by omega)
  simp only [List.length_map, Zap hk, hnx, hi', Zar, EVS]
  refine (Zoa (R := PV) c.arcs (fun (acc : List (Nat × Nat)) k => [.lst (acc.map wE), pI (Int.ofNat k)]) (fun k acc => acc.length ≤ i * 4000 + k) (fun acc k b => .inl (if Zhm a b = true then acc ++ [(i, k)] else acc)) (fun acc => again [.lst (acc.map wE), pI (Int.ofNat (i + 1))]) _ (by omega) (fun acc k b acc' hi hx he => ?_) (fun again' acc k b hi2 hx2 => ?_) (fun again' acc hi => ?_) (b := acc) (k := i + 1) (show i + 1 ≤ c.arcs.length from hk) (show acc.length ≤ i * 4000 + (i + 1) from Nat.le_trans hi (Nat.le_add_right _ _))).trans (Zga _ _ _ _ _ _ _)
  ·cases he
   show (if Zhm a b = true then acc ++ [(i, k)] else acc).length ≤ i * 4000 + (k + 1)
   have hi : acc.length ≤ i * 4000 + k := hi
   cases Zhm a b
   ·rw [if_neg (by decide)]; omega
   ·rw [if_pos rfl, List.length_append, List.length_singleton]; omega
  ·have hk2 := Zi hx2
   have hj : Zq (.lst (c.arcs.map Zar)) (.int .i64 (k : Int)) = some (Zar b) := Zo hx2
   have hla : acc.length + [PV.lst [pI (i : Int), pI (k : Int)]].length ≤ 4294967296 ∧ [PV.lst [pI (i : Int), pI (k : Int)]].all (Zb7 1) = true := ⟨by simp; omega, rfl⟩
   have hps : acc.map wE ++ [PV.lst [pI (i : Int), pI (k : Int)]] = (acc ++ [(i, k)]).map wE := by simp [wE]
   unfold Zhm
   simp only [List.length_map, Zap hk2, Zn hk2 (show c.arcs.length ≤ 9223372036854775807 by omega), hj, Zar, EVS]
   rw [show Int.negSucc 0 = (-1 : Int) from rfl]
   have hok : ([PV.lst [pI (i : Int), pI (k : Int)]].all fun x => Zb7 1 x) = true := rfl
   cases c1 : decide (a.sig = -1) <;> cases c2 : decide (b.from_ = a.from_) <;> cases c3 : decide (b.sig = a.sig) <;> cases c4 : decide (b.to_ = a.to_) <;> simp only [c1, c2, c3, c4, if_pos hla, hps, if_pos hok, EVS]
  ·simp only [List.length_map, ZaP, hnx, EVS]
 ·simp only [List.length_map, ZaP, EVS]
theorem ZpK (c : PSG) (hl : c.arcs.length ≤ 4000) : Zfp [eSG c] = some (.lst ((Zgc ZmI c).map wE)) := by
 show (fun x0 => Zfp [x0]) _ = _
 rw [Zot]
 simp only [eSG, EVS]
 refine (ZfS (R := PV) c.arcs (fun (acc : List (Nat × Nat)) i => [.lst (acc.map wE), pI (Int.ofNat i)]) (fun i acc => acc.length ≤ i * 4000) (fun acc i a => .inl (Zcy ZmI i a (i + 1) acc (c.arcs.drop (i + 1)))) (fun acc => some (.lst (acc.map wE))) _ (by omega) (fun acc i a acc' hi hx he => ?_) (fun again acc i a hi hx => ?_) (fun again acc hi => ?_) (b := []) (by simp)).trans (Zgb _ _ _ _ _ _)
 ·cases he
  have := Zhn ZmI i a (c.arcs.drop (i + 1)) (i + 1) acc
  simp at this
  omega
 ·have hk := Zi hx
  have hi' : Zq (.lst (c.arcs.map Zar)) (.int .i64 (i : Int)) = some (Zar a) := Zo hx
  have hnx := Zn hk (show c.arcs.length ≤ 9223372036854775807 by omega)
  simp only [List.length_map, Zap hk, hnx, hi', Zar, EVS]
  refine (Zoa (R := PV) c.arcs (fun (acc : List (Nat × Nat)) k => [.lst (acc.map wE), pI (Int.ofNat k)]) (fun k acc => acc.length ≤ i * 4000 + k) (fun acc k b => .inl (if ZmI a b = true then acc ++ [(i, k)] else acc)) (fun acc => again [.lst (acc.map wE), pI (Int.ofNat (i + 1))]) _ (by omega) (fun acc k b acc' hi hx he => ?_) (fun again' acc k b hi2 hx2 => ?_) (fun again' acc hi => ?_) (b := acc) (k := i + 1) (show i + 1 ≤ c.arcs.length from hk) (show acc.length ≤ i * 4000 + (i + 1) from Nat.le_trans hi (Nat.le_add_right _ _))).trans (Zga _ _ _ _ _ _ _)
  ·cases he
   show (if ZmI a b = true then acc ++ [(i, k)] else acc).length ≤ i * 4000 + (k + 1)
   have hi : acc.length ≤ i * 4000 + k := hi
   cases ZmI a b
   ·rw [if_neg (by decide)]; omega
   ·rw [if_pos rfl, List.length_append, List.length_singleton]; omega
  ·have hk2 := Zi hx2
   have hj : Zq (.lst (c.arcs.map Zar)) (.int .i64 (k : Int)) = some (Zar b) := Zo hx2
   have hla : acc.length + [PV.lst [pI (i : Int), pI (k : Int)]].length ≤ 4294967296 ∧ [PV.lst [pI (i : Int), pI (k : Int)]].all (Zb7 1) = true := ⟨by simp; omega, rfl⟩
   have hps : acc.map wE ++ [PV.lst [pI (i : Int), pI (k : Int)]] = (acc ++ [(i, k)]).map wE := by simp [wE]
   unfold ZmI
   simp only [List.length_map, Zap hk2, Zn hk2 (show c.arcs.length ≤ 9223372036854775807 by omega), hj, Zar, EVS]
   have hok : ([PV.lst [pI (i : Int), pI (k : Int)]].all fun x => Zb7 1 x) = true := rfl
   cases c1 : decide (a.from_ = b.from_) <;> cases c2 : decide (a.sig = b.sig) <;> cases c3 : decide (0 ≤ a.sig) <;> cases c4 : decide (a.to_ = b.to_) <;> simp only [c1, c2, c3, c4, if_pos hla, hps, if_pos hok, EVS]
  ·simp only [List.length_map, ZaP, hnx, EVS]
 ·simp only [List.length_map, ZaP, EVS]
theorem Zgy {c : PSG} (h : sgV c = true) : ZeG c = true ∧ ZmE c = true ∧ Ze1 c = true ∧ Zf6 c = true := by
 unfold sgV at h
 simp only [Bool.and_eq_true] at h
 exact ⟨h.1.1, h.1.2, h.2.1, h.2.2⟩
theorem Zoc {c : PSG} (h : sgV c = true) : c.arcs.length ≤ 4000 := by
 have := (Zgy h).1
 unfold ZeG at this
 simp only [Bool.and_eq_true, Bool.not_eq_true', decide_eq_false_iff_not] at this
 omega
def ZqT (c : PSG) (n : PNet) : Bool := ((!Ze2 c.arcs) && decide (((Zgc Zhm c).length : Int) = 0)) && decide (c.signals = n.signals)
def goP (c : PSG) (n : PNet) : Bool := (sgV c && ZfH n) && ZqT c n
theorem Zrz (c : PSG) (n : PNet) (hc : SGFit c) (hn : n.Fit) : ZgF [eSG c, Zam n] = some (pB (goP c n)) := by
 have g1 := ZpI c hc
 have g2 := Zn6 n hn
 show (fun x0 x1 => ZgF [x0, x1]) _ _ = _
 rw [Zp1]
 unfold goP ZqT
 simp only [eSG, Zam] at g1 g2
 cases c1 : sgV c
 ·rw [c1] at g1; simp only [eSG, Zam, ZbO, ZaC, g1, EVS]
 cases c2 : ZfH n
 ·rw [c1] at g1; rw [c2] at g2; simp only [eSG, Zam, ZbO, ZaC, g1, g2, EVS]
 rw [c1] at g1; rw [c2] at g2
 have g3 := ZmH c hc.arcs
 rw [ZpJ (Zgy c1).2.2.1] at g3
 have g4 := ZpK c (Zoc c1)
 rw [ZtB (Zgy c1).2.2.1] at g4
 have g5 := Zib c.signals n.signals hc.sigs
 simp only [eSG] at g3 g4
 cases c3 : Ze2 c.arcs
 ·rw [c3] at g3
  cases c4 : decide (((Zgc Zhm c).length : Int) = 0)
  ·simp only [eSG, Zam, ZbO, ZaC, g1, g2, g3, g4, c4, List.length_map, EVS]
  ·simp only [eSG, Zam, ZbO, ZaC, g1, g2, g3, g4, g5, c4, List.length_map, EVS]
 ·rw [c3] at g3; simp only [eSG, Zam, ZbO, ZaC, g1, g2, g3, EVS]
theorem Zho (c : PSG) (n : PNet) (hc : SGFit c) (hn : n.Fit) : ZaY [eSG c, Zam n] = some (.tup [pB (goP c n), pB (sgV c && ZfH n)]) := by
 have g1 := ZfI c hc
 have g2 := Zhj n hn
 rw [← net_eq] at g2
 have g3 := Za5 c.arcs hc.arcs
 have g5 := ZeI c.signals n.signals hc.sigs
 show (fun x0 x1 => ZaY [x0, x1]) _ _ = _
 rw [Zhs]
 unfold goP ZqT
 simp only [eSG, Zam] at g1 g2
 cases c1 : sgV c
 ·rw [c1] at g1; simp only [eSG, Zam, ZbO, ZaC, g1, EVS]; rfl
 cases c2 : ZfH n
 ·rw [c1] at g1; rw [c2] at g2; simp only [eSG, Zam, ZbO, ZaC, g1, g2, EVS]; rfl
 rw [c1] at g1; rw [c2] at g2
 have g4 := Zob c (Zoc c1)
 simp only [eSG] at g4
 cases c3 : Ze2 c.arcs
 ·rw [c3] at g3
  cases c4 : decide (((Zgc Zhm c).length : Int) = 0)
  ·simp only [eSG, Zam, ZbO, ZaC, g1, g2, g3, g4, c4, List.length_map, EVS]; rfl
  ·simp only [eSG, Zam, ZbO, ZaC, g1, g2, g3, g4, g5, c4, List.length_map, EVS]; rfl
 ·rw [c3] at g3; simp only [eSG, Zam, ZbO, ZaC, g1, g2, g3, EVS]; rfl
theorem Zhp {R : Type} (a b : Nat) (st : Nat → List PV) (e : Option R) (f : (List PV → Option R) → List PV → Option R) (hm : b ≤ 9223372036854775807)
 (h1 : ∀ again k, a ≤ k → k < b → f again (st k) = again (st (k + 1)))
 (h2 : ∀ again, f again (st b) = e) (hab : a ≤ b) (J : List PV) (hJ : st a = J) : ZD f 18446744073709551616 J = e := by
 subst hJ
 have key := Zdg (R := R) (fun k : {k : Nat // a ≤ k ∧ k ≤ b} => st k.1) (fun k => b + 1 - k.1) (fun _ => e) f (fun again k ih => ?_) 18446744073709551616 ⟨a, Nat.le_refl _, hab⟩ (by simp only; omega)
 ·exact key
 ·obtain ⟨k, hk, hk2⟩ := k
  dsimp only at ih ⊢
  by_cases c : k < b
  ·rw [h1 again k hk c]
   exact ih ⟨k + 1, by omega, c⟩ (by simp only; omega)
  ·obtain rfl : k = b := by omega
   exact h2 again
def Zck (good : Nat → Bool) (k : Nat) : List Int := ((List.range k).filter good).map fun (i : Nat) => Int.ofNat i
theorem ZkK (good : Nat → Bool) (k : Nat) : (Zck good k).length ≤ k := by
 unfold Zck
 rw [List.length_map]
 exact Nat.le_trans (List.length_filter_le _ _) (by simp)
theorem ZpL {good : Nat → Bool} {k : Nat} (h : good k = true) : Zck good (k + 1) = Zck good k ++ [(k : Int)] := by
 unfold Zck
 rw [List.range_succ, List.filter_append]
 simp [h]
theorem ZrA {good : Nat → Bool} {k : Nat} (h : good k = false) : Zck good (k + 1) = Zck good k := by
 unfold Zck
 rw [List.range_succ, List.filter_append]
 simp [h]
def ZL (n : PNet) (s : List UInt8) (k : Nat) : Bool := match n.wires[k]? with | some w => Zh8 n s k w != Zjn s k | none => false
theorem ZkL (n : PNet) (s : List UInt8) (hn : n.Fit) (hs : Zz s) (hv : Ze0 n s = true) (hb : n.wires.length ≤ 1048576) : ZcQ [Zam n, .str s] = some (.lst ((Zck (ZL n s) n.wires.length).map pI)) := by
 show (fun x0 x1 => ZcQ [x0, x1]) _ _ = _
 rw [Zjr]
 simp only [Zam, EVS]
 refine (congrArg (fun m : Option PV => m) (Zhp (R := PV) 0 n.wires.length (fun k => [.lst ((Zck (ZL n s) k).map pI), pI (Int.ofNat k)]) (some (.lst ((Zck (ZL n s) n.wires.length).map pI))) _ (by omega) (fun again k h1 h2 => ?_) (fun again => ?_) (Nat.zero_le _) _ (by simp [Zck]))).trans ?_
 ·have ha := at_of n s k hn hs hv h2
  have a1 := Zn8 n s k _ ha
  simp only [Zam] at a1
  have hk : k < s.length := ha.lt
  have hby := Zs (k := .i64) (List.getElem?_eq_getElem hk)
  have ho : Zjn s k = decide ((s[k].toNat : Int) = 49) := by unfold Zjn; rw [List.getElem?_eq_getElem hk]
  have he : ZL n s k = (Zh8 n s k n.wires[k] != Zjn s k) := by unfold ZL; rw [List.getElem?_eq_getElem h2]
  have hl : (Zck (ZL n s) k).length + [pI (k : Int)].length ≤ 4294967296 ∧ [pI (k : Int)].all (Zb7 1) = true := ⟨by have := ZkK (ZL n s) k; simp; omega, rfl⟩
  have he' : (!Zh8 n s k n.wires[k] == decide ((s[k].toNat : Int) = 49)) = ZL n s k := by rw [he, ho]; rfl
  have hm : n.wires.length ≤ 9223372036854775807 := by omega
  simp only [Zap h2, hby, a1, he', EVS]
  cases hE : ZL n s k
  ·simp only [Zn h2 hm, ZrA hE, EVS]
  ·simp only [if_pos hl, Zn h2 hm, ZpL hE, List.map_append, List.map_cons, List.map_nil, EVS]
 ·simp only [ZaP, EVS]
 ·rfl
theorem Zie (n : PNet) (s : List UInt8) (k : Nat) (hn : n.Fit) (hs : Zz s) (hv : Ze0 n s = true) (h2 : k < n.wires.length) : ZbQ [Zam n, .str s, pI k] = some (pB (ZL n s k)) := by
 have ha := at_of n s k hn hs hv h2
 have a1 := ZmC n s k _ ha
 simp only [Zam] at a1
 have hk : k < s.length := ha.lt
 have hby := Zs (k := .i64) (List.getElem?_eq_getElem hk)
 have he : ZL n s k = (Zh8 n s k n.wires[k] != decide ((s[k].toNat : Int) = 49)) := by unfold ZL Zjn; rw [List.getElem?_eq_getElem h2, List.getElem?_eq_getElem hk]
 have hbit : Zh7 s[k] = true := by
  unfold Ze0 Zax at hv
  simp only [Bool.and_eq_true] at hv
  exact Zh9 _ _ _ hv.2.1 k _ (List.getElem?_eq_getElem hk)
 unfold Zh7 at hbit
 simp only [Bool.or_eq_true, decide_eq_true_eq] at hbit
 show (fun x0 x1 x2 => ZbQ [x0, x1, x2]) _ _ _ = _
 rw [Zhu]
 simp only [Zam, a1, hby, Ztx, he, EVS]
 cases Zh8 n s k n.wires[k] <;> rcases hbit with h | h <;> rw [h] <;> rfl
theorem ZiN {n : PNet} (h : ZfH n = true) : n.signals.length ≤ n.wires.length ∧ n.wires.length ≤ 24 := by
 unfold ZfH at h
 simp only [Bool.and_eq_true, Bool.not_eq_true', decide_eq_false_iff_not] at h
 omega
def Zod (a : PArc) : ZdD := (a.from_, a.sig, a.up, a.to_)
def ZkM (c : PSG) : List (List Int) := ZcC c.codes.length c.signals.length (c.arcs.map Zod)
def toC (c : PSG) (k s : Nat) : Int := Zdp (ZkM c) k s
structure Go1 (c : PSG) (n : PNet) : Prop where
 net : ZfH n = true
 one : 1 ≤ c.codes.length
 many : c.codes.length ≤ 300
 sone : 1 ≤ c.signals.length
 smany : c.signals.length ≤ 8
 few : c.arcs.length ≤ 4000
 bits : ∀ x ∈ c.codes, Zax x c.signals.length = true
 arcs : ∀ a ∈ c.arcs, 0 ≤ a.from_ ∧ a.from_ < c.codes.length ∧ 0 ≤ a.to_ ∧ a.to_ < c.codes.length ∧ 0 ≤ a.sig ∧ a.sig < c.signals.length
 det : ∀ a ∈ c.arcs, ∀ b ∈ c.arcs, a.from_ = b.from_ → a.sig = b.sig → a.to_ = b.to_
 same : c.signals = n.signals
 fitc : SGFit c
 fitn : n.Fit
theorem ZkN (w : PArc → PArc → Bool) (i : Nat) (a : PArc) : ∀ (l : List PArc) (k : Nat) (acc : List (Nat × Nat)), Zcy w i a k acc l = [] → acc = [] ∧ ∀ b ∈ l, w a b = false
 | [], k, acc, h => ⟨h, by simp⟩
 | b :: l, k, acc, h => by
  unfold Zcy at h
  obtain ⟨h1, h2⟩ := ZkN w i a l (k + 1) _ h
  cases c : w a b
  ·rw [c] at h1
   simp only [Bool.false_eq_true, if_false] at h1
   refine ⟨h1, fun x hx => ?_⟩
   rcases List.mem_cons.1 hx with rfl | hx
   ·exact c
   ·exact h2 x hx
  ·rw [c] at h1
   simp at h1
theorem ZkO (w : PArc → PArc → Bool) (arcs : List PArc) : ∀ (l : List PArc) (k : Nat) (acc : List (Nat × Nat)), Ze4 w arcs k acc l = [] → acc = [] ∧ ∀ (i : Nat) (a : PArc), l[i]? = some a → ∀ b ∈ arcs.drop (k + i + 1), w a b = false
 | [], k, acc, h => ⟨h, by simp⟩
 | a :: l, k, acc, h => by
  unfold Ze4 at h
  obtain ⟨h1, h2⟩ := ZkO w arcs l (k + 1) _ h
  obtain ⟨h3, h4⟩ := ZkN w _ a _ _ _ h1
  refine ⟨h3, fun i x hx => ?_⟩
  cases i with
  | zero => simp at hx; subst hx; exact h4
  | succ i =>
   have := h2 i x (by simpa using hx)
   rwa [show k + 1 + i + 1 = k + (i + 1) + 1 by omega] at this
theorem ZrB {c : PSG} (h : ZeG c = true) : 1 ≤ c.signals.length ∧ c.signals.length ≤ 8 := by
 unfold ZeG ZgW inR at h
 simp only [Bool.and_eq_true, decide_eq_true_eq] at h
 omega
theorem ZmJ {c : PSG} {n : PNet} (h : goP c n = true) (hc : SGFit c) (hn : n.Fit) : Go1 c n := by
 unfold goP ZqT at h
 simp only [Bool.and_eq_true, Bool.not_eq_true', decide_eq_true_eq] at h
 obtain ⟨⟨hs, hnet⟩, ⟨hh, hw⟩, hsame⟩ := h
 obtain ⟨h1, h2, h3, h4⟩ := Zgy hs
 have hp := Zf7 h1 h2
 have hsg := ZrB h1
 have harc : ∀ a ∈ c.arcs, 0 ≤ a.from_ ∧ a.from_ < c.codes.length ∧ 0 ≤ a.to_ ∧ a.to_ < c.codes.length ∧ 0 ≤ a.sig ∧ a.sig < c.signals.length := fun a ha => by
  have h5 := List.all_eq_true.1 h3 a ha
  have h6 : a.sig ≠ -1 := fun e => by
   have : Ze2 c.arcs = true := List.any_eq_true.2 ⟨a, ha, decide_eq_true e⟩
   rw [this] at hh; cases hh
  unfold Zhl Zcd Zd5 inR at h5
  simp only [Bool.and_eq_true, Bool.or_eq_true, decide_eq_true_eq] at h5
  omega
 refine ⟨hnet, hp.one, hp.many, hsg.1, hsg.2, hp.arcs, hp.bits, harc, ?_, hsame, hc, hn⟩
 have hways : Zgc Zhm c = [] := List.length_eq_zero_iff.1 (by omega)
 have hkey := (ZkO Zhm c.arcs c.arcs 0 [] hways).2
 have hlt : ∀ (i j : Nat) (a b : PArc), i < j → c.arcs[i]? = some a → c.arcs[j]? = some b → a.from_ = b.from_ → a.sig = b.sig → a.to_ = b.to_ := fun i j a b hij hi hj e1 e2 => by
  have := hkey i a hi b (by
   rw [Nat.zero_add]
   refine List.mem_of_getElem? (i := j - (i + 1)) ?_
   rw [List.getElem?_drop, show i + 1 + (j - (i + 1)) = j by omega]
   exact hj)
  have h6 := (harc a (List.mem_of_getElem? hi)).2.2.2.2.1
  unfold Zhm at this
  simp only [e1, e2, decide_true, Bool.and_true, Bool.true_and] at this
  have hn1 : decide (b.sig = -1) = false := by simp only [decide_eq_false_iff_not]; omega
  rw [hn1] at this
  simp only [Bool.not_false, Bool.true_and, Bool.not_eq_false', decide_eq_true_eq] at this
  exact this.symm
 intro a ha b hb e1 e2
 obtain ⟨i, hi⟩ := List.getElem?_of_mem ha
 obtain ⟨j, hj⟩ := List.getElem?_of_mem hb
 rcases Nat.lt_trichotomy i j with h | h | h
 ·exact hlt i j a b h hi hj e1 e2
 ·subst h; rw [hi] at hj; cases hj; rfl
 ·exact (hlt j i b a h hj hi e1.symm e2.symm).symm
theorem Zoe {c : PSG} {n : PNet} (h : Go1 c n) {k s : Nat} (hk : k < c.codes.length) (hs : s < c.signals.length) :
 (∃ a ∈ c.arcs, (a.from_ = (k : Int) ∧ a.sig = (s : Int)) ∧ toC c k s = a.to_) ∨ (toC c k s = -1 ∧ ∀ a ∈ c.arcs, ¬ (a.from_ = (k : Int) ∧ a.sig = (s : Int))) := by
 rcases ZoO hk hs (c.arcs.map Zod) with ⟨q, hq, h1, h2⟩ | ⟨h1, h2⟩
 ·obtain ⟨a, ha, rfl⟩ := List.mem_map.1 hq
  have := h.arcs a ha
  refine .inl ⟨a, ha, ?_, h2⟩
  unfold Zod at h1
  dsimp only at h1
  omega
 ·refine .inr ⟨h1, fun a ha hc => ?_⟩
  have := h.arcs a ha
  refine h2 (Zod a) (List.mem_map.2 ⟨a, ha, rfl⟩) ?_
  unfold Zod
  dsimp only
  omega
theorem Zof {R : Type} (q : PArc → Bool) (z : PArc → Option R) (e : Option R) : ∀ (l : List PArc) (k : Nat), rgo (fun _ a => if q a = true then some (z a) else none) e k l = match l.find? q with | some a => z a | none => e
 | [], k => rfl
 | a :: l, k => by
  unfold rgo
  rw [List.find?_cons]
  cases c : q a
  ·simp only [Bool.false_eq_true, if_false]
   exact Zof q z e l (k + 1)
  ·simp
theorem ZrC (c : PSG) (n : PNet) (k s : Nat) (h : Go1 c n) (hk : k < c.codes.length) (hs : s < c.signals.length) : Zgz [eSG c, pI (k : Int), pI (s : Int)] = some (pI (toC c k s)) := by
 have hl := h.few
 show (fun x0 x1 x2 => Zgz [x0, x1, x2]) _ _ _ = _
 rw [ZpR]
 simp only [eSG, List.length_map, EVS]
 refine (congrArg (fun m : Option PV => m.bind fun r => if r.sc = true then some r else none) ((ZoY (R := PV) c.arcs (fun _ a => if (decide (a.from_ = (k : Int)) && decide (a.sig = (s : Int))) = true then some (some (pI a.to_)) else none) (some (pI (-1))) _ (by omega) (fun again j a ha => ?_) (fun again => ?_)).trans (Zof _ _ _ _ _))).trans ?_
 ·have hj := Zi ha
  have hi : Zq (.lst (c.arcs.map Zar)) (.int .i64 (j : Int)) = some (Zar a) := Zo ha
  cases c1 : decide (a.from_ = (k : Int)) <;> cases c2 : decide (a.sig = (s : Int)) <;> simp only [Zap hj, Zn hj (show c.arcs.length ≤ 9223372036854775807 by omega), hi, Zar, c1, c2, Bool.false_eq_true, if_false, if_true, EVS]
 ·simp only [ZaP, EVS]
  rfl
 ·cases hf : c.arcs.find? (fun a => decide (a.from_ = (k : Int)) && decide (a.sig = (s : Int))) with
  | none =>
   have hno := List.find?_eq_none.1 hf
   rcases Zoe h hk hs with ⟨a, ha, h1, h2⟩ | ⟨h1, h2⟩
   ·exact absurd (by simp [h1]) (hno a ha)
   ·rw [h1]; rfl
  | some a =>
   have ha := List.mem_of_find?_eq_some hf
   have hq := List.find?_some hf
   simp only [Bool.and_eq_true, decide_eq_true_eq] at hq
   rcases Zoe h hk hs with ⟨b, hb, h1, h2⟩ | ⟨h1, h2⟩
   ·rw [h2, h.det b hb a ha (by omega) (by omega)]; rfl
   ·exact absurd hq (h2 a ha)
def Zlk (c : PSG) (n : PNet) : PV := .agg [.lst (c.signals.map Z7), .lst (c.codes.map PV.str), .lst (c.arcs.map Zar), .lst (n.signals.map Z7), .lst (n.wires.map Zac), .lst ((ZkM c).map ZoQ)]
def zSys : PV := .agg [.lst [], .lst [], .lst [], .lst [], .lst [], .lst []]
set_option maxRecDepth 20000 in
theorem Zll (c : PSG) (n : PNet) (hc : SGFit c) (hn : n.Fit) : Zdv [eSG c, Zam n] = some (.tup [if goP c n = true then Zlk c n else zSys, pB (goP c n)]) := by
 have g := Zho c n hc hn
 show (match ZaY [eSG c, Zam n] with
  | some (.tup [.bool is, .bool ok]) =>
   match ok && is with
   | true => match ZfA (c.arcs.map Zar) with
    | some ars => if 1 ≤ (c.signals.map Z7).length ∧ (c.signals.map Z7).length ≤ 1048576 ∧ (c.codes.map PV.str).length ≤ 1000000 ∧ (ars.all (Zio (c.codes.map PV.str).length (c.signals.map Z7).length)) = true then some (PV.tup [.agg [.lst (c.signals.map Z7), .lst (c.codes.map PV.str), .lst (c.arcs.map Zar), .lst (n.signals.map Z7), .lst (n.wires.map Zac), .lst ((ZcC (c.codes.map PV.str).length (c.signals.map Z7).length ars).map ZoQ)], .bool true]) else none
    | none => none
   | false => some (PV.tup [.agg [.lst [], .lst [], .lst [], .lst [], .lst [], .lst []], .bool false])
  | _ => none) = _
 rw [g]
 have hgo : ((sgV c && ZfH n) && goP c n) = goP c n := by
  unfold goP
  cases sgV c <;> cases ZfH n <;> simp
 show (match ((sgV c && ZfH n) && goP c n) with
  | true => match ZfA (c.arcs.map Zar) with
   | some ars => if 1 ≤ (c.signals.map Z7).length ∧ (c.signals.map Z7).length ≤ 1048576 ∧ (c.codes.map PV.str).length ≤ 1000000 ∧ (ars.all (Zio (c.codes.map PV.str).length (c.signals.map Z7).length)) = true then some (PV.tup [.agg [.lst (c.signals.map Z7), .lst (c.codes.map PV.str), .lst (c.arcs.map Zar), .lst (n.signals.map Z7), .lst (n.wires.map Zac), .lst ((ZcC (c.codes.map PV.str).length (c.signals.map Z7).length ars).map ZoQ)], .bool true]) else none
   | none => none
  | false => some (PV.tup [.agg [.lst [], .lst [], .lst [], .lst [], .lst [], .lst []], .bool false])) = _
 rw [hgo]
 cases hg : goP c n
 ·rfl
 ·have h := ZmJ hg hc hn
  have ha : ZfA (c.arcs.map Zar) = some (c.arcs.map Zod) := by
   have : c.arcs.map Zar = (c.arcs.map Zod).map pArc := by rw [List.map_map]; rfl
   rw [this, Zk5]
  dsimp only
  rw [ha]
  dsimp only
  rw [if_pos]
  ·simp only [if_true, List.length_map]; rfl
  ·simp only [List.length_map]
   have h1 := h.sone
   have h2 := h.smany
   have h3 := h.many
   refine ⟨h1, by omega, by omega, List.all_eq_true.2 fun q hq => ?_⟩
   obtain ⟨a, ha, rfl⟩ := List.mem_map.1 hq
   have := h.arcs a ha
   unfold Zio Zod
   simp only [decide_eq_true_eq]
   omega
def ePs (b : PSt) : PV := .agg [pI b.state, .str b.values]
theorem ZsW (a b c d e f : PV) : Zc true 3 2 [a, b, c, d, e, f] = some (.agg [d, e]) := rfl
theorem ZsX (a b c d e f a' b' c' d' e' f' : PV) : splice [a, b, c, d, e, f] 0 [a', b', c', d', e', f'] = [a', b', c', d', e', f'] := rfl
theorem pv_6 (a b c d e f : PV) : Zc true 0 6 [a, b, c, d, e, f] = some (.agg [a, b, c, d, e, f]) := rfl
theorem Go1.vals {c : PSG} {n : PNet} (h : Go1 c n) {v : List UInt8} (hb : Zax v n.wires.length = true) : Ze0 n v = true ∧ Zz v ∧ v.length = n.wires.length ∧ n.wires.length ≤ 24 ∧ n.signals.length ≤ n.wires.length ∧ n.signals.length = c.signals.length := by
 have h1 := ZiN h.net
 have h2 := (ZlT.1 hb).2
 refine ⟨by unfold Ze0; rw [h.net, hb]; rfl, by unfold Zz; omega, h2, h1.2, h1.1, by rw [h.same]⟩
theorem Go1.code {c : PSG} {n : PNet} (h : Go1 c n) : ∃ x, c.codes[0]? = some x ∧ Zax x n.signals.length = true := by
 have h1 := h.one
 refine ⟨c.codes[0], List.getElem?_eq_getElem (by omega), ?_⟩
 rw [← h.same]
 exact h.bits _ (List.getElem_mem _)
theorem ZtC (c : PSG) {k : Nat} (hk : k < c.codes.length) : ∃ row, (ZkM c)[k]? = some row ∧ row.length = c.signals.length ∧ ∀ s, toC c k s = row.getD s (-1) := by
 have hl : (ZkM c).length = c.codes.length := Zp6 _ _ _
 refine ⟨(ZkM c)[k]'(by omega), List.getElem?_eq_getElem _, Zp7 _ _ _ _ (List.getElem_mem _), fun s => ?_⟩
 unfold toC Zdp
 rw [List.getD_eq_getElem?_getD (l := ZkM c), List.getElem?_eq_getElem (by omega)]
 rfl
theorem ZsY (c : PSG) {k s : Nat} (hk : k < c.codes.length) (hs : s < c.signals.length) : ∃ row : List PV, Zq (.lst ((ZkM c).map ZoQ)) (.int .i64 (k : Int)) = some (.lst row) ∧ Zq (.lst row) (.int .i64 (s : Int)) = some (pI (toC c k s)) := by
 obtain ⟨row, h1, h2, h3⟩ := ZtC c hk
 refine ⟨row.map pI, Zo h1, ?_⟩
 refine Zqd ?_
 rw [h3 s, List.getElem?_map, List.getElem?_eq_getElem (by omega), List.getD_eq_getElem?_getD, List.getElem?_eq_getElem (by omega)]
 rfl
def ZiO (n : PNet) (k : Nat) : Int := match n.wires[k]? with | some w => w.kind | none => 0
def inAt (n : PNet) (k : Nat) : Bool := match n.signals[k]? with | some s => decide (s.2 = 1) | none => false
theorem ZtE {n : PNet} (hv : ZfH n = true) {k : Nat} (hk : k < n.signals.length) : decide (ZiO n k = 1) = inAt n k := by
 have hs := (ZiN hv).1
 have hw : n.wires[k]? = some n.wires[k] := List.getElem?_eq_getElem (by omega)
 have hsg : n.signals[k]? = some n.signals[k] := List.getElem?_eq_getElem hk
 unfold ZiO inAt
 rw [hw, hsg]
 unfold ZfH at hv
 simp only [Bool.and_eq_true] at hv
 have h1 := Zh9 _ _ _ hv.2 k _ hw
 rw [Nat.zero_add] at h1
 unfold Zcb Zkw ZeE at h1
 have hd : decide ((k : Int) < (n.signals.length : Int)) = true := by simp only [decide_eq_true_eq]; omega
 rw [hd, hsg] at h1
 simp only [Bool.and_eq_true, Bool.not_true, Bool.false_or, beq_iff_eq] at h1
 exact h1.1.1.1.2.2
def canK (c : PSG) (n : PNet) (s : Nat) (v : List UInt8) (k : Nat) : Bool := if n.signals.length ≤ k then ZL n v k else decide (0 ≤ toC c s k) && (decide (ZiO n k = 1) || ZL n v k)
def flB (b : UInt8) : UInt8 := if b = 48 then 49 else 48
def Zif (v : List UInt8) (k : Nat) : List UInt8 := v.set k (flB (v.getD k 48))
def ZkP (c : PSG) (n : PNet) (s : Nat) (v : List UInt8) (k : Nat) : PSt := ⟨if k < n.signals.length then toC c s k else s, Zif v k⟩
theorem ZmK (v : List UInt8) (k : Nat) (hk : k < v.length) (hv : Zz v) : Zdw [.str v, pI (k : Int)] = some (.str (Zif v k)) := by
 have hvk : v[k]? = some v[k] := List.getElem?_eq_getElem hk
 have hb : Zai (.str v) (.int .i64 (k : Int)) = some (pU v[k]) := Zs hvk
 have g1 := ZiK (decide ((v[k].toNat : Int) = 48))
 have g2 := ZiL v k (Zjo (decide ((v[k].toNat : Int) = 48))) hk hv
 have hfb : Zjo (decide ((v[k].toNat : Int) = 48)) = flB v[k] := by
  unfold flB
  have : ((v[k].toNat : Int) = 48) ↔ v[k] = 48 := by rw [← UInt8.toNat_inj]; exact Int.ofNat_inj
  by_cases c : v[k] = 48
  ·rw [if_pos c, decide_eq_true (this.2 c)]; rfl
  ·rw [if_neg c, decide_eq_false (fun e => c (this.1 e))]; rfl
 show (fun x0 x1 => Zdw [x0, x1]) _ _ = _
 rw [Zlr]
 unfold Zif
 rw [List.getD_eq_getElem?_getD, hvk, Option.getD_some, ← hfb]
 simp only [hb, g1, g2, EVS]
theorem ZrD (l : List Int) (x : Int) (hl : Zz l) : ZgA [.lst (l.map pI), pI x] = some (pB (decide (x ∈ l))) := by
 unfold Zz at hl
 show (fun x0 x1 => ZgA [x0, x1]) _ _ = _
 rw [ZpT]
 simp only [EVS]
 refine (congrArg (fun m : Option PV => m.bind fun r => if r.sc = true then some r else none) (Z5 (R := PV) l (fun _ y => !decide (x = y)) (some (pB true)) (some (pB false)) _ hl (fun again k y hx => ?_) (fun again => ?_))).trans ?_
 ·have hk := Zi hx
  have hi : Zq (.lst (l.map pI)) (.int .i64 (k : Int)) = some (pI y) := Zo hx
  have he : decide (y = x) = decide (x = y) := by rw [Bool.eq_iff_iff, decide_eq_true_eq, decide_eq_true_eq]; exact eq_comm
  simp only [Zap hk, Zn hk hl, hi, he, EVS]
  cases decide (x = y) <;> simp only [EVS]
 ·simp only [ZaP, EVS]
 ·rw [Zf9]
  cases decide (x ∈ l) <;> rfl
theorem ZpM (good : Nat → Bool) (N k : Nat) (hk : k < N) : decide ((k : Int) ∈ Zck good N) = good k := by
 unfold Zck
 rw [Bool.eq_iff_iff, decide_eq_true_eq, List.mem_map]
 constructor
 ·rintro ⟨i, hi, he⟩
  rw [List.mem_filter] at hi
  have : i = k := by have : (i : Int) = (k : Int) := he; omega
  rw [← this]
  exact hi.2
 ·intro h
  exact ⟨k, List.mem_filter.2 ⟨List.mem_range.2 hk, h⟩, rfl⟩
def Zdn (c : PSG) (n : PNet) (s : Nat) (v : List UInt8) (k : Nat) : List Nat := (List.range k).filter (canK c n s v)
def Zer (c : PSG) (n : PNet) (s : Nat) (v : List UInt8) (k : Nat) : Bool := decide (k < n.signals.length) && ((!decide (ZiO n k = 1) && decide (toC c s k < 0)) && ZL n v k)
def Z8 (c : PSG) (n : PNet) (s : Nat) (v : List UInt8) (k : Nat) : List Nat := (List.range k).filter (Zer c n s v)
def eNn (i : Nat) : PV := pI (i : Int)
theorem ZeJ {good : Nat → Bool} {k : Nat} (h : good k = true) : (List.range (k + 1)).filter good = (List.range k).filter good ++ [k] := by
 rw [List.range_succ, List.filter_append]; simp [h]
theorem Zdb {good : Nat → Bool} {k : Nat} (h : good k = false) : (List.range (k + 1)).filter good = (List.range k).filter good := by
 rw [List.range_succ, List.filter_append]; simp [h]
theorem Zig (good : Nat → Bool) (k : Nat) : ((List.range k).filter good).length ≤ k := by
 have := List.length_filter_le good (List.range k)
 simpa using this
theorem ZpN (c : PSG) (n : PNet) (s : Nat) (v : List UInt8) : ∀ (k : Nat), n.signals.length ≤ k → Z8 c n s v k = Z8 c n s v n.signals.length := by
 intro k hk
 induction k with
 | zero => have : n.signals.length = 0 := by omega
           rw [this]
 | succ k ih =>
  by_cases c1 : n.signals.length ≤ k
  ·have : Zer c n s v k = false := by unfold Zer; rw [decide_eq_false (by omega)]; rfl
   rw [← ih c1]
   exact Zdb this
  ·rw [show n.signals.length = k + 1 by omega]
theorem ZkQ (c : PSG) (n : PNet) (h : Go1 c n) (s : Nat) (v : List UInt8) (hs : s < c.codes.length) (hb : Zax v n.wires.length = true) :
 ZaM [Zlk c n, ePs ⟨s, v⟩] = some (.lst ((Z8 c n s v n.wires.length).map eNn)) := by
 obtain ⟨h1, h2, h3, h4, h5, h6⟩ := h.vals hb
 rw [ZpN c n s v _ h5]
 show (fun x0 x1 => ZaM [x0, x1]) _ _ = _
 rw [Zfi]
 simp only [Zlk, ePs, List.length_map, EVS]
 refine (Zhp (R := PV) 0 n.signals.length (fun k => [.lst ((Z8 c n s v k).map eNn), pI (Int.ofNat k)]) (some (.lst ((Z8 c n s v n.signals.length).map eNn))) _ (by omega) (fun again k k1 k2 => ?_) (fun again => ?_) (Nat.zero_le _) _ (by simp [Z8]))
 ·have hkw : k < n.wires.length := by omega
  have g := Zie n v k h.fitn h2 h1 hkw
  simp only [Zam] at g
  have hcl : (Z8 c n s v k).length ≤ k := Zig _ k
  have hm : n.signals.length ≤ 9223372036854775807 := by omega
  have hlb : (Z8 c n s v k).length + [pI (k : Int)].length ≤ 4294967296 ∧ [pI (k : Int)].all (Zb7 1) = true := ⟨by simp; omega, rfl⟩
  obtain ⟨row, r1, r2⟩ := ZsY c hs (show k < c.signals.length by omega)
  have hw : Zq (.lst (n.wires.map Zac)) (.int .i64 (k : Int)) = some (Zac n.wires[k]) := Zo (List.getElem?_eq_getElem hkw)
  have hkd : ZiO n k = n.wires[k].kind := by unfold ZiO; rw [List.getElem?_eq_getElem hkw]
  have hE : Zer c n s v k = ((!decide (n.wires[k].kind = 1) && decide (toC c s k < 0)) && ZL n v k) := by unfold Zer; rw [decide_eq_true k2, hkd]; rfl
  cases c2 : decide (n.wires[k].kind = 1) <;> cases c3 : decide (toC c s k < 0) <;> cases c4 : ZL n v k <;> rw [c2, c3, c4] at hE <;>
   simp only [Bool.not_true, Bool.not_false, Bool.and_true, Bool.and_false, Bool.true_and, Bool.false_and] at hE
  all_goals first
   | (have e1 : Z8 c n s v (k + 1) = Z8 c n s v k := Zdb hE
      simp only [Zap k2, hw, Zac, List.drop_succ_cons, List.drop_zero, c2, c3, c4, r1, r2, ZsW, g, Zn k2 hm, e1, EVS])
   | (have e1 : Z8 c n s v (k + 1) = Z8 c n s v k ++ [k] := ZeJ hE
      simp only [Zap k2, hw, Zac, List.drop_succ_cons, List.drop_zero, c2, c3, c4, r1, r2, ZsW, g, if_pos hlb, Zn k2 hm, e1, List.map_append, List.map_cons, List.map_nil, eNn, EVS])
 ·simp only [ZaP, EVS]
theorem Zog (c : PSG) (n : PNet) (h : Go1 c n) (s : Nat) (v : List UInt8) (hs : s < c.codes.length) (hb : Zax v n.wires.length = true) :
 Zd7 [eSG c, Zam n, ePs ⟨s, v⟩] = some (.tup [.lst ((Zdn c n s v n.wires.length).map fun k => ePs (ZkP c n s v k)), .lst ((Zdn c n s v n.wires.length).map eNn), .lst ((Z8 c n s v n.wires.length).map eNn)]) := by
 obtain ⟨h1, h2, h3, h4, h5, h6⟩ := h.vals hb
 have g0 := ZkL n v h.fitn h2 h1 (by omega)
 simp only [Zam] at g0
 show (fun x0 x1 x2 => Zd7 [x0, x1, x2]) _ _ _ = _
 rw [ZmO]
 simp only [eSG, Zam, ePs, ZbO, g0, List.length_map, EVS]
 refine (Zhp (R := PV) 0 n.wires.length (fun k => [.lst ((Zdn c n s v k).map fun k => ePs (ZkP c n s v k)), .lst ((Zdn c n s v k).map eNn), .lst ((Z8 c n s v k).map eNn), pI (Int.ofNat k)]) (some (.tup [.lst ((Zdn c n s v n.wires.length).map fun k => ePs (ZkP c n s v k)), .lst ((Zdn c n s v n.wires.length).map eNn), .lst ((Z8 c n s v n.wires.length).map eNn)])) _ (by omega) (fun again k k1 k2 => ?_) (fun again => ?_) (Nat.zero_le _) _ (by simp [Zdn, Z8]))
 ·have g1 := ZrD (Zck (ZL n v) n.wires.length) k (by unfold Zz; have := ZkK (ZL n v) n.wires.length; omega)
  rw [ZpM _ _ _ k2] at g1
  have g2 := ZmK v k (by omega) h2
  have hcl : (Zdn c n s v k).length ≤ k := Zig _ k
  have hcx : (Z8 c n s v k).length ≤ k := Zig _ k
  have hm : n.wires.length ≤ 9223372036854775807 := by omega
  have hlb : (Zdn c n s v k).length + [pI (k : Int)].length ≤ 4294967296 ∧ [pI (k : Int)].all (Zb7 1) = true := ⟨by simp; omega, rfl⟩
  have hlx : (Z8 c n s v k).length + [pI (k : Int)].length ≤ 4294967296 ∧ [pI (k : Int)].all (Zb7 1) = true := ⟨by simp; omega, rfl⟩
  by_cases c1 : k < n.signals.length
  ·have hd := Zap c1
   have hsg : Zq (.lst (n.signals.map Z7)) (.int .i64 (k : Int)) = some (Z7 n.signals[k]) := Zo (List.getElem?_eq_getElem c1)
   have hin : inAt n k = decide (n.signals[k].2 = 1) := by unfold inAt; rw [List.getElem?_eq_getElem c1]
   have hki := ZtE h.net c1
   rw [hin] at hki
   have g3 := ZrC c n s k h hs (by omega)
   simp only [eSG] at g3
   have hla : (Zdn c n s v k).length + [PV.agg [pI (toC c s k), .str (Zif v k)]].length ≤ 4294967296 ∧ [PV.agg [pI (toC c s k), .str (Zif v k)]].all (Zb7 2) = true := ⟨by simp; omega, rfl⟩
   have hfl : ZkP c n s v k = ⟨toC c s k, Zif v k⟩ := by unfold ZkP; rw [if_pos c1]
   have hE : canK c n s v k = (decide (0 ≤ toC c s k) && (decide (n.signals[k].2 = 1) || ZL n v k)) := by unfold canK; rw [if_neg (by omega), hki]
   have hX : Zer c n s v k = ((!decide (n.signals[k].2 = 1) && decide (toC c s k < 0)) && ZL n v k) := by unfold Zer; rw [decide_eq_true c1, hki]; rfl
   by_cases c3 : 0 ≤ toC c s k
   ·have c3' : decide (0 ≤ toC c s k) = true := decide_eq_true c3
    have c3'' : decide (toC c s k < 0) = false := decide_eq_false (by omega)
    rw [c3'] at hE
    rw [c3''] at hX
    simp only [Bool.and_false, Bool.false_and, Bool.true_and] at hE hX
    have e2 : Z8 c n s v (k + 1) = Z8 c n s v k := Zdb hX
    cases c2 : decide (n.signals[k].2 = 1) <;> cases c4 : ZL n v k <;> rw [c2, c4] at hE <;> rw [c4] at g1 <;> simp only [Bool.or_true, Bool.or_false, Bool.true_or, Bool.false_or] at hE
    ·have e1 : Zdn c n s v (k + 1) = Zdn c n s v k := Zdb hE
     simp only [Zap k2, hd, hsg, ZaC, g3, g1, c2, c3', List.drop_succ_cons, List.drop_zero, Zn k2 hm, e1, e2, EVS]
    ·have e1 : Zdn c n s v (k + 1) = Zdn c n s v k ++ [k] := ZeJ hE
     simp only [Zap k2, hd, hsg, ZaC, g3, g2, g1, c2, c3', List.drop_succ_cons, List.drop_zero, if_pos hla, if_pos hlb, Zn k2 hm, e1, e2, hfl, ePs, List.map_append, List.map_cons, List.map_nil, eNn, EVS]
    ·have e1 : Zdn c n s v (k + 1) = Zdn c n s v k ++ [k] := ZeJ hE
     simp only [Zap k2, hd, hsg, ZaC, g3, g2, g1, c2, c3', List.drop_succ_cons, List.drop_zero, if_pos hla, if_pos hlb, Zn k2 hm, e1, e2, hfl, ePs, List.map_append, List.map_cons, List.map_nil, eNn, EVS]
    ·have e1 : Zdn c n s v (k + 1) = Zdn c n s v k ++ [k] := ZeJ hE
     simp only [Zap k2, hd, hsg, ZaC, g3, g2, g1, c2, c3', List.drop_succ_cons, List.drop_zero, if_pos hla, if_pos hlb, Zn k2 hm, e1, e2, hfl, ePs, List.map_append, List.map_cons, List.map_nil, eNn, EVS]
   ·have c3' : decide (0 ≤ toC c s k) = false := decide_eq_false c3
    have c3'' : decide (toC c s k < 0) = true := decide_eq_true (by omega)
    rw [c3'] at hE
    rw [c3''] at hX
    simp only [Bool.and_true, Bool.false_and, Bool.true_and] at hE hX
    have e1 : Zdn c n s v (k + 1) = Zdn c n s v k := Zdb hE
    cases c2 : decide (n.signals[k].2 = 1) <;> cases c4 : ZL n v k <;> rw [c2, c4] at hX <;> rw [c4] at g1 <;> simp only [Bool.not_true, Bool.not_false, Bool.and_true, Bool.and_false, Bool.true_and, Bool.false_and] at hX
    ·have e2 : Z8 c n s v (k + 1) = Z8 c n s v k := Zdb hX
     simp only [Zap k2, hd, hsg, ZaC, g3, g1, c2, c3', List.drop_succ_cons, List.drop_zero, Zn k2 hm, e1, e2, EVS]
    ·have e2 : Z8 c n s v (k + 1) = Z8 c n s v k ++ [k] := ZeJ hX
     simp only [Zap k2, hd, hsg, ZaC, g3, g1, c2, c3', List.drop_succ_cons, List.drop_zero, if_pos hlx, Zn k2 hm, e1, e2, List.map_append, List.map_cons, List.map_nil, eNn, EVS]
    ·have e2 : Z8 c n s v (k + 1) = Z8 c n s v k := Zdb hX
     simp only [Zap k2, hd, hsg, ZaC, g3, g1, c2, c3', List.drop_succ_cons, List.drop_zero, Zn k2 hm, e1, e2, EVS]
    ·have e2 : Z8 c n s v (k + 1) = Z8 c n s v k := Zdb hX
     simp only [Zap k2, hd, hsg, ZaC, g3, g1, c2, c3', List.drop_succ_cons, List.drop_zero, Zn k2 hm, e1, e2, EVS]
  ·have hd : decide ((k : Int) < (n.signals.length : Int)) = false := by simp only [decide_eq_false_iff_not]; omega
   have hE : canK c n s v k = ZL n v k := by unfold canK; rw [if_pos (by omega)]
   have hX : Zer c n s v k = false := by unfold Zer; rw [decide_eq_false c1]; rfl
   have e2 : Z8 c n s v (k + 1) = Z8 c n s v k := Zdb hX
   have hfl : ZkP c n s v k = ⟨(s : Int), Zif v k⟩ := by unfold ZkP; rw [if_neg c1]
   have hla : (Zdn c n s v k).length + [PV.agg [pI (s : Int), .str (Zif v k)]].length ≤ 4294967296 ∧ [PV.agg [pI (s : Int), .str (Zif v k)]].all (Zb7 2) = true := ⟨by simp; omega, rfl⟩
   have hge : decide (0 ≤ (s : Int)) = true := decide_eq_true (by omega)
   cases c4 : ZL n v k <;> rw [c4] at hE g1
   ·have e1 : Zdn c n s v (k + 1) = Zdn c n s v k := Zdb hE
    simp only [Zap k2, hd, ZaC, g1, hge, Zn k2 hm, e1, e2, EVS]
   ·have e1 : Zdn c n s v (k + 1) = Zdn c n s v k ++ [k] := ZeJ hE
    simp only [Zap k2, hd, ZaC, g2, g1, hge, if_pos hla, if_pos hlb, Zn k2 hm, e1, e2, hfl, ePs, List.map_append, List.map_cons, List.map_nil, eNn, EVS]
 ·simp only [ZaP, EVS]
def Zjb (c : PSG) (n : PNet) (b : PSt) : Bool := (inR b.state 0 ((c.codes.length : Int) - 1) && Zax b.values n.wires.length) && decide (b.values.take n.signals.length = c.codes.getD b.state.toNat [])
theorem ZkR (v p : List UInt8) (hv : Zz v) (hp : Zz p) : ZW [.str v, .str p] = some (pB (decide (p.length ≤ v.length) && decide (v.take p.length = p))) := by
 unfold Zz at hv hp
 show (fun x0 x1 => ZW [x0, x1]) _ _ = _
 rw [Zcs]
 by_cases c1 : p.length ≤ v.length
 ·have h1 : decide ((p.length : Int) ≤ (v.length : Int)) = true := by simp only [decide_eq_true_eq]; omega
  have h2 : ZfF (.str v) none (some (.int .i64 (p.length : Int))) = some (.str (v.take p.length)) := Zis c1
  simp only [h1, h2, c1, EVS]
 ·have h1 : decide ((p.length : Int) ≤ (v.length : Int)) = false := by simp only [decide_eq_false_iff_not]; omega
  simp only [h1, c1, EVS]
theorem Zlm (v p : List UInt8) (hv : Zz v) (hp : Zz p) : ZaJ [.str v, .str p] = some (pB (decide (p.length ≤ v.length) && decide (v.take p.length = p))) := by
 have g := ZkR v p hv hp
 show (fun x0 x1 => ZaJ [x0, x1]) _ _ = _
 rw [Zfe]
 simp only [g, EVS]
theorem Zoh (c : PSG) (n : PNet) (h : Go1 c n) (b : PSt) (hv : Zz b.values) : Zbu [Zlk c n, ePs b] = some (pB (Zjb c n b)) := by
 have h1 := h.one
 have h2 := h.many
 have hw : IntKind.i64.wrap ((c.codes.length : Int) - 1) = (c.codes.length : Int) - 1 := Zda (by omega) (by omega)
 have g1 := Zat b.state 0 ((c.codes.length : Int) - 1)
 have g2 := ZkB b.values n.wires.length hv
 show (fun x0 x1 => Zbu [x0, x1]) _ _ = _
 rw [ZgN]
 unfold Zjb
 cases c1 : inR b.state 0 ((c.codes.length : Int) - 1)
 ·rw [c1] at g1
  simp only [Zlk, ePs, List.length_map, hw, g1, EVS]
 ·cases c2 : Zax b.values n.wires.length
  ·rw [c1] at g1; rw [c2] at g2
   simp only [Zlk, ePs, List.length_map, hw, g1, g2, EVS]
  ·rw [c1] at g1; rw [c2] at g2
   have c1' := c1
   unfold inR at c1'
   simp only [Bool.and_eq_true, decide_eq_true_eq] at c1'
   obtain ⟨s, hs⟩ : ∃ s : Nat, b.state = s := ⟨b.state.toNat, by omega⟩
   have hsl : s < c.codes.length := by omega
   have hc : c.codes[s]? = some c.codes[s] := List.getElem?_eq_getElem hsl
   have hi : Zq (.lst (c.codes.map PV.str)) (.int .i64 (s : Int)) = some (.str c.codes[s]) := Zo hc
   have hcb := (ZlT.1 (h.bits _ (List.getElem_mem hsl))).2
   obtain ⟨v1, v2, v3, v4, v5, v6⟩ := h.vals c2
   have g3 := Zlm b.values c.codes[s] hv (by unfold Zz; omega)
   rw [hcb, ← v6, decide_eq_true (show n.signals.length ≤ b.values.length by omega), Bool.true_and] at g3
   have hd : c.codes.getD s [] = c.codes[s] := by rw [List.getD_eq_getElem?_getD, hc]; rfl
   simp only [hs] at g1
   rw [hs, Int.toNat_natCast, hd]
   simp only [Zlk, ePs, hs, List.length_map, hw, g1, g2, hi, g3, EVS]
theorem Zoi (c : PSG) (n : PNet) (hc : SGFit c) (hn : n.Fit) (b : PSt) (hv : Zz b.values) : Zd6 [eSG c, Zam n, ePs b] = some (pB (goP c n && Zjb c n b)) := by
 have g0 := Zrz c n hc hn
 have hcl := hc.codes
 unfold Zz at hcl
 have hw : IntKind.i64.wrap ((c.codes.length : Int) - 1) = (c.codes.length : Int) - 1 := Zda (by omega) (by omega)
 have g1 := ZaW b.state 0 ((c.codes.length : Int) - 1)
 have g2 := ZkA b.values n.wires.length hv
 simp only [eSG, Zam] at g0
 show (fun x0 x1 x2 => Zd6 [x0, x1, x2]) _ _ _ = _
 rw [ZmM]
 unfold Zjb
 cases c0 : goP c n
 ·rw [c0] at g0
  simp only [eSG, Zam, ePs, ZbO, ZaC, g0, EVS]
 rw [c0] at g0
 have h := ZmJ c0 hc hn
 cases c1 : inR b.state 0 ((c.codes.length : Int) - 1)
 ·have c1' := c1
  unfold inR at c1'
  rw [c1'] at g1
  simp only [eSG, Zam, ePs, ZbO, ZaC, List.length_map, hw, g0, g1, EVS]
 ·have c1' := c1
  unfold inR at c1'
  rw [c1'] at g1
  cases c2 : Zax b.values n.wires.length
  ·rw [c2] at g2
   simp only [eSG, Zam, ePs, ZbO, ZaC, List.length_map, hw, g0, g1, g2, EVS]
  ·rw [c2] at g2
   simp only [Bool.and_eq_true, decide_eq_true_eq] at c1'
   obtain ⟨s, hs⟩ : ∃ s : Nat, b.state = s := ⟨b.state.toNat, by omega⟩
   have hsl : s < c.codes.length := by omega
   have hcs : c.codes[s]? = some c.codes[s] := List.getElem?_eq_getElem hsl
   have hi : Zq (.lst (c.codes.map PV.str)) (.int .i64 (s : Int)) = some (.str c.codes[s]) := Zo hcs
   obtain ⟨v1, v2, v3, v4, v5, v6⟩ := h.vals c2
   have hcut : ZfF (.str b.values) none (some (.int .i64 (n.signals.length : Int))) = some (.str (b.values.take n.signals.length)) := Zis (by omega)
   have hd : c.codes.getD s [] = c.codes[s] := by rw [List.getD_eq_getElem?_getD, hcs]; rfl
   simp only [hs] at g1
   rw [hs, Int.toNat_natCast, hd]
   simp only [eSG, Zam, ePs, hs, ZbO, ZaC, List.length_map, hw, g0, g1, g2, hcut, hi, EVS]
theorem ZqU {c : PSG} {n : PNet} {b : PSt} (h : Zjb c n b = true) : ∃ s : Nat, b = ⟨(s : Int), b.values⟩ ∧ s < c.codes.length ∧ Zax b.values n.wires.length = true := by
 unfold Zjb inR at h
 simp only [Bool.and_eq_true, decide_eq_true_eq] at h
 obtain ⟨⟨h1, h2⟩, _⟩ := h
 refine ⟨b.state.toNat, ?_, by omega, h2⟩
 cases b
 simp only [PSt.mk.injEq, and_true]
 dsimp only at h1
 omega
def ZfD (c : PSG) (n : PNet) (b : PSt) : Bool := goP c n && Zjb c n b
def ZpO (c : PSG) (n : PNet) (b : PSt) : List Int := if ZfD c n b = true then (Z8 c n b.state.toNat b.values n.wires.length).map fun k : Nat => (k : Int) else []
theorem Ze5 (c : PSG) (n : PNet) (b : PSt) (hc : SGFit c) (hn : n.Fit) (hv : Zz b.values) : ZaL [eSG c, Zam n, ePs b] = some (.tup [.lst ((ZpO c n b).map pI), pB (ZfD c n b)]) := by
 have g0 := Zoi c n hc hn b hv
 show (fun x0 x1 x2 => ZaL [x0, x1, x2]) _ _ _ = _
 rw [Zfg]
 unfold ZpO
 cases c0 : ZfD c n b
 ·have c0' := c0
  unfold ZfD at c0'
  rw [c0'] at g0
  simp only [eSG, Zam, ePs] at g0
  simp only [eSG, Zam, ePs, ZbO, ZaC, g0, Bool.false_eq_true, if_false, EVS]
  rfl
 ·have c0' := c0
  unfold ZfD at c0'
  rw [c0'] at g0
  rw [Bool.and_eq_true] at c0'
  obtain ⟨s, hb, hs, hbits⟩ := ZqU c0'.2
  obtain ⟨v, hvv⟩ : ∃ v, b.values = v := ⟨_, rfl⟩
  rw [hvv] at hb hbits
  subst hb
  have g1 := Zog c n (ZmJ c0'.1 hc hn) s v hs hbits
  simp only [eSG, Zam, ePs] at g0 g1
  simp only [eSG, Zam, ePs, ZbO, ZaC, g0, g1, Int.toNat_natCast, if_true, List.map_map, EVS]
  rfl
theorem Ze6 (c : PSG) (n : PNet) (b : PSt) (hc : SGFit c) (hn : n.Fit) (hv : Zz b.values) : ZaO [eSG c, Zam n, ePs b] = some (.tup [.lst ((ZpO c n b).map pI), pB (ZfD c n b)]) := by
 have g0 := Zll c n hc hn
 show (fun x0 x1 x2 => ZaO [x0, x1, x2]) _ _ _ = _
 rw [Zfk]
 unfold ZpO ZfD
 cases c0 : goP c n
 ·rw [c0] at g0
  simp only [eSG, Zam, zSys, Bool.false_eq_true, if_false] at g0
  simp only [eSG, Zam, ePs, ZbO, ZaC, g0, ZsX, Bool.false_eq_true, if_false, EVS]
  rfl
 ·rw [c0] at g0
  have h := ZmJ c0 hc hn
  have g2 := Zoh c n h b hv
  simp only [eSG, Zam, Zlk, if_true] at g0
  cases c1 : Zjb c n b
  ·rw [c1] at g2
   simp only [Zlk, ePs] at g2
   simp only [eSG, Zam, ePs, ZbO, ZaC, g0, g2, ZsX, pv_6, Bool.false_eq_true, if_false, EVS]
   rfl
  ·rw [c1] at g2
   obtain ⟨s, hb, hs, hbits⟩ := ZqU c1
   obtain ⟨v, hvv⟩ : ∃ v, b.values = v := ⟨_, rfl⟩
   rw [hvv] at hb hbits
   subst hb
   have g1 := ZkQ c n h s v hs hbits
   simp only [Zlk, ePs] at g1 g2
   simp only [eSG, Zam, ePs, ZbO, ZaC, g0, g1, g2, ZsX, pv_6, Int.toNat_natCast, if_true, List.map_map, EVS]
   rfl
theorem Zoj {c : PSG} {n : PNet} {b : PSt} (h : ZfD c n b = true) : n.wires.length ≤ 24 := by
 unfold ZfD goP at h
 simp only [Bool.and_eq_true] at h
 exact (ZiN h.1.1.2).2
theorem Zok (c : PSG) (n : PNet) (b : PSt) (h : ZfD c n b = true) : (Z8 c n b.state.toNat b.values n.wires.length).length ≤ 24 := by
 have h1 := Zoj h
 have := Zig (Zer c n b.state.toNat b.values) n.wires.length
 unfold Z8
 omega
theorem ZpP (c : PSG) (n : PNet) (b : PSt) (h : ZfD c n b = true) : ∀ k ∈ Z8 c n b.state.toNat b.values n.wires.length, k < 24 := fun k hk => by
 have h1 := Zoj h
 unfold Z8 at hk
 have := List.mem_range.1 (List.mem_filter.1 hk).1
 omega
end Go.Proofs.YtmfplddmccggkaaGreat
