import Derived.Test.YtmfplddmccggkaaGreatIsVerifiedF
import Derived.Test.YtmfplddmccggkaaGreatData
import Derived.Test.YtmfplddmccggkaaGreatDistPure
import Derived.Test.YtmfplddmccggkaaGreatSysPure
namespace Go.Proofs.YtmfplddmccggkaaGreat
open Go.RowKit
set_option linter.unusedVariables false
set_option linter.unusedSimpArgs false
theorem p_r_l1In (n lo hi : Int) : s_r_l1In [pI n, pI lo, pI hi] = some (pB (decide (lo ≤ n) && decide (n ≤ hi))) := by
 show (fun x0 x1 x2 => s_r_l1In [x0, x1, x2]) _ _ _ = _
 rw [sh_r_l1In]
 by_cases h : lo ≤ n <;> simp only [h, EVS]
def nameB (first : Bool) (b : UInt8) : Bool := (decide ((97 : Int) ≤ b.toNat) && decide ((b.toNat : Int) ≤ 122)) || (!first && (!decide ((b.toNat : Int) < 48) && !decide ((57 : Int) < b.toNat)))
def nameGo : Bool → List UInt8 → Bool
 | _, [] => true
 | f, b :: r => nameB f b && nameGo false r
def isNameP (s : List UInt8) : Bool := nameGo true s && (decide ((1 : Int) ≤ s.length) && decide ((s.length : Int) ≤ 6))
theorem p_r_l2Name (s : List UInt8) (hs : s.length ≤ 9223372036854775807) : s_r_l2Name [.str s] = some (pB (isNameP s)) := by
 show (fun x0 => s_r_l2Name [x0]) _ = _
 rw [sh_r_l2Name]
 refine (congrArg (scOnly true) (loopR_go (R := PV) (fun k : Nat => [pI (Int.ofNat k)]) (fun k => s.length + 1 - k) (fun k => some (pB (nameGo (k == 0) (s.drop k) && (decide ((1 : Int) ≤ s.length) && decide ((s.length : Int) ≤ 6))))) _ (fun again k ih => ?_) _ 0 (by omega))).trans ?_
 ·by_cases hk : k < s.length
  ·obtain ⟨b, hb⟩ : ∃ b, s[k]? = some b := ⟨s[k], List.getElem?_eq_getElem hk⟩
   have hd : s.drop k = b :: s.drop (k + 1) := by
    obtain ⟨h1, rfl⟩ := List.getElem?_eq_some_iff.1 hb
    exact List.drop_eq_getElem_cons h1
   have hlt : decide ((k : Int) < s.length) = true := by simpa using hk
   have hw : IntKind.i64.wrap ((k : Int) + 1) = ((k + 1 : Nat) : Int) := by rw [wrap_of (by omega) (by omega)]; omega
   have hnext := ih (k + 1) (by omega)
   simp only [Int.ofNat_eq_natCast] at hnext
   have hk0 : decide ((k : Int) = 0) = (k == 0) := by rw [Bool.eq_iff_iff]; simp
   rw [hd]
   have hk1 : (k + 1 == 0) = false := rfl
   rw [hk1] at hnext
   have ev1 := hlt
   have ev2 := byteV_at (k := .i64) hb
   simp only [nameGo, nameB, hlt, byteV_at hb, hk0, hw, hnext, EVS]
   by_cases c1 : (97 : Int) ≤ b.toNat
   all_goals simp only [c1, byteV_at hb, EVS]
   by_cases c2 : (b.toNat : Int) ≤ 122
   all_goals try simp only [c2, byteV_at hb, EVS]
   all_goals try simp only [hk0]
   all_goals try (cases c5 : (k == 0))
   all_goals try simp only [c5, byteV_at hb, EVS]
   all_goals try (by_cases c3 : (b.toNat : Int) < 48)
   all_goals try simp only [c3, byteV_at hb, EVS]
   all_goals try (by_cases c4 : (57 : Int) < b.toNat)
   all_goals try simp only [c4, byteV_at hb, EVS]
  ·have hd : s.drop k = [] := List.drop_eq_nil_of_le (by omega)
   have hlt : decide ((k : Int) < s.length) = false := by simpa using hk
   rw [hd]
   simp only [nameGo, hlt, p_r_l1In, EVS]
 ·simp only [isNameP, List.drop_zero, beq_self_eq_true, EVS]
def cubeB (b : UInt8) : Bool := decide ((b.toNat : Int) = 48) || decide ((b.toNat : Int) = 49) || decide ((b.toNat : Int) = 45)
def cubeP (s : List UInt8) : Bool := allK (fun _ b => cubeB b) 0 s && (decide ((1 : Int) ≤ s.length) && decide ((s.length : Int) ≤ 8))
theorem lt_of_some {α : Type} {l : List α} {k : Nat} {x : α} (h : l[k]? = some x) : k < l.length := (List.getElem?_eq_some_iff.1 h).1
theorem next_w {k n : Nat} (h : k < n) (hn : n ≤ 9223372036854775807) : IntKind.i64.wrap ((k : Int) + 1) = ((k + 1 : Nat) : Int) := by rw [wrap_of (by omega) (by omega)]; omega
theorem lt_d {k n : Nat} (h : k < n) : decide ((k : Int) < (n : Int)) = true := by simpa using h
theorem ge_d {n : Nat} : decide ((n : Int) < (n : Int)) = false := by simp
theorem p_r_l13Cube (s : List UInt8) (hs : s.length ≤ 9223372036854775807) : s_r_l13Cube [.str s] = some (pB (cubeP s)) := by
 show (fun x0 => s_r_l13Cube [x0]) _ = _
 rw [sh_r_l13Cube]
 refine (congrArg (scOnly true) (rangeAll (R := PV) s (fun _ b => cubeB b) (some (pB false)) (some (pB (decide ((1 : Int) ≤ s.length) && decide ((s.length : Int) ≤ 8)))) _ hs (fun again k b hb => ?_) (fun again => ?_))).trans ?_
 ·have hk := lt_of_some hb
  cases c1 : decide ((b.toNat : Int) = 48) <;> cases c2 : decide ((b.toNat : Int) = 49) <;> cases c3 : decide ((b.toNat : Int) = 45) <;>
   simp only [cubeB, lt_d hk, next_w hk hs, byteV_at hb, c1, c2, c3, EVS]
 ·simp only [ge_d, p_r_l1In, EVS]
 ·unfold cubeP
  cases allK (fun _ b => cubeB b) 0 s <;> simp only [EVS]
abbrev eSig (s : List UInt8 × Int) : PV := .agg [.str s.1, pI s.2]
def inR (n lo hi : Int) : Bool := decide (lo ≤ n) && decide (n ≤ hi)
def sigOk (l : List (List UInt8 × Int)) (k : Nat) (s : List UInt8 × Int) : Bool := (isNameP s.1 && inR s.2 1 3) && allK (fun _ y => !decide (s.1 = y.1)) 0 (l.take k)
def sigsP (l : List (List UInt8 × Int)) : Bool := allK (sigOk l) 0 l && inR l.length 1 8
theorem okEl_eSig (x : List UInt8 × Int) : okEl 2 (eSig x) = true := rfl
theorem p_r_l2Signals (l : List (List UInt8 × Int)) (hl : l.length ≤ 9223372036854775807) (hs : ∀ s ∈ l, s.1.length ≤ 9223372036854775807) : s_r_l2Signals [.lst (l.map eSig)] = some (pB (sigsP l)) := by
 show (fun x0 => s_r_l2Signals [x0]) _ = _
 rw [sh_r_l2Signals]
 simp only [EVS]
 refine (congrArg (scOnly true) (rangeAll (R := PV) l (sigOk l) (some (pB false)) (some (pB (inR l.length 1 8))) _ hl (fun again k s hb => ?_) (fun again => ?_))).trans ?_
 ·have hk := lt_of_some hb
  have hi : idxV (.lst (l.map eSig)) (.int .i64 (k : Int)) = some (eSig s) := idx_map hb
  have hc : cutL 2 (.lst (l.map eSig)) none (some (.int .i64 (k : Int))) = some (.lst ((l.take k).map eSig)) := cut_map okEl_eSig (by omega)
  have hn := p_r_l2Name s.1 (hs s (List.mem_of_getElem? hb))
  simp only [lt_d hk, next_w hk hl, hi, eSig, hn, p_r_l1In, sigOk, inR, EVS]
  obtain c1 | c1 := (Bool.eq_false_or_eq_true (isNameP s.1)).symm <;> simp only [c1, p_r_l1In, EVS]
  obtain c2 | c2 := (Bool.eq_false_or_eq_true (decide (1 ≤ s.2) && decide (s.2 ≤ 3))).symm <;> simp only [c2, EVS]
  simp only [hc, EVS]
  refine (rangeAll (R := PV) (l.take k) (fun _ y => !decide (s.1 = y.1)) (some (pB false)) (again [pI ((k + 1 : Nat) : Int)]) _ (by simp; omega) (fun again' j y hy => ?_) (fun again' => ?_)).trans ?_
  ·have hj := lt_of_some hy
   have hi' : idxV (.lst ((l.take k).map eSig)) (.int .i64 (j : Int)) = some (eSig y) := idx_map hy
   simp only [lt_d hj, next_w hj (by simp; omega), hi', eSig, EVS]
   cases c3 : decide (s.1 = y.1) <;> simp only [c3, EVS]
  ·simp only [ge_d, next_w hk hl, EVS]
  ·rfl
 ·simp only [ge_d, p_r_l1In, inR, EVS]
 ·unfold sigsP
  cases allK (sigOk l) 0 l <;> simp only [EVS]
def coverGo (n : Int) (l : List (List UInt8)) : Bool := allK (fun _ c => cubeP c && decide ((c.length : Int) = n)) 0 l
def goodP (n : Int) (l : List (List UInt8)) : Bool := coverGo n l && (inR n 1 8 && decide ((l.length : Int) ≤ 60))
theorem p_r_l13Good (n : Int) (l : List (List UInt8)) (hl : l.length ≤ 9223372036854775807) (hs : ∀ s ∈ l, s.length ≤ 9223372036854775807) : s_r_l13Good [pI n, .lst (l.map PV.str)] = some (pB (goodP n l)) := by
 show (fun x0 x1 => s_r_l13Good [x0, x1]) _ _ = _
 rw [sh_r_l13Good]
 simp only [EVS]
 refine (congrArg (scOnly true) (rangeAll (R := PV) l (fun _ c => cubeP c && decide ((c.length : Int) = n)) (some (pB false)) (some (pB (inR n 1 8 && decide ((l.length : Int) ≤ 60)))) _ hl (fun again k s hb => ?_) (fun again => ?_))).trans ?_
 ·have hk := lt_of_some hb
  have hi : idxV (.lst (l.map PV.str)) (.int .i64 (k : Int)) = some (.str s) := idx_map hb
  have hn := p_r_l13Cube s (hs s (List.mem_of_getElem? hb))
  simp only [lt_d hk, next_w hk hl, hi, hn, EVS]
  obtain c1 | c1 := (Bool.eq_false_or_eq_true (cubeP s)).symm <;> simp only [c1, EVS]
  obtain c2 | c2 := (Bool.eq_false_or_eq_true (decide ((s.length : Int) = n))).symm <;> simp only [c2, EVS]
 ·simp only [ge_d, p_r_l1In, inR, EVS]
  obtain c1 | c1 := (Bool.eq_false_or_eq_true (decide (1 ≤ n) && decide (n ≤ 8))).symm <;> simp only [c1, EVS]
 ·unfold goodP coverGo
  cases allK (fun _ c => cubeP c && decide ((c.length : Int) = n)) 0 l <;> simp only [EVS]
structure PWire where
 name : List UInt8
 kind : Int
 ins : List (Int × Bool)
 cover : List (List UInt8)
structure PNet where
 signals : List (List UInt8 × Int)
 wires : List PWire
abbrev ePin (p : Int × Bool) : PV := .agg [pI p.1, pB p.2]
abbrev eWire (w : PWire) : PV := .agg [.str w.name, pI w.kind, .lst (w.ins.map ePin), .lst (w.cover.map PV.str)]
abbrev eNet (n : PNet) : PV := .agg [.lst (n.signals.map eSig), .lst (n.wires.map eWire)]
abbrev Fits {α : Type} (l : List α) : Prop := l.length ≤ 9223372036854775807
structure PWire.Fit (w : PWire) : Prop where
 name : Fits w.name
 ins : Fits w.ins
 cover : Fits w.cover
 cubes : ∀ c ∈ w.cover, Fits c
structure PNet.Fit (n : PNet) : Prop where
 signals : Fits n.signals
 names : ∀ s ∈ n.signals, Fits s.1
 wires : Fits n.wires
 wire : ∀ w ∈ n.wires, w.Fit
def pinOk (n : PNet) (k : Nat) (p : Int × Bool) : Bool := inR p.1 0 ((n.wires.length : Int) - 1) && !(decide ((n.signals.length : Int) ≤ k) && decide ((k : Int) ≤ p.1))
def pinForm (k : Nat) (kind : Int) (ins : List (Int × Bool)) : Bool :=
 if decide (kind = 1) = true then decide ((ins.length : Int) = 0)
 else if decide (kind = 4) = true then decide ((ins.length : Int) = 2)
 else if decide (kind = 5) = true then decide ((ins.length : Int) = 0) || (match ins with | [p] => decide (p.1 = k) && !p.2 | _ => false)
 else inR ins.length 1 8
def pinsP (n : PNet) (k : Nat) (w : PWire) : Bool := allK (fun _ p => pinOk n k p) 0 w.ins && pinForm k w.kind w.ins
theorem p_r_l19Pins (n : PNet) (k : Nat) (w : PWire) (hn : n.Fit) (hw : w.Fit) : s_r_l19Pins [eNet n, pI k, eWire w] = some (pB (pinsP n k w)) := by
 show (fun x0 x1 x2 => s_r_l19Pins [x0, x1, x2]) _ _ _ = _
 rw [sh_r_l19Pins]
 simp only [eNet, eWire, EVS]
 have hwl : IntKind.i64.wrap ((n.wires.length : Int) - 1) = (n.wires.length : Int) - 1 := wrap_of (by omega) (by have := hn.wires; unfold Fits at this; omega)
 have hi0 := hw.ins
 unfold Fits at hi0
 refine (congrArg (scOnly true) (rangeAll (R := PV) w.ins (fun _ p => pinOk n k p) (some (pB false)) (some (pB (pinForm k w.kind w.ins))) _ hi0 (fun again j p hb => ?_) (fun again => ?_))).trans ?_
 ·have hk := lt_of_some hb
  have hi : idxV (.lst (w.ins.map ePin)) (.int .i64 (j : Int)) = some (ePin p) := idx_map hb
  simp only [lt_d hk, next_w hk hi0, hi, ePin, hwl, p_r_l1In, pinOk, inR, EVS]
  obtain c1 | c1 := (Bool.eq_false_or_eq_true (decide (0 ≤ p.1) && decide (p.1 ≤ (n.wires.length : Int) - 1))).symm <;> simp only [c1, EVS]
  obtain c2 | c2 := (Bool.eq_false_or_eq_true (decide ((n.signals.length : Int) ≤ (k : Int)))).symm <;> simp only [c2, EVS]
  obtain c3 | c3 := (Bool.eq_false_or_eq_true (decide ((k : Int) ≤ p.1))).symm <;> simp only [c3, EVS]
 ·simp only [ge_d, pinForm, EVS]
  obtain c1 | c1 := (Bool.eq_false_or_eq_true (decide (w.kind = 1))).symm <;> simp only [c1, EVS]
  obtain c2 | c2 := (Bool.eq_false_or_eq_true (decide (w.kind = 4))).symm <;> simp only [c2, EVS]
  obtain c3 | c3 := (Bool.eq_false_or_eq_true (decide (w.kind = 5))).symm <;> simp only [c3, p_r_l1In, inR, EVS]
  have h01 : decide ((0 : Int) = 1) = false := rfl
  have h00 : decide ((0 : Int) = 0) = true := rfl
  have h11 : decide ((1 : Int) = 1) = true := rfl
  have h10 : decide ((1 : Int) = 0) = false := rfl
  rcases hq : w.ins with _ | ⟨p, _ | ⟨q, r⟩⟩
  ·simp only [List.length_nil, h00, EVS]
  ·have hi : idxV (.lst ([p].map ePin)) (.int .i64 0) = some (ePin p) := rfl
   simp only [List.length_cons, List.length_nil, Nat.zero_add, h11, h10, hi, ePin, List.drop_zero, List.drop_succ_cons, EVS]
   obtain c4 | c4 := (Bool.eq_false_or_eq_true (decide (p.1 = (k : Int)))).symm <;> simp only [c4, h11, h10, hi, ePin, List.drop_zero, List.drop_succ_cons, EVS]
  ·have h2 : decide (((r.length + 1 + 1 : Nat) : Int) = 0) = false := by simp; omega
   have h3 : decide (((r.length + 1 + 1 : Nat) : Int) = 1) = false := by simp; omega
   simp only [List.length_cons, h2, h3, EVS]
 ·unfold pinsP
  cases allK (fun _ p => pinOk n k p) 0 w.ins <;> simp only [EVS]
def wireSeen (n : PNet) (k : Nat) (w : PWire) : Bool := match n.signals[k]? with | some s => decide (w.name = s.1) && (decide (w.kind = 1) == decide (s.2 = 1)) | none => false
def wireP (n : PNet) (k : Nat) (w : PWire) : Bool :=
 let seen := decide ((k : Int) < (n.signals.length : Int))
 (inR w.kind 1 5 && (seen || decide (w.kind = 2) || decide (w.kind = 3))) && (!seen || wireSeen n k w) && (if decide (w.kind = 5) = true then goodP n.signals.length w.cover else !decide ((0 : Int) < w.cover.length)) && (isNameP w.name && pinsP n k w)
theorem p_r_l19Wire (n : PNet) (k : Nat) (w : PWire) (hn : n.Fit) (hw : w.Fit) : s_r_l19Wire [eNet n, pI k, eWire w] = some (pB (wireP n k w)) := by
 have g1 := p_r_l13Good n.signals.length w.cover hw.cover hw.cubes
 have g2 := p_r_l2Name w.name hw.name
 have g3 := p_r_l19Pins n k w hn hw
 have g4 := p_r_l1In w.kind 1 5
 simp only [eNet, eWire] at g3
 show (fun x0 x1 x2 => s_r_l19Wire [x0, x1, x2]) _ _ _ = _
 rw [sh_r_l19Wire]
 simp only [eNet, eWire, g4, EVS]
 have fin : ∀ b : Bool, ((some (pB (isNameP w.name && b)))) = (some (pB (isNameP w.name && b))) := fun _ => rfl
 simp only [wireP, inR]
 obtain c1 | c1 := (Bool.eq_false_or_eq_true (decide (1 ≤ w.kind) && decide (w.kind ≤ 5))).symm <;> simp only [c1, EVS]
 obtain c2 | c2 := (Bool.eq_false_or_eq_true (decide ((k : Int) < (n.signals.length : Int)))).symm <;> simp only [c2, EVS]
 ·obtain c3 | c3 := (Bool.eq_false_or_eq_true (decide (w.kind = 2))).symm <;> simp only [c3, EVS]
  ·obtain c4 | c4 := (Bool.eq_false_or_eq_true (decide (w.kind = 3))).symm <;> simp only [c4, EVS]
   have c5 : decide (w.kind = 5) = false := by have := of_decide_eq_true c4; simp; omega
   simp only [c5, EVS]
   obtain c6 | c6 := (Bool.eq_false_or_eq_true (decide ((0 : Int) < w.cover.length))).symm <;> simp only [c6, g2, EVS]
   obtain c7 | c7 := (Bool.eq_false_or_eq_true (isNameP w.name)).symm <;> simp only [c7, g3, EVS]
  ·have c4 : decide (w.kind = 3) = false := by have := of_decide_eq_true c3; simp; omega
   have c5 : decide (w.kind = 5) = false := by have := of_decide_eq_true c3; simp; omega
   simp only [c4, c5, EVS]
   obtain c6 | c6 := (Bool.eq_false_or_eq_true (decide ((0 : Int) < w.cover.length))).symm <;> simp only [c6, g2, EVS]
   obtain c7 | c7 := (Bool.eq_false_or_eq_true (isNameP w.name)).symm <;> simp only [c7, g3, EVS]
 ·have hk : k < n.signals.length := by have := of_decide_eq_true c2; omega
  have hs : n.signals[k]? = some n.signals[k] := List.getElem?_eq_getElem hk
  have hi : idxV (.lst (n.signals.map eSig)) (.int .i64 (k : Int)) = some (eSig n.signals[k]) := idx_map hs
  simp only [wireSeen, hs, hi, eSig, List.drop_zero, List.drop_succ_cons, EVS]
  obtain c3 | c3 := (Bool.eq_false_or_eq_true (decide (w.name = n.signals[k].1))).symm <;> simp only [c3, hi, eSig, List.drop_zero, List.drop_succ_cons, EVS]
  obtain c4 | c4 := (Bool.eq_false_or_eq_true (decide (w.kind = 1) == decide (n.signals[k].2 = 1))).symm <;> simp only [bne, c4, hi, eSig, List.drop_zero, List.drop_succ_cons, EVS]
  obtain c5 | c5 := (Bool.eq_false_or_eq_true (decide (w.kind = 5))).symm <;> simp only [c5, g1, g2, EVS]
  ·obtain c6 | c6 := (Bool.eq_false_or_eq_true (decide ((0 : Int) < w.cover.length))).symm <;> simp only [c6, g2, EVS]
   obtain c7 | c7 := (Bool.eq_false_or_eq_true (isNameP w.name)).symm <;> simp only [c7, g3, EVS]
  ·obtain c6 | c6 := (Bool.eq_false_or_eq_true (goodP n.signals.length w.cover)).symm <;> simp only [c5, c6, g2, EVS]
   obtain c7 | c7 := (Bool.eq_false_or_eq_true (isNameP w.name)).symm <;> simp only [c5, c7, g3, EVS]
def netWireOk (n : PNet) (k : Nat) (w : PWire) : Bool := wireP n k w && allK (fun _ v => !decide (v.name = w.name)) 0 (n.wires.take k)
def netP (n : PNet) : Bool := sigsP n.signals && (!decide ((n.wires.length : Int) < n.signals.length) && !decide ((24 : Int) < n.wires.length)) && allK (netWireOk n) 0 n.wires
theorem okEl_eWire (x : PWire) : okEl 4 (eWire x) = true := rfl
theorem p_r_l19Good (n : PNet) (hn : n.Fit) : s_r_l19Good [eNet n] = some (pB (netP n)) := by
 have g1 := p_r_l2Signals n.signals hn.signals hn.names
 have hwl := hn.wires
 unfold Fits at hwl
 show (fun x0 => s_r_l19Good [x0]) _ = _
 rw [sh_r_l19Good]
 simp only [eNet, g1, EVS]
 unfold netP
 obtain c1 | c1 := (Bool.eq_false_or_eq_true (sigsP n.signals)).symm <;> simp only [c1, EVS]
 obtain c2 | c2 := (Bool.eq_false_or_eq_true (decide ((n.wires.length : Int) < n.signals.length))).symm <;> simp only [c2, EVS]
 obtain c3 | c3 := (Bool.eq_false_or_eq_true (decide ((24 : Int) < n.wires.length))).symm <;> simp only [c3, EVS]
 refine (congrArg (scOnly true) (rangeAll (R := PV) n.wires (netWireOk n) (some (pB false)) (some (pB true)) _ hwl (fun again k w hb => ?_) (fun again => ?_))).trans ?_
 ·have hk := lt_of_some hb
  have hi : idxV (.lst (n.wires.map eWire)) (.int .i64 (k : Int)) = some (eWire w) := idx_map hb
  have hc : cutL 4 (.lst (n.wires.map eWire)) none (some (.int .i64 (k : Int))) = some (.lst ((n.wires.take k).map eWire)) := cut_map okEl_eWire (by omega)
  have g3 := p_r_l19Wire n k w hn (hn.wire w (List.mem_of_getElem? hb))
  simp only [eNet, eWire] at g3
  simp only [lt_d hk, next_w hk hwl, hi, eWire, netWireOk, g3, EVS]
  obtain c4 | c4 := (Bool.eq_false_or_eq_true (wireP n k w)).symm <;> simp only [c4, hc, EVS]
  refine (rangeAll (R := PV) (n.wires.take k) (fun _ v => !decide (v.name = w.name)) (some (pB false)) (again [pI ((k + 1 : Nat) : Int)]) _ (by simp; omega) (fun again' j y hy => ?_) (fun again' => ?_)).trans ?_
  ·have hj := lt_of_some hy
   have hi' : idxV (.lst ((n.wires.take k).map eWire)) (.int .i64 (j : Int)) = some (eWire y) := idx_map hy
   simp only [lt_d hj, next_w hj (by simp; omega), hi', eWire, EVS]
   obtain c5 | c5 := (Bool.eq_false_or_eq_true (decide (y.name = w.name))).symm <;> simp only [c5, EVS]
  ·simp only [ge_d, next_w hk hwl, EVS]
  ·rfl
 ·simp only [ge_d, EVS]
 ·cases allK (netWireOk n) 0 n.wires <;> simp only [EVS]
theorem p_i_within (n lo hi : Int) : s_i_within [pI n, pI lo, pI hi] = some (pB (inR n lo hi)) := by
 show (fun x0 x1 x2 => s_i_within [x0, x1, x2]) _ _ _ = _
 rw [sh_i_within]
 unfold inR
 by_cases h : lo ≤ n <;> simp only [h, EVS]
def nameB' (k : Nat) (b : UInt8) : Bool := (decide ((97 : Int) ≤ b.toNat) && decide ((b.toNat : Int) ≤ 122)) || (!decide ((k : Int) = 0) && (decide ((48 : Int) ≤ b.toNat) && decide ((b.toNat : Int) ≤ 57)))
def nameP' (s : List UInt8) : Bool := allK nameB' 0 s && inR s.length 1 6
theorem p_i_isName (s : List UInt8) (hs : s.length ≤ 9223372036854775807) : s_i_isName [.str s] = some (pB (nameP' s)) := by
 show (fun x0 => s_i_isName [x0]) _ = _
 rw [sh_i_isName]
 refine (congrArg (scOnly true) (rangeAll (R := PV) s nameB' (some (pB false)) (some (pB (inR s.length 1 6))) _ hs (fun again k b hb => ?_) (fun again => ?_))).trans ?_
 ·have hk := lt_of_some hb
  simp only [nameB', lt_d hk, next_w hk hs, byteV_at hb, EVS]
  obtain c1 | c1 := (Bool.eq_false_or_eq_true (decide ((97 : Int) ≤ b.toNat))).symm <;> simp only [c1, byteV_at hb, EVS]
  all_goals (obtain c2 | c2 := (Bool.eq_false_or_eq_true (decide ((b.toNat : Int) ≤ 122))).symm <;> try simp only [c2, byteV_at hb, EVS])
  all_goals (obtain c3 | c3 := (Bool.eq_false_or_eq_true (decide ((48 : Int) ≤ b.toNat))).symm <;> try simp only [c3, byteV_at hb, EVS])
  all_goals (obtain c4 | c4 := (Bool.eq_false_or_eq_true (decide ((b.toNat : Int) ≤ 57))).symm <;> try simp only [c4, byteV_at hb, EVS])
  all_goals (obtain c5 | c5 := (Bool.eq_false_or_eq_true (decide ((k : Int) = 0))).symm <;> try simp only [c5, EVS])
 ·simp only [ge_d, p_i_within, EVS]
 ·unfold nameP'
  cases allK nameB' 0 s <;> simp only [EVS]
theorem nameGo_all : ∀ (l : List UInt8) (k : Nat), nameGo (k == 0) l = allK nameB' k l
 | [], _ => rfl
 | b :: r, k => by
  have h := nameGo_all r (k + 1)
  have h1 : (k + 1 == 0) = false := rfl
  rw [h1] at h
  unfold nameGo allK
  rw [h]
  congr 1
  unfold nameB nameB'
  have e1 : decide ((48 : Int) ≤ b.toNat) = !decide ((b.toNat : Int) < 48) := by rw [Bool.eq_iff_iff]; simp
  have e2 : decide ((b.toNat : Int) ≤ 57) = !decide ((57 : Int) < b.toNat) := by rw [Bool.eq_iff_iff]; simp
  have e3 : decide ((k : Int) = 0) = (k == 0) := by rw [Bool.eq_iff_iff]; simp
  rw [e1, e2, e3]
theorem name_eq (s : List UInt8) : isNameP s = nameP' s := by
 unfold isNameP nameP' inR
 rw [← nameGo_all s 0]
 rfl
theorem p_i_isName' (s : List UInt8) (hs : s.length ≤ 9223372036854775807) : s_i_isName [.str s] = some (pB (isNameP s)) := (p_i_isName s hs).trans (by rw [name_eq])
def cubeP' (s : List UInt8) (n : Int) : Bool := allK (fun _ b => cubeB b) 0 s && (decide ((s.length : Int) = n) && inR n 1 8)
theorem p_i_isCube (s : List UInt8) (n : Int) (hs : s.length ≤ 9223372036854775807) : s_i_isCube [.str s, pI n] = some (pB (cubeP' s n)) := by
 show (fun x0 x1 => s_i_isCube [x0, x1]) _ _ = _
 rw [sh_i_isCube]
 refine (congrArg (scOnly true) (rangeAll (R := PV) s (fun _ b => cubeB b) (some (pB false)) (some (pB (decide ((s.length : Int) = n) && inR n 1 8))) _ hs (fun again k b hb => ?_) (fun again => ?_))).trans ?_
 ·have hk := lt_of_some hb
  simp only [cubeB, lt_d hk, next_w hk hs, byteV_at hb, EVS]
  obtain c1 | c1 := (Bool.eq_false_or_eq_true (decide ((b.toNat : Int) = 48))).symm <;> simp only [c1, byteV_at hb, EVS]
  obtain c2 | c2 := (Bool.eq_false_or_eq_true (decide ((b.toNat : Int) = 49))).symm <;> simp only [c2, byteV_at hb, EVS]
  obtain c3 | c3 := (Bool.eq_false_or_eq_true (decide ((b.toNat : Int) = 45))).symm <;> simp only [c3, byteV_at hb, EVS]
 ·simp only [ge_d, EVS]
  obtain c1 | c1 := (Bool.eq_false_or_eq_true (decide ((s.length : Int) = n))).symm <;> simp only [c1, p_i_within, EVS]
 ·unfold cubeP'
  cases allK (fun _ b => cubeB b) 0 s <;> simp only [EVS]
def ixf {α : Type} (q : α → Bool) : Nat → List α → Int
 | _, [] => -1
 | k, x :: r => if q x = true then (k : Int) else ixf q (k + 1) r
theorem rgo_ixf {α : Type} (q : α → Bool) : ∀ (l : List α) (k : Nat), rgo (fun k x => if q x = true then some (some (pI (k : Int))) else none) (some (pI (-1))) k l = some (pI (ixf q k l))
 | [], k => rfl
 | x :: r, k => by
  unfold rgo ixf
  cases q x
  ·simp [rgo_ixf q r (k + 1)]
  ·simp
theorem ixf_ge {α : Type} (q : α → Bool) : ∀ (l : List α) (k : Nat), decide ((0 : Int) ≤ ixf q k l) = !allK (fun _ x => !q x) k l
 | [], k => rfl
 | x :: r, k => by
  unfold ixf allK
  cases q x
  ·simp [ixf_ge q r (k + 1)]
  ·simp
theorem rangeIx {α : Type} (l : List α) (q : α → Bool) (f : (List PV → Option PV) → List PV → Option PV) (hl : l.length ≤ 9223372036854775807)
 (h1 : ∀ again k x, l[k]? = some x → f again [pI (Int.ofNat k)] = if q x = true then some (pI (k : Int)) else again [pI (Int.ofNat (k + 1))])
 (h2 : ∀ again, f again [pI (Int.ofNat l.length)] = some (pI (-1))) : loopR f 18446744073709551616 [pI (Int.ofNat 0)] = some (pI (ixf q 0 l)) := by
 rw [range1 l (fun k x => if q x = true then some (some (pI (k : Int))) else none) (some (pI (-1))) f hl (fun again k x hx => ?_) h2, rgo_ixf]
 rw [h1 again k x hx]
 cases q x <;> simp
theorem caps1 (l : List PV) : capsOf 1 (.tup [.agg l]) = some [.agg l] := by simp [capsOf, PV.parts, PV.isU]
theorem p_i_areSignals_1 (a x : List UInt8 × Int) : s_i_areSignals_1 [eSig a, eSig x] = some (pB (decide (a.1 = x.1))) := by
 show (fun x0 x1 => s_i_areSignals_1 [x0, x1]) _ _ = _
 rw [sh_i_areSignals_1]
 simp only [eSig, List.drop_zero, EVS]
theorem p_g_slices_IndexFunc_Signal__i_areSignals_1 (l : List (List UInt8 × Int)) (x : List UInt8 × Int) (hl : Fits l) : s_g_slices_IndexFunc_Signal__i_areSignals_1 [.lst (l.map eSig), .tup [eSig x]] = some (pI (ixf (fun a => decide (a.1 = x.1)) 0 l)) := by
 show (fun x0 x1 => s_g_slices_IndexFunc_Signal__i_areSignals_1 [x0, x1]) _ _ = _
 rw [sh_g_slices_IndexFunc_Signal__i_areSignals_1]
 unfold Fits at hl
 simp only [EVS]
 refine (congrArg (scOnly true) (rangeIx l (fun a => decide (a.1 = x.1)) _ hl (fun again k a hb => ?_) (fun again => ?_))).trans ?_
 ·have hk := lt_of_some hb
  have hi : idxV (.lst (l.map eSig)) (.int .i64 (k : Int)) = some (eSig a) := idx_map hb
  have g := p_i_areSignals_1 a x
  simp only [eSig] at g
  simp only [lt_d hk, next_w hk hl, hi, eSig, caps1, List.cons_append, List.nil_append, g, EVS]
 ·simp only [ge_d, EVS]
  rfl
 ·simp only [EVS]
theorem p_g_slices_ContainsFunc_Signal__i_areSignals_1 (l : List (List UInt8 × Int)) (x : List UInt8 × Int) (hl : Fits l) : s_g_slices_ContainsFunc_Signal__i_areSignals_1 [.lst (l.map eSig), .tup [eSig x]] = some (pB (!allK (fun _ a => !decide (a.1 = x.1)) 0 l)) := by
 show (fun x0 x1 => s_g_slices_ContainsFunc_Signal__i_areSignals_1 [x0, x1]) _ _ = _
 rw [sh_g_slices_ContainsFunc_Signal__i_areSignals_1]
 simp only [p_g_slices_IndexFunc_Signal__i_areSignals_1 l x hl, ixf_ge (fun a : List UInt8 × Int => decide (a.1 = x.1)) l 0, EVS]
theorem p_i_arePins_1 (p : Int × Bool) (n : Nat) (hn : n ≤ 9223372036854775807) : s_i_arePins_1 [ePin p, .agg [pI n]] = some (pB (!inR p.1 0 ((n : Int) - 1))) := by
 have hwl : IntKind.i64.wrap ((n : Int) - 1) = (n : Int) - 1 := wrap_of (by omega) (by omega)
 show (fun x0 x1 => s_i_arePins_1 [x0, x1]) _ _ = _
 rw [sh_i_arePins_1]
 simp only [ePin, hwl, p_i_within, EVS]
theorem p_g_slices_IndexFunc_Pin__i_arePins_1 (l : List (Int × Bool)) (n : Nat) (hn : n ≤ 9223372036854775807) (hl : Fits l) : s_g_slices_IndexFunc_Pin__i_arePins_1 [.lst (l.map ePin), .tup [.agg [pI n]]] = some (pI (ixf (fun p => !inR p.1 0 ((n : Int) - 1)) 0 l)) := by
 show (fun x0 x1 => s_g_slices_IndexFunc_Pin__i_arePins_1 [x0, x1]) _ _ = _
 rw [sh_g_slices_IndexFunc_Pin__i_arePins_1]
 unfold Fits at hl
 simp only [EVS]
 refine (congrArg (scOnly true) (rangeIx l (fun p => !inR p.1 0 ((n : Int) - 1)) _ hl (fun again k a hb => ?_) (fun again => ?_))).trans ?_
 ·have hk := lt_of_some hb
  have hi : idxV (.lst (l.map ePin)) (.int .i64 (k : Int)) = some (ePin a) := idx_map hb
  have g := p_i_arePins_1 a n hn
  simp only [ePin] at g
  simp only [lt_d hk, next_w hk hl, hi, ePin, caps1, List.cons_append, List.nil_append, g, EVS]
 ·simp only [ge_d, EVS]
  rfl
 ·simp only [EVS]
def pinsIn (l : List (Int × Bool)) (n : Nat) : Bool := allK (fun _ p => inR p.1 0 ((n : Int) - 1)) 0 l
theorem p_i_arePins (l : List (Int × Bool)) (n : Nat) (hn : n ≤ 9223372036854775807) (hl : Fits l) : s_i_arePins [.lst (l.map ePin), pI n] = some (pB (pinsIn l n)) := by
 have g : s_g_slices_ContainsFunc_Pin__i_arePins_1 [.lst (l.map ePin), .tup [.agg [pI n]]] = some (pB (!allK (fun _ p => inR p.1 0 ((n : Int) - 1)) 0 l)) := by
  show (fun x0 x1 => s_g_slices_ContainsFunc_Pin__i_arePins_1 [x0, x1]) _ _ = _
  rw [sh_g_slices_ContainsFunc_Pin__i_arePins_1]
  simp only [p_g_slices_IndexFunc_Pin__i_arePins_1 l n hn hl, ixf_ge (fun p : Int × Bool => !inR p.1 0 ((n : Int) - 1)) l 0, Bool.not_not, EVS]
 show (fun x0 x1 => s_i_arePins [x0, x1]) _ _ = _
 rw [sh_i_arePins]
 have lt : ∀ {R : Type} (l : List PV) (x : Option R), liveThen [.tup l] x = x := fun l x => (Eq.refl _).trans (Eq.refl _)
 simp only [lt, g, List.drop_zero, Bool.not_not, pinsIn, EVS]
theorem p_i_wireOf_1 (w : PWire) (x : List UInt8) : s_i_wireOf_1 [eWire w, .agg [.str x]] = some (pB (decide (w.name = x))) := by
 show (fun x0 x1 => s_i_wireOf_1 [x0, x1]) _ _ = _
 rw [sh_i_wireOf_1]
 simp only [eWire, List.drop_zero, EVS]
theorem p_i_wireOf (l : List PWire) (x : List UInt8) (hl : Fits l) : s_i_wireOf [.lst (l.map eWire), .str x] = some (pI (ixf (fun w : PWire => decide (w.name = x)) 0 l)) := by
 unfold Fits at hl
 have g : s_g_slices_IndexFunc_Wire__i_wireOf_1 [.lst (l.map eWire), .tup [.agg [.str x]]] = some (pI (ixf (fun w : PWire => decide (w.name = x)) 0 l)) := by
  show (fun x0 x1 => s_g_slices_IndexFunc_Wire__i_wireOf_1 [x0, x1]) _ _ = _
  rw [sh_g_slices_IndexFunc_Wire__i_wireOf_1]
  simp only [EVS]
  refine (congrArg (scOnly true) (rangeIx l (fun w : PWire => decide (w.name = x)) _ hl (fun again k a hb => ?_) (fun again => ?_))).trans ?_
  ·have hk := lt_of_some hb
   have hi : idxV (.lst (l.map eWire)) (.int .i64 (k : Int)) = some (eWire a) := idx_map hb
   have g := p_i_wireOf_1 a x
   simp only [eWire] at g
   simp only [lt_d hk, next_w hk hl, hi, eWire, caps1, List.cons_append, List.nil_append, g, EVS]
  ·simp only [ge_d, EVS]
   rfl
  ·simp only [EVS]
 show (fun x0 x1 => s_i_wireOf [x0, x1]) _ _ = _
 rw [sh_i_wireOf]
 have lt : ∀ {R : Type} (l : List PV) (x : Option R), liveThen [.tup l] x = x := fun l x => (Eq.refl _).trans (Eq.refl _)
 simp only [lt, g, List.drop_zero, Bool.not_not, EVS]
theorem p_i_IsValidCover_1 (c : List UInt8) (n : Int) (hc : Fits c) : s_i_IsValidCover_1 [.str c, .agg [pI n]] = some (pB (!cubeP' c n)) := by
 show (fun x0 x1 => s_i_IsValidCover_1 [x0, x1]) _ _ = _
 rw [sh_i_IsValidCover_1]
 simp only [p_i_isCube c n hc, EVS]
theorem p_g_slices_IndexFunc_string__i_IsValidCover_1 (l : List (List UInt8)) (n : Int) (hl : Fits l) (hc : ∀ c ∈ l, Fits c) : s_g_slices_IndexFunc_string__i_IsValidCover_1 [.lst (l.map PV.str), .tup [.agg [pI n]]] = some (pI (ixf (fun c : List UInt8 => !cubeP' c n) 0 l)) := by
 unfold Fits at hl
 show (fun x0 x1 => s_g_slices_IndexFunc_string__i_IsValidCover_1 [x0, x1]) _ _ = _
 rw [sh_g_slices_IndexFunc_string__i_IsValidCover_1]
 simp only [EVS]
 refine (congrArg (scOnly true) (rangeIx l (fun c : List UInt8 => !cubeP' c n) _ hl (fun again k a hb => ?_) (fun again => ?_))).trans ?_
 ·have hk := lt_of_some hb
  have hi : idxV (.lst (l.map PV.str)) (.int .i64 (k : Int)) = some (.str a) := idx_map hb
  have g := p_i_IsValidCover_1 a n (hc a (List.mem_of_getElem? hb))
  simp only [lt_d hk, next_w hk hl, hi, caps1, List.cons_append, List.nil_append, g, EVS]
 ·simp only [ge_d, EVS]
  rfl
 ·simp only [EVS]
theorem eqPin (a c : Int) (b d : Bool) : eqV (some [(0, TD.int .i64), (1, TD.bool)]) .struct (.agg [pI a, pB b]) (.agg [pI c, pB d]) = some (decide (a = c) && (b == d)) := by
 simp [eqV, eqAt, scEq, beq_eq_decide]
theorem zp_bool : ZC.bool.pv = pB false := (Eq.refl _).trans (Eq.refl _)
theorem sp12 (a b c : PV) : splice [a, b] 0 [c] = [c, b] := (Eq.refl _).trans (Eq.refl _)
def coverI (n : Int) (l : List (List UInt8)) : Bool := (inR n 1 8 && decide ((l.length : Int) ≤ 60)) && allK (fun _ c => cubeP' c n) 0 l
def wireForm (n : PNet) (k : Nat) (w : PWire) : Bool :=
 if decide (w.kind = 1) = true then decide ((w.ins.length : Int) = 0)
 else if (decide (w.kind = 2) || decide (w.kind = 3)) = true then inR w.ins.length 1 8
 else if decide (w.kind = 4) = true then decide ((w.ins.length : Int) = 2)
 else if decide (w.kind = 5) = true then coverI n.signals.length w.cover && (decide ((w.ins.length : Int) = 0) || (match w.ins with | [p] => decide (p.1 = (k : Int)) && (p.2 == false) | _ => false))
 else false
def wireI (n : PNet) (k : Nat) (w : PWire) : Bool := !((!decide (w.kind = 5) && decide ((0 : Int) < w.cover.length)) || !pinsIn w.ins n.wires.length) && wireForm n k w
theorem p_i_isWire (h160 : ∀ (n : Int) (l : List (List UInt8)), Fits l → (∀ c ∈ l, Fits c) → s_i_IsValidCover [pI n, .lst (l.map PV.str)] = some (pB (coverI n l))) (n : PNet) (k : Nat) (w : PWire) (hn : n.Fit) (hk : n.wires[k]? = some w) : s_i_isWire [eNet n, pI k] = some (pB (wireI n k w)) := by
 have hw := hn.wire w (List.mem_of_getElem? hk)
 have g1 := h160 n.signals.length w.cover hw.cover hw.cubes
 have hwl := hn.wires
 unfold Fits at hwl
 have g2 := p_i_arePins w.ins n.wires.length hwl hw.ins
 have hi : idxV (.lst (n.wires.map eWire)) (.int .i64 (k : Int)) = some (eWire w) := idx_map hk
 show (fun x0 x1 => s_i_isWire [x0, x1]) _ _ = _
 rw [sh_i_isWire]
 simp only [eNet, hi, eWire, EVS]
 unfold wireI
 obtain c1 | c1 := (Bool.eq_false_or_eq_true (!decide (w.kind = 5))).symm <;> simp only [c1, g2, EVS]
 ·obtain c2 | c2 := (Bool.eq_false_or_eq_true (pinsIn w.ins n.wires.length)).symm <;> simp only [c1, c2, g2, EVS]
  have c5 : decide (w.kind = 5) = true := by simpa using c1
  have e1 : decide (w.kind = 1) = false := by have := of_decide_eq_true c5; simp; omega
  have e2 : decide (w.kind = 2) = false := by have := of_decide_eq_true c5; simp; omega
  have e3 : decide (w.kind = 3) = false := by have := of_decide_eq_true c5; simp; omega
  have e4 : decide (w.kind = 4) = false := by have := of_decide_eq_true c5; simp; omega
  simp only [joinK_eq, wireForm, e1, e2, e3, e4, c5, g1, EVS]
  obtain c3 | c3 := (Bool.eq_false_or_eq_true (coverI n.signals.length w.cover)).symm <;> simp only [c3, EVS]
  have h01 : decide ((0 : Int) = 1) = false := rfl
  have h00 : decide ((0 : Int) = 0) = true := rfl
  have h11 : decide ((1 : Int) = 1) = true := rfl
  have h10 : decide ((1 : Int) = 0) = false := rfl
  rcases hq : w.ins with _ | ⟨p, _ | ⟨q, r⟩⟩
  ·simp only [List.length_nil, h00, EVS]
  ·have hi : idxV (.lst ([p].map ePin)) (.int .i64 0) = some (ePin p) := rfl
   simp only [List.length_cons, List.length_nil, Nat.zero_add, h11, h10, hi, ePin, zp_bool, sp12, eqPin, List.drop_zero, List.drop_succ_cons, EVS]
  ·have h2 : decide (((r.length + 1 + 1 : Nat) : Int) = 0) = false := by simp; omega
   have h3 : decide (((r.length + 1 + 1 : Nat) : Int) = 1) = false := by simp; omega
   simp only [List.length_cons, h2, h3, EVS]
 ·have c5 : decide (w.kind = 5) = false := by simpa using c1
  obtain c2 | c2 := (Bool.eq_false_or_eq_true (decide ((0 : Int) < w.cover.length))).symm <;> simp only [c1, c2, g2, EVS]
  obtain c3 | c3 := (Bool.eq_false_or_eq_true (pinsIn w.ins n.wires.length)).symm <;> simp only [c3, EVS]
  simp only [joinK_eq, wireForm, c5, EVS]
  obtain e1 | e1 := (Bool.eq_false_or_eq_true (decide (w.kind = 1))).symm <;> simp only [e1, EVS]
  obtain e2 | e2 := (Bool.eq_false_or_eq_true (decide (w.kind = 2))).symm <;> simp only [e2, p_i_within, EVS]
  obtain e3 | e3 := (Bool.eq_false_or_eq_true (decide (w.kind = 3))).symm <;> simp only [e3, p_i_within, EVS]
  obtain e4 | e4 := (Bool.eq_false_or_eq_true (decide (w.kind = 4))).symm <;> simp only [e4, EVS]
theorem p_i_IsValidCover (n : Int) (l : List (List UInt8)) (hl : Fits l) (hc : ∀ c ∈ l, Fits c) : s_i_IsValidCover [pI n, .lst (l.map PV.str)] = some (pB (coverI n l)) := by
 have g : s_g_slices_ContainsFunc_string__i_IsValidCover_1 [.lst (l.map PV.str), .tup [.agg [pI n]]] = some (pB (!allK (fun _ c => cubeP' c n) 0 l)) := by
  show (fun x0 x1 => s_g_slices_ContainsFunc_string__i_IsValidCover_1 [x0, x1]) _ _ = _
  rw [sh_g_slices_ContainsFunc_string__i_IsValidCover_1]
  simp only [p_g_slices_IndexFunc_string__i_IsValidCover_1 l n hl hc, ixf_ge (fun c : List UInt8 => !cubeP' c n) l 0, Bool.not_not, EVS]
 show (fun x0 x1 => s_i_IsValidCover [x0, x1]) _ _ = _
 rw [sh_i_IsValidCover]
 simp only [p_i_within, lt_tup, List.drop_zero, coverI, EVS]
 obtain c1 | c1 := (Bool.eq_false_or_eq_true (inR n 1 8)).symm <;> simp only [c1, EVS]
 obtain c2 | c2 := (Bool.eq_false_or_eq_true (decide ((l.length : Int) ≤ 60))).symm <;> simp only [c2, lt_tup, g, Bool.not_not, EVS]
def sigOkI (l : List (List UInt8 × Int)) (k : Nat) (s : List UInt8 × Int) : Bool := (isNameP s.1 && inR s.2 1 3) && allK (fun _ a => !decide (a.1 = s.1)) 0 (l.take k)
def sigsI (l : List (List UInt8 × Int)) : Bool := allK (sigOkI l) 0 l && inR l.length 1 8
theorem p_i_areSignals (l : List (List UInt8 × Int)) (hl : Fits l) (hs : ∀ s ∈ l, Fits s.1) : s_i_areSignals [.lst (l.map eSig)] = some (pB (sigsI l)) := by
 unfold Fits at hl
 show (fun x0 => s_i_areSignals [x0]) _ = _
 rw [sh_i_areSignals]
 simp only [EVS]
 refine (congrArg (scOnly true) (rangeAll (R := PV) l (sigOkI l) (some (pB false)) (some (pB (inR l.length 1 8))) _ hl (fun again k s hb => ?_) (fun again => ?_))).trans ?_
 ·have hk := lt_of_some hb
  have hi : idxV (.lst (l.map eSig)) (.int .i64 (k : Int)) = some (eSig s) := idx_map hb
  have hc : cutL 2 (.lst (l.map eSig)) none (some (.int .i64 (k : Int))) = some (.lst ((l.take k).map eSig)) := cut_map okEl_eSig (by omega)
  have hn := p_i_isName' s.1 (hs s (List.mem_of_getElem? hb))
  have g := p_g_slices_ContainsFunc_Signal__i_areSignals_1 (l.take k) s (by show (l.take k).length ≤ _; simp; omega)
  simp only [eSig] at g
  simp only [lt_d hk, next_w hk hl, hi, eSig, hn, sigOkI, EVS]
  obtain c1 | c1 := (Bool.eq_false_or_eq_true (isNameP s.1)).symm <;> simp only [c1, p_i_within, EVS]
  obtain c2 | c2 := (Bool.eq_false_or_eq_true (inR s.2 1 3)).symm <;> simp only [c2, EVS]
  simp only [hc, List.drop_zero, lt_tup, g, EVS]
  obtain c3 | c3 := (Bool.eq_false_or_eq_true (allK (fun _ (a : List UInt8 × Int) => !decide (a.1 = s.1)) 0 (l.take k))).symm <;> simp only [c3, EVS]
 ·simp only [ge_d, p_i_within, EVS]
 ·unfold sigsI
  cases allK (sigOkI l) 0 l <;> simp only [EVS]
def netWireI (n : PNet) (k : Nat) (w : PWire) : Bool :=
 (wireI n k w && isNameP w.name && allK (fun _ v => !decide (v.name = w.name)) 0 (n.wires.take k)) &&
 (if decide ((k : Int) < (n.signals.length : Int)) = true then wireSeen n k w else (decide (w.kind = 2) || decide (w.kind = 3)) && pinsIn w.ins k)
def netI (n : PNet) : Bool := (sigsI n.signals && inR n.wires.length n.signals.length 24) && allK (netWireI n) 0 n.wires
theorem p_i_IsValidNetlist (n : PNet) (hn : n.Fit) : s_i_IsValidNetlist [eNet n] = some (pB (netI n)) := by
 have g1 := p_i_areSignals n.signals hn.signals hn.names
 have hwl := hn.wires
 unfold Fits at hwl
 show (fun x0 => s_i_IsValidNetlist [x0]) _ = _
 rw [sh_i_IsValidNetlist]
 simp only [eNet, g1, EVS]
 unfold netI
 obtain c1 | c1 := (Bool.eq_false_or_eq_true (sigsI n.signals)).symm <;> simp only [c1, p_i_within, EVS]
 obtain c2 | c2 := (Bool.eq_false_or_eq_true (inR n.wires.length n.signals.length 24)).symm <;> simp only [c2, EVS]
 refine (congrArg (scOnly true) (rangeAll (R := PV) n.wires (netWireI n) (some (pB false)) (some (pB true)) _ hwl (fun again k w hb => ?_) (fun again => ?_))).trans ?_
 ·have hk := lt_of_some hb
  have hw := hn.wire w (List.mem_of_getElem? hb)
  have hi : idxV (.lst (n.wires.map eWire)) (.int .i64 (k : Int)) = some (eWire w) := idx_map hb
  have hc : cutL 4 (.lst (n.wires.map eWire)) none (some (.int .i64 (k : Int))) = some (.lst ((n.wires.take k).map eWire)) := cut_map okEl_eWire (by omega)
  have g2 := p_i_isWire p_i_IsValidCover n k w hn hb
  have g3 := p_i_isName' w.name hw.name
  have g4 := p_i_wireOf (n.wires.take k) w.name (by show (n.wires.take k).length ≤ _; simp; omega)
  have g5 := p_i_arePins w.ins k (by omega) hw.ins
  simp only [eNet] at g2
  simp only [lt_d hk, next_w hk hwl, hi, eWire, netWireI, g2, EVS]
  obtain c1 | c1 := (Bool.eq_false_or_eq_true (wireI n k w)).symm <;> simp only [c1, g3, EVS]
  obtain c2 | c2 := (Bool.eq_false_or_eq_true (isNameP w.name)).symm <;> simp only [c2, hc, g4, EVS]
  simp only [ixf_ge (fun v : PWire => decide (v.name = w.name)) (n.wires.take k) 0]
  obtain c3 | c3 := (Bool.eq_false_or_eq_true (allK (fun _ (v : PWire) => !decide (v.name = w.name)) 0 (n.wires.take k))).symm <;> simp only [c3, joinK_eq, EVS]
  obtain c4 | c4 := (Bool.eq_false_or_eq_true (decide ((k : Int) < (n.signals.length : Int)))).symm <;> simp only [c4, EVS]
  ·obtain c5 | c5 := (Bool.eq_false_or_eq_true (decide (w.kind = 2))).symm <;> simp only [c5, g5, EVS]
   ·obtain c6 | c6 := (Bool.eq_false_or_eq_true (decide (w.kind = 3))).symm <;> simp only [c6, g5, EVS]
    obtain c7 | c7 := (Bool.eq_false_or_eq_true (pinsIn w.ins k)).symm <;> simp only [c7, next_w hk hwl, EVS]
   ·obtain c7 | c7 := (Bool.eq_false_or_eq_true (pinsIn w.ins k)).symm <;> simp only [c7, next_w hk hwl, EVS]
  ·have hks : k < n.signals.length := by have := of_decide_eq_true c4; omega
   have hs : n.signals[k]? = some n.signals[k] := List.getElem?_eq_getElem hks
   have hi2 : idxV (.lst (n.signals.map eSig)) (.int .i64 (k : Int)) = some (eSig n.signals[k]) := idx_map hs
   simp only [wireSeen, hs, hi2, eSig, List.drop_zero, List.drop_succ_cons, EVS]
   obtain c5 | c5 := (Bool.eq_false_or_eq_true (decide (w.name = n.signals[k].1))).symm <;> simp only [c5, hi2, eSig, List.drop_zero, List.drop_succ_cons, EVS]
   obtain c6 | c6 := (Bool.eq_false_or_eq_true (decide (w.kind = 1) == decide (n.signals[k].2 = 1))).symm <;> simp only [bne, c6, next_w hk hwl, EVS]
 ·simp only [ge_d, EVS]
 ·cases allK (netWireI n) 0 n.wires <;> simp only [EVS]
theorem allK_all {α : Type} (q : α → Bool) : ∀ (l : List α) (k : Nat), allK (fun _ x => q x) k l = l.all q
 | [], _ => rfl
 | x :: r, k => by unfold allK; rw [allK_all q r (k + 1), List.all_cons]
theorem allK_congr {α : Type} (f g : Nat → α → Bool) (h : ∀ k x, f k x = g k x) : ∀ (l : List α) (k : Nat), allK f k l = allK g k l
 | [], _ => rfl
 | x :: r, k => by unfold allK; rw [h k x, allK_congr f g h r (k + 1)]
theorem sigs_eq (l : List (List UInt8 × Int)) : sigsP l = sigsI l := by
 unfold sigsP sigsI
 rw [allK_congr (sigOk l) (sigOkI l) (fun k x => ?_) l 0]
 unfold sigOk sigOkI
 rw [allK_congr (fun _ (y : List UInt8 × Int) => !decide (x.1 = y.1)) (fun _ (y : List UInt8 × Int) => !decide (y.1 = x.1)) (fun _ y => by simp [eq_comm]) _ 0]
theorem cover_eq (n : Int) (l : List (List UInt8)) : goodP n l = coverI n l := by
 unfold goodP coverI coverGo
 rw [Bool.and_comm, Bool.eq_iff_iff]
 simp only [Bool.and_eq_true]
 refine and_congr_right fun h => ?_
 rw [allK_congr (fun _ c => cubeP c && decide ((c.length : Int) = n)) (fun _ c => cubeP' c n) (fun _ c => ?_) l 0]
 unfold cubeP cubeP' inR
 rw [Bool.eq_iff_iff]
 simp only [Bool.and_eq_true, decide_eq_true_eq]
 constructor
 ·rintro ⟨⟨h1, h2, h3⟩, h4⟩
  exact ⟨h1, h4, by omega, by omega⟩
 ·rintro ⟨h1, h2, h3, h4⟩
  exact ⟨⟨h1, by omega, by omega⟩, h2⟩
theorem pins_seen (n : PNet) (k : Nat) (l : List (Int × Bool)) (h : k < n.signals.length) : allK (fun _ p => pinOk n k p) 0 l = pinsIn l n.wires.length := by
 unfold pinsIn
 refine allK_congr _ _ (fun _ p => ?_) l 0
 unfold pinOk
 have : decide ((n.signals.length : Int) ≤ k) = false := by simp; omega
 rw [this]
 simp
theorem pins_late (n : PNet) (k : Nat) (l : List (Int × Bool)) (h : ¬ k < n.signals.length) : allK (fun _ p => pinOk n k p) 0 l = (pinsIn l n.wires.length && pinsIn l k) := by
 unfold pinsIn
 rw [allK_all, allK_all, allK_all, Bool.eq_iff_iff]
 have : decide ((n.signals.length : Int) ≤ k) = true := by simp; omega
 simp only [Bool.and_eq_true, List.all_eq_true, pinOk, inR, this, Bool.true_and, Bool.not_eq_true', decide_eq_true_eq, decide_eq_false_iff_not]
 constructor
 ·intro h
  exact ⟨fun p hp => (h p hp).1, fun p hp => ⟨(h p hp).1.1, by have := (h p hp).2; omega⟩⟩
 ·rintro ⟨h1, h2⟩ p hp
  exact ⟨h1 p hp, by have := (h2 p hp).2; omega⟩
theorem form_eq (n : PNet) (k : Nat) (w : PWire) : (inR w.kind 1 5 && ((if decide (w.kind = 5) = true then coverI n.signals.length w.cover else !decide ((0 : Int) < w.cover.length)) && pinForm k w.kind w.ins)) = (!(!decide (w.kind = 5) && decide ((0 : Int) < w.cover.length)) && wireForm n k w) := by
 unfold pinForm wireForm
 by_cases h1 : w.kind = 1
 ·simp [h1, inR]
 by_cases h2 : w.kind = 2
 ·simp [h2, inR]
 by_cases h3 : w.kind = 3
 ·simp [h3, inR]
 by_cases h4 : w.kind = 4
 ·simp [h4, inR]
 by_cases h5 : w.kind = 5
 ·obtain ⟨nm, kd, ins, cov⟩ := w
  simp only at h5
  rcases ins with _ | ⟨p, _ | ⟨q, r⟩⟩ <;> simp [h5, inR]
 ·have : inR w.kind 1 5 = false := by
   unfold inR
   simp only [Bool.and_eq_false_iff, decide_eq_false_iff_not]
   omega
  simp [this, h1, h2, h3, h4, h5]
theorem wire_eq (n : PNet) (k : Nat) (w : PWire) : netWireOk n k w = netWireI n k w := by
 unfold netWireOk netWireI wireP wireI pinsP
 have hf := form_eq n k w
 rw [cover_eq]
 by_cases hk : k < n.signals.length
 ·have hd : decide ((k : Int) < (n.signals.length : Int)) = true := by simpa using hk
  rw [pins_seen n k w.ins hk]
  simp only [hd, if_true, Bool.true_or, Bool.not_true, Bool.false_or, Bool.not_false, Bool.false_eq_true, if_false, Bool.true_and]
  revert hf
  generalize inR w.kind 1 5 = a1
  generalize (if decide (w.kind = 5) = true then coverI (↑n.signals.length) w.cover else !decide ((0 : Int) < ↑w.cover.length)) = a2
  generalize pinForm k w.kind w.ins = a3
  generalize (!decide (w.kind = 5) && decide ((0 : Int) < w.cover.length)) = a4
  generalize wireForm n k w = a5
  generalize pinsIn w.ins n.wires.length = a6
  generalize wireSeen n k w = a7
  generalize isNameP w.name = a8
  generalize allK (fun _ (v : PWire) => !decide (v.name = w.name)) 0 (n.wires.take k) = a9
  cases a1 <;> cases a2 <;> cases a3 <;> cases a4 <;> cases a5 <;> cases a6 <;> cases a7 <;> cases a8 <;> cases a9 <;> decide
 ·have hd : decide ((k : Int) < (n.signals.length : Int)) = false := by simpa using hk
  rw [pins_late n k w.ins hk]
  simp only [hd, if_true, Bool.true_or, Bool.not_true, Bool.false_or, Bool.not_false, Bool.false_eq_true, if_false, Bool.true_and]
  revert hf
  generalize inR w.kind 1 5 = a1
  generalize (if decide (w.kind = 5) = true then coverI (↑n.signals.length) w.cover else !decide ((0 : Int) < ↑w.cover.length)) = a2
  generalize pinForm k w.kind w.ins = a3
  generalize (!decide (w.kind = 5) && decide ((0 : Int) < w.cover.length)) = a4
  generalize wireForm n k w = a5
  generalize pinsIn w.ins n.wires.length = a6
  generalize isNameP w.name = a8
  generalize pinsIn w.ins k = a7
  generalize decide (w.kind = 2) = b2
  generalize decide (w.kind = 3) = b3
  generalize allK (fun _ (v : PWire) => !decide (v.name = w.name)) 0 (n.wires.take k) = a9
  cases a1 <;> cases a2 <;> cases a3 <;> cases a4 <;> cases a5 <;> cases a6 <;> cases a7 <;> cases a8 <;> cases a9 <;> cases b2 <;> cases b3 <;> decide
theorem net_eq (n : PNet) : netP n = netI n := by
 unfold netP netI
 rw [sigs_eq, allK_congr (netWireOk n) (netWireI n) (fun k x => wire_eq n k x) n.wires 0]
 congr 2
 unfold inR
 rw [Bool.eq_iff_iff]
 simp
def bitB (b : UInt8) : Bool := decide ((b.toNat : Int) = 48) || decide ((b.toNat : Int) = 49)
def bitsP (s : List UInt8) (n : Int) : Bool := allK (fun _ b => bitB b) 0 s && decide ((s.length : Int) = n)
theorem p_r_l5Code (s : List UInt8) (n : Int) (hs : Fits s) : s_r_l5Code [.str s, pI n] = some (pB (bitsP s n)) := by
 unfold Fits at hs
 show (fun x0 x1 => s_r_l5Code [x0, x1]) _ _ = _
 rw [sh_r_l5Code]
 refine (congrArg (scOnly true) (rangeAll (R := PV) s (fun _ b => bitB b) (some (pB false)) (some (pB (decide ((s.length : Int) = n)))) _ hs (fun again k b hb => ?_) (fun again => ?_))).trans ?_
 ·have hk := lt_of_some hb
  simp only [bitB, lt_d hk, next_w hk hs, byteV_at hb, EVS]
  obtain c1 | c1 := (Bool.eq_false_or_eq_true (decide ((b.toNat : Int) = 48))).symm <;> simp only [c1, byteV_at hb, EVS]
  obtain c2 | c2 := (Bool.eq_false_or_eq_true (decide ((b.toNat : Int) = 49))).symm <;> simp only [c2, byteV_at hb, EVS]
 ·simp only [ge_d, EVS]
 ·unfold bitsP
  cases allK (fun _ b => bitB b) 0 s <;> simp only [EVS]
theorem p_i_isBits (s : List UInt8) (n : Int) (hs : Fits s) : s_i_isBits [.str s, pI n] = some (pB (bitsP s n)) := by
 unfold Fits at hs
 show (fun x0 x1 => s_i_isBits [x0, x1]) _ _ = _
 rw [sh_i_isBits]
 refine (congrArg (scOnly true) (rangeAll (R := PV) s (fun _ b => bitB b) (some (pB false)) (some (pB (decide ((s.length : Int) = n)))) _ hs (fun again k b hb => ?_) (fun again => ?_))).trans ?_
 ·have hk := lt_of_some hb
  simp only [bitB, lt_d hk, next_w hk hs, byteV_at hb, EVS]
  obtain c1 | c1 := (Bool.eq_false_or_eq_true (decide ((b.toNat : Int) = 48))).symm <;> simp only [c1, byteV_at hb, EVS]
  obtain c2 | c2 := (Bool.eq_false_or_eq_true (decide ((b.toNat : Int) = 49))).symm <;> simp only [c2, byteV_at hb, EVS]
 ·simp only [ge_d, EVS]
 ·unfold bitsP
  cases allK (fun _ b => bitB b) 0 s <;> simp only [EVS]
def valuesP (n : PNet) (s : List UInt8) : Bool := netP n && bitsP s n.wires.length
def pinV (p : Int × Bool) (s : List UInt8) : Bool := match s[p.1.toNat]? with | some b => decide ((b.toNat : Int) = 49) != p.2 | none => false
theorem pin_at {p : Int × Bool} {s : List UInt8} (h0 : 0 ≤ p.1) (h1 : p.1 < s.length) : ∃ b : UInt8, s[p.1.toNat]? = some b ∧ byteV (.str s) (pI p.1) = some (pU b) := by
 have h2 : p.1.toNat < s.length := by omega
 refine ⟨s[p.1.toNat], List.getElem?_eq_getElem h2, ?_⟩
 have := byteV_at (k := .i64) (List.getElem?_eq_getElem h2)
 rw [Int.toNat_of_nonneg h0] at this
 exact this
theorem p_r_l19Pin (p : Int × Bool) (s : List UInt8) (h0 : 0 ≤ p.1) (h1 : p.1 < s.length) : s_r_l19Pin [ePin p, .str s] = some (pB (pinV p s)) := by
 obtain ⟨b, hb, hv⟩ := pin_at h0 h1
 show (fun x0 x1 => s_r_l19Pin [x0, x1]) _ _ = _
 rw [sh_r_l19Pin]
 simp only [ePin, hv, pinV, hb, bne, EVS]
theorem p_i_pinValue (p : Int × Bool) (s : List UInt8) (h0 : 0 ≤ p.1) (h1 : p.1 < s.length) : s_i_pinValue [ePin p, .str s] = some (pB (pinV p s)) := by
 obtain ⟨b, hb, hv⟩ := pin_at h0 h1
 show (fun x0 x1 => s_i_pinValue [x0, x1]) _ _ = _
 rw [sh_i_pinValue]
 simp only [ePin, hv, pinV, hb, bne, EVS]
def hasB (code : List UInt8) (k : Nat) (b : UInt8) : Bool := decide ((b.toNat : Int) = 45) || (match code[k]? with | some c => decide ((b.toNat : Int) = c.toNat) | none => false)
def hasP (cube code : List UInt8) : Bool := allK (hasB code) 0 cube
theorem p_r_l13Has (cube code : List UInt8) (hs : Fits cube) (hl : cube.length ≤ code.length) : s_r_l13Has [.str cube, .str code] = some (pB (hasP cube code)) := by
 unfold Fits at hs
 show (fun x0 x1 => s_r_l13Has [x0, x1]) _ _ = _
 rw [sh_r_l13Has]
 refine (congrArg (scOnly true) (rangeAll (R := PV) cube (hasB code) (some (pB false)) (some (pB true)) _ hs (fun again k b hb => ?_) (fun again => ?_))).trans ?_
 ·have hk := lt_of_some hb
  have hc : code[k]? = some code[k] := List.getElem?_eq_getElem (by omega)
  simp only [hasB, hc, lt_d hk, next_w hk hs, byteV_at hb, byteV_at hc, EVS]
  obtain c1 | c1 := (Bool.eq_false_or_eq_true (decide ((b.toNat : Int) = 45))).symm <;> simp only [c1, byteV_at hb, byteV_at hc, EVS]
  obtain c2 | c2 := (Bool.eq_false_or_eq_true (decide ((b.toNat : Int) = (code[k].toNat : Int)))).symm <;> simp only [c2, EVS]
 ·simp only [ge_d, EVS]
 ·unfold hasP
  cases allK (hasB code) 0 cube <;> simp only [EVS]
theorem p_i_contains (cube code : List UInt8) (hs : Fits cube) (hl : cube.length ≤ code.length) : s_i_contains [.str cube, .str code] = some (pB (hasP cube code)) := by
 unfold Fits at hs
 show (fun x0 x1 => s_i_contains [x0, x1]) _ _ = _
 rw [sh_i_contains]
 simp only [EVS]
 refine (congrArg (scOnly true) (rangeAll (R := PV) cube (hasB code) (some (pB false)) (some (pB true)) _ hs (fun again k b hb => ?_) (fun again => ?_))).trans ?_
 ·have hk := lt_of_some hb
  have hc : code[k]? = some code[k] := List.getElem?_eq_getElem (by omega)
  simp only [hasB, hc, lt_d hk, next_w hk hs, byteV_at hb, byteV_at hc, EVS]
  obtain c1 | c1 := (Bool.eq_false_or_eq_true (decide ((b.toNat : Int) = 45))).symm <;> simp only [c1, byteV_at hb, byteV_at hc, EVS]
  obtain c2 | c2 := (Bool.eq_false_or_eq_true (decide ((b.toNat : Int) = (code[k].toNat : Int)))).symm <;> simp only [c2, EVS]
 ·simp only [ge_d, EVS]
 ·unfold hasP
  cases allK (hasB code) 0 cube <;> simp only [EVS]
def inP (l : List (List UInt8)) (code : List UInt8) : Bool := !allK (fun _ c => !hasP c code) 0 l
theorem p_r_l13In (l : List (List UInt8)) (code : List UInt8) (hl : Fits l) (hc : ∀ c ∈ l, Fits c ∧ c.length ≤ code.length) : s_r_l13In [.lst (l.map PV.str), .str code] = some (pB (inP l code)) := by
 unfold Fits at hl
 show (fun x0 x1 => s_r_l13In [x0, x1]) _ _ = _
 rw [sh_r_l13In]
 simp only [EVS]
 refine (congrArg (scOnly true) (rangeAll (R := PV) l (fun _ c => !hasP c code) (some (pB true)) (some (pB false)) _ hl (fun again k s hb => ?_) (fun again => ?_))).trans ?_
 ·have hk := lt_of_some hb
  have hi : idxV (.lst (l.map PV.str)) (.int .i64 (k : Int)) = some (.str s) := idx_map hb
  have hh := hc s (List.mem_of_getElem? hb)
  have g := p_r_l13Has s code hh.1 hh.2
  simp only [lt_d hk, next_w hk hl, hi, g, EVS]
  obtain c1 | c1 := (Bool.eq_false_or_eq_true (hasP s code)).symm <;> simp only [c1, EVS]
 ·simp only [ge_d, EVS]
 ·unfold inP
  cases allK (fun _ c => !hasP c code) 0 l <;> simp only [EVS]
theorem p_i_covers (l : List (List UInt8)) (code : List UInt8) (hl : Fits l) (hc : ∀ c ∈ l, Fits c ∧ c.length ≤ code.length) : s_i_covers [.lst (l.map PV.str), .str code] = some (pB (inP l code)) := by
 have g0 : s_g_slices_IndexFunc_string__i_covers_1 [.lst (l.map PV.str), .tup [.agg [.str code]]] = some (pI (ixf (fun c : List UInt8 => hasP c code) 0 l)) := by
  unfold Fits at hl
  show (fun x0 x1 => s_g_slices_IndexFunc_string__i_covers_1 [x0, x1]) _ _ = _
  rw [sh_g_slices_IndexFunc_string__i_covers_1]
  simp only [EVS]
  refine (congrArg (scOnly true) (rangeIx l (fun c : List UInt8 => hasP c code) _ hl (fun again k a hb => ?_) (fun again => ?_))).trans ?_
  ·have hk := lt_of_some hb
   have hi : idxV (.lst (l.map PV.str)) (.int .i64 (k : Int)) = some (.str a) := idx_map hb
   have hh := hc a (List.mem_of_getElem? hb)
   have g : s_i_covers_1 [.str a, .agg [.str code]] = some (pB (hasP a code)) := by
    show (fun x0 x1 => s_i_covers_1 [x0, x1]) _ _ = _
    rw [sh_i_covers_1]
    simp only [p_i_contains a code hh.1 hh.2, EVS]
   simp only [lt_d hk, next_w hk hl, hi, caps1, List.cons_append, List.nil_append, g, EVS]
  ·simp only [ge_d, EVS]
   rfl
  ·simp only [EVS]
 have g1 : s_g_slices_ContainsFunc_string__i_covers_1 [.lst (l.map PV.str), .tup [.agg [.str code]]] = some (pB (inP l code)) := by
  show (fun x0 x1 => s_g_slices_ContainsFunc_string__i_covers_1 [x0, x1]) _ _ = _
  rw [sh_g_slices_ContainsFunc_string__i_covers_1]
  simp only [g0, inP, ixf_ge (fun c : List UInt8 => hasP c code) l 0, EVS]
 show (fun x0 x1 => s_i_covers [x0, x1]) _ _ = _
 rw [sh_i_covers]
 simp only [lt_tup, List.drop_zero, g1, EVS]
def PinsAt (l : List (Int × Bool)) (s : List UInt8) : Prop := ∀ p ∈ l, 0 ≤ p.1 ∧ p.1 < s.length
theorem p_g_slices_ContainsFunc_Pin__i_nextWire_1 (l : List (Int × Bool)) (s : List UInt8) (hl : Fits l) (hp : PinsAt l s) : s_g_slices_ContainsFunc_Pin__i_nextWire_1 [.lst (l.map ePin), .tup [.agg [.str s]]] = some (pB (!allK (fun _ p => pinV p s) 0 l)) := by
 have g0 : s_g_slices_IndexFunc_Pin__i_nextWire_1 [.lst (l.map ePin), .tup [.agg [.str s]]] = some (pI (ixf (fun p : Int × Bool => !pinV p s) 0 l)) := by
  unfold Fits at hl
  show (fun x0 x1 => s_g_slices_IndexFunc_Pin__i_nextWire_1 [x0, x1]) _ _ = _
  rw [sh_g_slices_IndexFunc_Pin__i_nextWire_1]
  simp only [EVS]
  refine (congrArg (scOnly true) (rangeIx l (fun p : Int × Bool => !pinV p s) _ hl (fun again k a hb => ?_) (fun again => ?_))).trans ?_
  ·have hk := lt_of_some hb
   have hi : idxV (.lst (l.map ePin)) (.int .i64 (k : Int)) = some (ePin a) := idx_map hb
   have hh := hp a (List.mem_of_getElem? hb)
   have g := p_i_pinValue a s hh.1 hh.2
   simp only [ePin] at g
   have g' : s_i_nextWire_1 [ePin a, .agg [.str s]] = some (pB (!pinV a s)) := by
    show (fun x0 x1 => s_i_nextWire_1 [x0, x1]) _ _ = _
    rw [sh_i_nextWire_1]
    simp only [ePin, g, EVS]
   simp only [ePin] at g'
   simp only [lt_d hk, next_w hk hl, hi, ePin, caps1, List.cons_append, List.nil_append, g', EVS]
  ·simp only [ge_d, EVS]
   rfl
  ·simp only [EVS]
 show (fun x0 x1 => s_g_slices_ContainsFunc_Pin__i_nextWire_1 [x0, x1]) _ _ = _
 rw [sh_g_slices_ContainsFunc_Pin__i_nextWire_1]
 simp only [g0, ixf_ge (fun p : Int × Bool => !pinV p s) l 0, Bool.not_not, EVS]
theorem p_g_slices_ContainsFunc_Pin__i_nextWire_2 (l : List (Int × Bool)) (s : List UInt8) (hl : Fits l) (hp : PinsAt l s) : s_g_slices_ContainsFunc_Pin__i_nextWire_2 [.lst (l.map ePin), .tup [.agg [.str s]]] = some (pB (!allK (fun _ p => !pinV p s) 0 l)) := by
 have g0 : s_g_slices_IndexFunc_Pin__i_nextWire_2 [.lst (l.map ePin), .tup [.agg [.str s]]] = some (pI (ixf (fun p : Int × Bool => pinV p s) 0 l)) := by
  unfold Fits at hl
  show (fun x0 x1 => s_g_slices_IndexFunc_Pin__i_nextWire_2 [x0, x1]) _ _ = _
  rw [sh_g_slices_IndexFunc_Pin__i_nextWire_2]
  simp only [EVS]
  refine (congrArg (scOnly true) (rangeIx l (fun p : Int × Bool => pinV p s) _ hl (fun again k a hb => ?_) (fun again => ?_))).trans ?_
  ·have hk := lt_of_some hb
   have hi : idxV (.lst (l.map ePin)) (.int .i64 (k : Int)) = some (ePin a) := idx_map hb
   have hh := hp a (List.mem_of_getElem? hb)
   have g := p_i_pinValue a s hh.1 hh.2
   simp only [ePin] at g
   have g' : s_i_nextWire_2 [ePin a, .agg [.str s]] = some (pB (pinV a s)) := by
    show (fun x0 x1 => s_i_nextWire_2 [x0, x1]) _ _ = _
    rw [sh_i_nextWire_2]
    simp only [ePin, g, EVS]
   simp only [ePin] at g'
   simp only [lt_d hk, next_w hk hl, hi, ePin, caps1, List.cons_append, List.nil_append, g', EVS]
  ·simp only [ge_d, EVS]
   rfl
  ·simp only [EVS]
 show (fun x0 x1 => s_g_slices_ContainsFunc_Pin__i_nextWire_2 [x0, x1]) _ _ = _
 rw [sh_g_slices_ContainsFunc_Pin__i_nextWire_2]
 simp only [g0, ixf_ge (fun p : Int × Bool => pinV p s) l 0, EVS]
def oneV (s : List UInt8) (k : Nat) : Bool := match s[k]? with | some b => decide ((b.toNat : Int) = 49) | none => false
def restP (n : PNet) (s : List UInt8) (k : Nat) (w : PWire) : Bool :=
 if decide (w.kind = 5) = true then inP w.cover (s.take n.signals.length)
 else if decide (w.kind = 4) = true then (match w.ins with | [p, q] => if (pinV p s != pinV q s) = true then pinV p s else oneV s k | _ => oneV s k)
 else oneV s k
def nextP (n : PNet) (s : List UInt8) (k : Nat) (w : PWire) : Bool :=
 if decide (w.kind = 2) = true then allK (fun _ p => pinV p s) 0 w.ins
 else if decide (w.kind = 3) = true then !allK (fun _ p => !pinV p s) 0 w.ins
 else restP n s k w
theorem cutS_take0 (s : List UInt8) (k : Nat) (h : k ≤ s.length) : cutS (.str s) none (some (pI (k : Int))) = some (.str (s.take k)) := by
 have : (0 : Int) ≤ (k : Int) ∧ (k : Int) ≤ (s.length : Int) := by omega
 simp [cutS, bndV, bnd0, this]
structure At (n : PNet) (s : List UInt8) (k : Nat) (w : PWire) : Prop where
 fit : n.Fit
 here : n.wires[k]? = some w
 wire : w.Fit
 fits : Fits s
 lt : k < s.length
 sig : n.signals.length ≤ s.length
 pins : PinsAt w.ins s
 cubes : w.kind = 5 → ∀ c ∈ w.cover, c.length ≤ n.signals.length
 two : w.kind = 4 → w.ins.length = 2
theorem loop3 {l : List (Int × Bool)} (s : List UInt8) (E : Bool → Bool → Bool) (f : (List PV → Option PV) → List PV → Option PV) (hl : l.length ≤ 9223372036854775807)
 (h1 : ∀ again (a b : Bool) (k : Nat) x, l[k]? = some x → f again [pB a, pB b, pI (k : Int)] = again [pB (a && pinV x s), pB (b || pinV x s), pI ((k + 1 : Nat) : Int)])
 (h2 : ∀ again (a b : Bool) (k : Nat), ¬ k < l.length → f again [pB a, pB b, pI (k : Int)] = some (pB (E a b))) :
 loopR f 18446744073709551616 [pB true, pB false, pI (0 : Int)] = some (pB (E (allK (fun _ p => pinV p s) 0 l) (!allK (fun _ p => !pinV p s) 0 l))) := by
 have key := loopR_go (R := PV) (fun t : Bool × Bool × Nat => [pB t.1, pB t.2.1, pI (t.2.2 : Int)]) (fun t => l.length + 1 - t.2.2) (fun t => some (pB (E (t.1 && (l.drop t.2.2).all fun p => pinV p s) (t.2.1 || !(l.drop t.2.2).all fun p => !pinV p s)))) f (fun again t ih => ?_) 18446744073709551616 (true, false, 0) (by simp only; omega)
 ·simp only [Bool.true_and, Bool.false_or, List.drop_zero] at key
  rw [allK_all, allK_all]
  exact key
 ·obtain ⟨a, b, k⟩ := t
  dsimp only at ih ⊢
  by_cases hk : k < l.length
  ·have hx : l[k]? = some l[k] := List.getElem?_eq_getElem hk
   rw [h1 again a b k _ hx, ih (_, _, k + 1) (by simp only; omega), List.drop_eq_getElem_cons hk]
   simp only [List.all_cons, Bool.and_assoc]
   cases pinV l[k] s <;> simp
  ·rw [h2 again a b k hk, List.drop_eq_nil_of_le (by omega)]
   simp
theorem p_r_l19Next (n : PNet) (s : List UInt8) (k : Nat) (w : PWire) (h : At n s k w) : s_r_l19Next [eNet n, .str s, pI k] = some (pB (nextP n s k w)) := by
 have hi : idxV (.lst (n.wires.map eWire)) (.int .i64 (k : Int)) = some (eWire w) := idx_map h.here
 have hil := h.wire.ins
 unfold Fits at hil
 show (fun x0 x1 x2 => s_r_l19Next [x0, x1, x2]) _ _ _ = _
 rw [sh_r_l19Next]
 simp only [eNet, hi, eWire, EVS]
 refine (congrArg (scOnly true) (loop3 (l := w.ins) s (fun a b => if decide (w.kind = 2) = true then a else if decide (w.kind = 3) = true then b else restP n s k w) _ hil (fun again a b j p hb => ?_) (fun again a b j hj => ?_))).trans ?_
 ·have hk := lt_of_some hb
  have hi2 : idxV (.lst (w.ins.map ePin)) (.int .i64 (j : Int)) = some (ePin p) := idx_map hb
  have hp := h.pins p (List.mem_of_getElem? hb)
  have g := p_r_l19Pin p s hp.1 hp.2
  simp only [ePin] at g
  simp only [lt_d hk, next_w hk hil, hi2, ePin, g, EVS]
  cases a <;> cases b <;> simp only [EVS]
 ·have hlt : decide ((j : Int) < (w.ins.length : Int)) = false := by simp; omega
  simp only [hlt, EVS]
  obtain c1 | c1 := (Bool.eq_false_or_eq_true (decide (w.kind = 2))).symm <;> simp only [c1, EVS]
  obtain c2 | c2 := (Bool.eq_false_or_eq_true (decide (w.kind = 3))).symm <;> simp only [c2, EVS]
  have hone : oneV s k = decide ((s[k]'h.lt).toNat = (49 : Int)) := by unfold oneV; rw [List.getElem?_eq_getElem h.lt]
  have hbv : byteV (.str s) (.int .i64 (k : Int)) = some (pU (s[k]'h.lt)) := byteV_at (List.getElem?_eq_getElem h.lt)
  unfold restP
  obtain c5 | c5 := (Bool.eq_false_or_eq_true (decide (w.kind = 5))).symm <;> simp only [c5, EVS]
  ·obtain c4 | c4 := (Bool.eq_false_or_eq_true (decide (w.kind = 4))).symm <;> simp only [c4, joinK_eq, hbv, hone, EVS]
   have h2 := h.two (of_decide_eq_true c4)
   have hpins := h.pins
   revert h2 hpins
   rcases w.ins with _ | ⟨p, _ | ⟨q, _ | ⟨r, t⟩⟩⟩
   ·intro h2; simp at h2
   ·intro h2; simp at h2
   ·intro _ hpins
    have i0 : idxV (.lst ([p, q].map ePin)) (.int .i64 0) = some (ePin p) := rfl
    have i1 : idxV (.lst ([p, q].map ePin)) (.int .i64 1) = some (ePin q) := rfl
    have hp := hpins p (by simp)
    have hq := hpins q (by simp)
    have g1 := p_r_l19Pin p s hp.1 hp.2
    have g2 := p_r_l19Pin q s hq.1 hq.2
    simp only [ePin] at g1 g2
    simp only [i0, i1, ePin, g1, g2, EVS]
    cases pinV p s <;> cases pinV q s <;> simp [bne, hbv, b_eql]
   ·intro h2; simp at h2
  ·have hc := p_r_l13In w.cover (s.take n.signals.length) h.wire.cover (fun c hc => ⟨h.wire.cubes c hc, by have := h.cubes (of_decide_eq_true c5) c hc; have := h.sig; simp; omega⟩)
   simp only [cutS_take0 s _ h.sig, hc, EVS]
 ·simp only [nextP, EVS]
theorem p_i_nextWire (n : PNet) (s : List UInt8) (k : Nat) (w : PWire) (h : At n s k w) : s_i_nextWire [eNet n, .str s, pI k] = some (pB (nextP n s k w)) := by
 have hi : idxV (.lst (n.wires.map eWire)) (.int .i64 (k : Int)) = some (eWire w) := idx_map h.here
 have g2 := p_g_slices_ContainsFunc_Pin__i_nextWire_1 w.ins s h.wire.ins h.pins
 have g3 := p_g_slices_ContainsFunc_Pin__i_nextWire_2 w.ins s h.wire.ins h.pins
 have hone : oneV s k = decide ((s[k]'h.lt).toNat = (49 : Int)) := by unfold oneV; rw [List.getElem?_eq_getElem h.lt]
 have hbv : byteV (.str s) (.int .i64 (k : Int)) = some (pU (s[k]'h.lt)) := byteV_at (List.getElem?_eq_getElem h.lt)
 show (fun x0 x1 x2 => s_i_nextWire [x0, x1, x2]) _ _ _ = _
 rw [sh_i_nextWire]
 simp only [eNet, hi, eWire, EVS]
 unfold nextP
 obtain c2 | c2 := (Bool.eq_false_or_eq_true (decide (w.kind = 2))).symm <;> simp only [c2, lt_tup, List.drop_zero, g2, Bool.not_not, EVS]
 obtain c3 | c3 := (Bool.eq_false_or_eq_true (decide (w.kind = 3))).symm <;> simp only [c3, lt_tup, List.drop_zero, g3, Bool.not_not, EVS]
 unfold restP
 obtain c4 | c4 := (Bool.eq_false_or_eq_true (decide (w.kind = 4))).symm <;> simp only [c4, joinK_eq, EVS]
 ·obtain c5 | c5 := (Bool.eq_false_or_eq_true (decide (w.kind = 5))).symm <;> simp only [c5, hbv, hone, EVS]
  have hc := p_i_covers w.cover (s.take n.signals.length) h.wire.cover (fun c hc => ⟨h.wire.cubes c hc, by have := h.cubes (of_decide_eq_true c5) c hc; have := h.sig; simp; omega⟩)
  simp only [cutS_take0 s _ h.sig, hc, EVS]
 ·have c5 : decide (w.kind = 5) = false := by have := of_decide_eq_true c4; simp; omega
  have h2 := h.two (of_decide_eq_true c4)
  have hpins := h.pins
  simp only [c5, hone, EVS]
  revert h2 hpins
  rcases w.ins with _ | ⟨p, _ | ⟨q, _ | ⟨r, t⟩⟩⟩
  ·intro h2; simp at h2
  ·intro h2; simp at h2
  ·intro _ hpins
   have i0 : idxV (.lst ([p, q].map ePin)) (.int .i64 0) = some (ePin p) := rfl
   have i1 : idxV (.lst ([p, q].map ePin)) (.int .i64 1) = some (ePin q) := rfl
   have hp := hpins p (by simp)
   have hq := hpins q (by simp)
   have g1 := p_i_pinValue p s hp.1 hp.2
   have g2 := p_i_pinValue q s hq.1 hq.2
   simp only [ePin] at g1 g2
   simp only [i0, i1, ePin, g1, g2, EVS]
   cases pinV p s <;> cases pinV q s <;> simp [bne, hbv, b_eql, sc_bool]
  ·intro h2; simp at h2
theorem allK_at {α : Type} (q : Nat → α → Bool) : ∀ (l : List α) (j : Nat), allK q j l = true → ∀ (i : Nat) (x : α), l[i]? = some x → q (j + i) x = true
 | [], j, _, i, x, hx => by simp at hx
 | y :: r, j, h, i, x, hx => by
  unfold allK at h
  rw [Bool.and_eq_true] at h
  cases i with
  | zero => simp at hx; subst hx; simpa using h.1
  | succ i =>
   have := allK_at q r (j + 1) h.2 i x (by simpa using hx)
   rw [show j + (i + 1) = j + 1 + i by omega]
   exact this
theorem allK_mem {α : Type} (q : α → Bool) {l : List α} (h : allK (fun _ x => q x) 0 l = true) {x : α} (hx : x ∈ l) : q x = true := by
 rw [allK_all] at h
 exact List.all_eq_true.1 h x hx
def bitU (u : Bool) : UInt8 := if u = true then 49 else 48
theorem bitB_bitU (u : Bool) : bitB (bitU u) = true := by cases u <;> decide
theorem p_r_l5Bit (u : Bool) : s_r_l5Bit [pB u] = some (.str [bitU u]) := by
 show (fun x0 => s_r_l5Bit [x0]) _ = _
 rw [sh_r_l5Bit]
 cases u <;> simp only [EVS] <;> rfl
theorem p_i_bit (u : Bool) : s_i_bit [pB u] = some (pU (bitU u)) := by
 show (fun x0 => s_i_bit [x0]) _ = _
 rw [sh_i_bit]
 cases u <;> simp only [EVS] <;> rfl
theorem set_cut {α : Type} (c : List α) (i : Nat) (b : α) (h : i < c.length) : c.take i ++ [b] ++ c.drop (i + 1) = c.set i b := by
 rw [List.set_eq_take_append_cons_drop, if_pos h, List.append_assoc]
 rfl
theorem p_r_l5Set (c : List UInt8) (i : Nat) (b : UInt8) (h : i < c.length) (hc : Fits c) : s_r_l5Set [.str c, pI i, .str [b]] = some (.str (c.set i b)) := by
 unfold Fits at hc
 have h1 : cutS (.str c) none (some (.int .i64 (i : Int))) = some (.str (c.take i)) := cutS_take (by omega)
 have h2 : cutS (.str c) (some (.int .i64 ((i + 1 : Nat) : Int))) none = some (.str (c.drop (i + 1))) := cutS_drop (by omega)
 show (fun x0 x1 x2 => s_r_l5Set [x0, x1, x2]) _ _ _ = _
 rw [sh_r_l5Set]
 have h3 : binV .add TD.str (.str (c.take i)) (.str [b]) = some (.str (c.take i ++ [b])) := bs_add (by simp; omega)
 have h4 : binV .add TD.str (.str (c.take i ++ [b])) (.str (c.drop (i + 1))) = some (.str (c.take i ++ [b] ++ c.drop (i + 1))) := bs_add (by simp; omega)
 simp only [h1, next_w h hc, h2, h3, h4, set_cut c i b h, EVS]
theorem bitsP_iff {s : List UInt8} {n : Nat} : bitsP s n = true ↔ (∀ b ∈ s, bitB b = true) ∧ s.length = n := by
 unfold bitsP
 rw [allK_all, Bool.and_eq_true, List.all_eq_true, decide_eq_true_eq]
 constructor
 ·rintro ⟨h1, h2⟩; exact ⟨h1, by omega⟩
 ·rintro ⟨h1, h2⟩; exact ⟨h1, by omega⟩
theorem bits_set {v : List UInt8} {N k : Nat} (h : bitsP v N = true) (u : Bool) : bitsP (v.set k (bitU u)) N = true := by
 rw [bitsP_iff] at h ⊢
 refine ⟨fun b hb => ?_, by simpa using h.2⟩
 rcases List.mem_or_eq_of_mem_set hb with hb | rfl
 ·exact h.1 b hb
 ·exact bitB_bitU u
theorem bits_pad {c : List UInt8} {m N : Nat} (h : bitsP c m = true) (hm : m ≤ N) : bitsP (c ++ List.replicate (N - m) 48) N = true := by
 rw [bitsP_iff] at h ⊢
 refine ⟨fun b hb => ?_, by simp [h.2]; omega⟩
 rcases List.mem_append.1 hb with hb | hb
 ·exact h.1 b hb
 ·obtain ⟨_, rfl⟩ := List.mem_replicate.1 hb; decide
theorem bitB_iff (b : UInt8) : bitB b = true ↔ b = 48 ∨ b = 49 := by
 unfold bitB
 rw [Bool.or_eq_true, decide_eq_true_eq, decide_eq_true_eq]
 have h48 : (48 : UInt8).toNat = 48 := rfl
 have h49 : (49 : UInt8).toNat = 49 := rfl
 constructor
 ·rintro (h | h)
  ·exact .inl (UInt8.toNat_inj.1 (by omega))
  ·exact .inr (UInt8.toNat_inj.1 (by omega))
 ·rintro (rfl | rfl)
  ·exact .inl rfl
  ·exact .inr rfl
theorem at_of (n : PNet) (s : List UInt8) (k : Nat) (hn : n.Fit) (hs : Fits s) (hv : valuesP n s = true) (hk : k < n.wires.length) : At n s k n.wires[k] := by
 unfold valuesP netP bitsP at hv
 simp only [Bool.and_eq_true, decide_eq_true_eq, Bool.not_eq_true', decide_eq_false_iff_not] at hv
 obtain ⟨⟨⟨h1, h2, h3⟩, h4⟩, h5, h6⟩ := hv
 have hx : n.wires[k]? = some n.wires[k] := List.getElem?_eq_getElem hk
 have hw := allK_at _ _ _ h4 k _ hx
 rw [Nat.zero_add] at hw
 unfold netWireOk wireP pinsP at hw
 simp only [Bool.and_eq_true] at hw
 obtain ⟨⟨⟨⟨hkd, _⟩, hcov⟩, _, hpins, hform⟩, _⟩ := hw
 refine ⟨hn, hx, hn.wire _ (List.getElem_mem hk), hs, by omega, by omega, fun p hp => ?_, fun hk5 c hc => ?_, fun hk4 => ?_⟩
 ·have := allK_mem (fun p => pinOk n k p) hpins hp
  unfold pinOk inR at this
  simp only [Bool.and_eq_true, decide_eq_true_eq] at this
  omega
 ·rw [if_pos (by simp [hk5])] at hcov
  unfold goodP coverGo at hcov
  simp only [Bool.and_eq_true] at hcov
  have := allK_mem (fun c => cubeP c && decide ((c.length : Int) = n.signals.length)) hcov.1 hc
  simp only [Bool.and_eq_true, decide_eq_true_eq] at this
  omega
 ·unfold pinForm at hform
  rw [if_neg (by simp [hk4]), if_pos (by simp [hk4])] at hform
  simp only [decide_eq_true_eq] at hform
  omega
theorem convB_s (s : List UInt8) (h : s.length ≤ 9223372036854775807) : convB (.str s) = some (.lst (s.map pU)) := by
 unfold convB
 simp only
 rw [if_pos h]
theorem set_map {α : Type} (f : α → PV) (l : List α) (i : Nat) (x : α) : (l.map f).set i (f x) = (l.set i x).map f := by rw [List.map_set]
structure PArc where
 from_ : Int
 sig : Int
 up : Bool
 to_ : Int
structure PSG where
 signals : List (List UInt8 × Int)
 codes : List (List UInt8)
 arcs : List PArc
def eArc (a : PArc) : PV := .agg [pI a.from_, pI a.sig, pB a.up, pI a.to_]
def eSG (c : PSG) : PV := .agg [.lst (c.signals.map eSig), .lst (c.codes.map PV.str), .lst (c.arcs.map eArc)]
structure SGFit (c : PSG) : Prop where
 sigs : Fits c.signals
 names : ∀ s ∈ c.signals, Fits s.1
 codes : Fits c.codes
 each : ∀ x ∈ c.codes, Fits x
 arcs : Fits c.arcs
def edgeP (n : Int) (sig : Int) (up : Bool) : Bool := inR sig 0 (n - 1) || (decide (sig = -1) && !up)
theorem q_r_l2Label (sig : Int) (up : Bool) (n : Nat) (hn : n ≤ 9223372036854775807) : s_r_l2Label [.agg [pI sig, pB up], pI n] = some (pB (edgeP n sig up)) := by
 have g := p_r_l1In sig 0 ((n : Int) - 1)
 have gi : inR sig 0 ((n : Int) - 1) = (decide ((0 : Int) ≤ sig) && decide (sig ≤ (n : Int) - 1)) := rfl
 rw [← gi] at g
 have hw : IntKind.i64.wrap ((n : Int) - 1) = (n : Int) - 1 := wrap_of (by omega) (by omega)
 show (fun x0 x1 => s_r_l2Label [x0, x1]) _ _ = _
 rw [sh_r_l2Label]
 unfold edgeP
 simp only [hw, g, EVS]
 cases inR sig 0 ((n : Int) - 1) <;> simp only [EVS]
 rw [show Int.negSucc 0 = (-1 : Int) from rfl]
 cases decide (sig = -1) <;> simp only [EVS]
theorem q_i_isEdge (sig : Int) (up : Bool) (n : Nat) (hn : n ≤ 9223372036854775807) : s_i_isEdge [.agg [pI sig, pB up], pI n] = some (pB (edgeP n sig up)) := by
 have g := p_i_within sig 0 ((n : Int) - 1)
 have hw : IntKind.i64.wrap ((n : Int) - 1) = (n : Int) - 1 := wrap_of (by omega) (by omega)
 have he : eqV (some [(0, TD.int IntKind.i64), (1, TD.bool)]) TD.struct (.agg [pI sig, pB up]) (.agg [pI (-1), pB false]) = some (decide (sig = -1) && !up) := by
  rw [eqPin]; cases up <;> rfl
 show (fun x0 x1 => s_i_isEdge [x0, x1]) _ _ = _
 rw [sh_i_isEdge]
 unfold edgeP
 simp only [hw, g, EVS]
 cases inR sig 0 ((n : Int) - 1) <;> simp only [EVS]
 rw [show Int.negSucc 0 = (-1 : Int) from rfl]
 have hsp : splice [ZC.pv (.int .i64), ZC.pv .bool] 0 [pI (-1)] = [pI (-1), pB false] := rfl
 simp only [hsp, he, EVS]
def codeFit (sig : Int) (up : Bool) (x y : List UInt8) : Bool :=
 if decide (sig < 0) = true then decide (x = y) else decide (x = y.set sig.toNat (bitU (!up))) && decide (y = x.set sig.toNat (bitU up))
def fitAt (sig : Int) (up : Bool) (y : List UInt8) (k : Nat) (b : UInt8) : Bool :=
 if decide ((k : Int) = sig) = true then !(decide ((b.toNat : Int) = 49) == up) && decide (((y.getD k 0).toNat : Int) = 49) == up else decide ((b.toNat : Int) = (y.getD k 0).toNat)
theorem beq_ff : (false == false) = true := rfl
theorem beq_ft : (false == true) = false := rfl
theorem beq_tf : (true == false) = false := rfl
theorem beq_tt : (true == true) = true := rfl
theorem bbn (a b : Bool) : binV .neq TD.bool (.bool a) (.bool b) = some (.bool (!(a == b))) := rfl
theorem p_i_fitsCodes (a : PArc) (x y : List UInt8) (hx : Fits x) (hl : y.length = x.length) : s_i_fitsCodes [eArc a, .str x, .str y] = some (pB (allK (fitAt a.sig a.up y) 0 x)) := by
 unfold Fits at hx
 show (fun x0 x1 x2 => s_i_fitsCodes [x0, x1, x2]) _ _ _ = _
 rw [sh_i_fitsCodes]
 simp only [eArc, EVS]
 refine (congrArg (fun m : Option PV => m.bind fun r => if r.sc = true then some r else none) (rangeAll (R := PV) x (fitAt a.sig a.up y) (some (pB false)) (some (pB true)) _ hx (fun again k b hb => ?_) (fun again => ?_))).trans ?_
 ·have hk := lt_of_some hb
  have hy : y[k]? = some (y.getD k 0) := by rw [List.getD_eq_getElem?_getD, List.getElem?_eq_getElem (by omega)]; rfl
  have b1 := byteV_at (k := .i64) hb
  have b2 := byteV_at (k := .i64) hy
  unfold fitAt
  simp only [lt_d hk, next_w hk hx, b1, b2, EVS]
  cases c1 : decide ((k : Int) = a.sig)
  ·simp only [c1, lt_d hk, next_w hk hx, b1, b2, EVS]
   cases decide ((b.toNat : Int) = (y.getD k 0).toNat) <;> simp only [EVS]
  ·simp only [c1, lt_d hk, next_w hk hx, b1, b2, EVS]
   cases decide ((b.toNat : Int) = 49) <;> cases c3 : decide (((y.getD k 0).toNat : Int) = 49) <;> cases a.up <;> first | rfl | (simp only [beq_ff, beq_ft, beq_tf, beq_tt, b1, b2, EVS]; done) | (simp only [beq_ff, beq_ft, beq_tf, beq_tt, b1, b2, EVS]; rfl) | (simp only [beq_ff, beq_ft, beq_tf, beq_tt, bbn, b1, b2, c3, EVS]; done)
 ·simp only [ge_d, EVS]
 ·cases allK (fitAt a.sig a.up y) 0 x <;> simp only [EVS] <;> rfl
theorem allK_iff {α : Type} (q : Nat → α → Bool) : ∀ (l : List α) (j : Nat), allK q j l = true ↔ ∀ (i : Nat) (x : α), l[i]? = some x → q (j + i) x = true
 | [], j => by simp [allK]
 | y :: r, j => by
  refine ⟨fun h => allK_at q (y :: r) j h, fun h => ?_⟩
  unfold allK
  rw [Bool.and_eq_true]
  refine ⟨by simpa using h 0 y rfl, (allK_iff q r (j + 1)).2 fun i x hx => ?_⟩
  have := h (i + 1) x (by simpa using hx)
  rw [show j + (i + 1) = j + 1 + i by omega] at this
  exact this
theorem bit_nat {b : UInt8} (h : bitB b = true) : b = bitU (decide ((b.toNat : Int) = 49)) := by
 unfold bitB at h
 simp only [Bool.or_eq_true, decide_eq_true_eq, Bool.and_eq_true, Bool.not_eq_true', decide_eq_false_iff_not] at h
 by_cases c : (b.toNat : Int) = 49
 ·simp only [c, decide_true]
  apply UInt8.toNat_inj.1
  show b.toNat = 49
  omega
 ·simp only [c, decide_false]
  apply UInt8.toNat_inj.1
  show b.toNat = 48
  omega
theorem bits_at {x : List UInt8} {n : Int} (h : bitsP x n = true) {i : Nat} {b : UInt8} (hi : x[i]? = some b) : bitB b = true := by
 unfold bitsP at h
 rw [Bool.and_eq_true] at h
 exact allK_mem bitB h.1 (List.mem_of_getElem? hi)
theorem bits_len {x : List UInt8} {n : Nat} (h : bitsP x n = true) : x.length = n := by
 unfold bitsP at h
 rw [Bool.and_eq_true, decide_eq_true_eq] at h
 omega
theorem u8_int {a b : UInt8} : (a.toNat : Int) = b.toNat ↔ a = b := by
 rw [Int.ofNat_inj, UInt8.toNat_inj]
theorem fits_eq (sig : Int) (up : Bool) (x y : List UInt8) (n : Nat) (hx : bitsP x n = true) (hy : bitsP y n = true) (he : edgeP n sig up = true) : allK (fitAt sig up y) 0 x = codeFit sig up x y := by
 have lx := bits_len hx
 have ly := bits_len hy
 rw [Bool.eq_iff_iff, allK_iff]
 unfold edgeP inR at he
 simp only [Bool.or_eq_true, Bool.and_eq_true, decide_eq_true_eq, Bool.not_eq_true'] at he
 have gy : ∀ i b, x[i]? = some b → y[i]? = some (y.getD i 0) := fun i b hb => by
  have := (List.getElem?_eq_some_iff.1 hb).1
  rw [List.getD_eq_getElem?_getD, List.getElem?_eq_getElem (by omega)]; rfl
 unfold codeFit
 by_cases c : sig < 0
 ·simp only [c, decide_true, if_true, decide_eq_true_eq]
  constructor
  ·intro h
   apply List.ext_getElem (by omega)
   intro i h1 h2
   have := h i x[i] (List.getElem?_eq_getElem h1)
   unfold fitAt at this
   have d : decide (((0 + i : Nat) : Int) = sig) = false := by simp only [decide_eq_false_iff_not]; omega
   rw [d] at this
   simp only [Nat.zero_add, Bool.false_eq_true, if_false, decide_eq_true_eq, u8_int] at this
   rw [this, List.getD_eq_getElem?_getD, List.getElem?_eq_getElem h2]; rfl
  ·rintro rfl i b hb
   unfold fitAt
   have d : decide (((0 + i : Nat) : Int) = sig) = false := by simp only [decide_eq_false_iff_not]; omega
   rw [d]
   simp only [Nat.zero_add, Bool.false_eq_true, if_false, decide_eq_true_eq, u8_int]
   rw [List.getD_eq_getElem?_getD, hb]; rfl
 ·obtain ⟨s, rfl⟩ := Int.eq_ofNat_of_zero_le (show 0 ≤ sig by omega)
  have hs : s < n := by omega
  simp only [c, decide_false, Bool.false_eq_true, if_false, Bool.and_eq_true, decide_eq_true_eq, Int.toNat_natCast]
  have hxs : x[s]? = some (x[s]'(by omega)) := List.getElem?_eq_getElem _
  have hys : y[s]? = some (y[s]'(by omega)) := List.getElem?_eq_getElem _
  have gs : y.getD s 0 = y[s]'(by omega) := by rw [List.getD_eq_getElem?_getD, hys]; rfl
  constructor
  ·intro h
   have h0 := h s _ hxs
   unfold fitAt at h0
   simp only [Nat.zero_add, decide_true, if_true, gs] at h0
   have bx := bit_nat (bits_at hx hxs)
   have by_ := bit_nat (bits_at hy hys)
   have ho : ∀ i (h1 : i < x.length) (h2 : i < y.length), i ≠ s → x[i] = y[i] := fun i h1 h2 hn => by
    have := h i x[i] (List.getElem?_eq_getElem h1)
    unfold fitAt at this
    have d : decide (((0 + i : Nat) : Int) = (s : Int)) = false := by simp only [decide_eq_false_iff_not]; omega
    rw [d] at this
    simp only [Nat.zero_add, Bool.false_eq_true, if_false, decide_eq_true_eq, u8_int] at this
    rw [this, List.getD_eq_getElem?_getD, List.getElem?_eq_getElem h2]; rfl
   generalize decide (((x[s]'(by omega)).toNat : Int) = 49) = p at h0 bx
   generalize decide (((y[s]'(by omega)).toNat : Int) = 49) = q at h0 by_
   have hp : p = !up := by revert h0; cases p <;> cases q <;> cases up <;> decide
   have hq : q = up := by revert h0; cases p <;> cases q <;> cases up <;> decide
   refine ⟨List.ext_getElem (by simp; omega) fun i h1 h2 => ?_, List.ext_getElem (by simp; omega) fun i h1 h2 => ?_⟩
   ·rw [List.getElem_set]
    split
    ·rename_i e; subst e; rw [bx, hp]
    ·rename_i e; exact ho i h1 (by simpa using h2) (Ne.symm e)
   ·rw [List.getElem_set]
    split
    ·rename_i e; subst e; rw [by_, hq]
    ·rename_i e; exact (ho i (by simpa using h2) h1 (Ne.symm e)).symm
  ·rintro ⟨e1, e2⟩ i b hb
   unfold fitAt
   have hi := (List.getElem?_eq_some_iff.1 hb).1
   by_cases cs : i = s
   ·subst cs
    simp only [Nat.zero_add, decide_true, if_true, gs]
    have hbx : x[i]? = some (bitU (!up)) := by rw [e1, List.getElem?_set]; simp; omega
    have hby : y[i]? = some (bitU up) := by rw [e2, List.getElem?_set]; simp; omega
    rw [hb] at hbx
    rw [hys] at hby
    rw [Option.some.inj hbx, Option.some.inj hby]
    cases up <;> decide
   ·have d : decide (((0 + i : Nat) : Int) = (s : Int)) = false := by simp only [decide_eq_false_iff_not]; omega
    rw [d]
    simp only [Nat.zero_add, Bool.false_eq_true, if_false, decide_eq_true_eq, u8_int]
    have : y[i]? = x[i]? := by
     conv => lhs; rw [e2]
     rw [List.getElem?_set, if_neg (Ne.symm cs)]
    rw [List.getD_eq_getElem?_getD, this, hb]; rfl
theorem mk_lab (s u : PV) : splice (splice [ZC.pv (.int .i64), ZC.pv .bool] 0 [s]) 1 [u] = [s, u] := rfl
def arcGood (n : Nat) (last : Int) (a : PArc) : Bool := (inR a.from_ 0 last && inR a.to_ 0 last) && edgeP n a.sig a.up
def arcP (c : PSG) (a : PArc) : Bool := arcGood c.signals.length ((c.codes.length : Int) - 1) a && codeFit a.sig a.up (c.codes.getD a.from_.toNat []) (c.codes.getD a.to_.toNat [])
structure CodesP (c : PSG) : Prop where
 one : 1 ≤ c.codes.length
 many : c.codes.length ≤ 300
 bits : ∀ x ∈ c.codes, bitsP x c.signals.length = true
 arcs : c.arcs.length ≤ 4000
theorem arcGood_at {c : PSG} {a : PArc} (h : arcGood c.signals.length ((c.codes.length : Int) - 1) a = true) : ∃ f t x y, a.from_ = ((f : Nat) : Int) ∧ a.to_ = ((t : Nat) : Int) ∧ f < c.codes.length ∧ t < c.codes.length ∧ c.codes[f]? = some x ∧ c.codes[t]? = some y ∧ edgeP c.signals.length a.sig a.up = true := by
 unfold arcGood inR at h
 simp only [Bool.and_eq_true, decide_eq_true_eq] at h
 obtain ⟨⟨⟨h1, h2⟩, h3, h4⟩, h5⟩ := h
 obtain ⟨f, hf⟩ := Int.eq_ofNat_of_zero_le h1
 obtain ⟨t, ht⟩ := Int.eq_ofNat_of_zero_le h3
 have l1 : f < c.codes.length := by omega
 have l2 : t < c.codes.length := by omega
 exact ⟨f, t, _, _, hf, ht, l1, l2, List.getElem?_eq_getElem l1, List.getElem?_eq_getElem l2, h5⟩
theorem p_r_l5Arc (c : PSG) (a : PArc) (hc : SGFit c) (hp : CodesP c) : s_r_l5Arc [eSG c, eArc a] = some (pB (arcP c a)) := by
 have hsl := hc.sigs
 unfold Fits at hsl
 have hm := hp.many
 have g1 := p_r_l1In a.from_ 0 ((c.codes.length : Int) - 1)
 have g2 := p_r_l1In a.to_ 0 ((c.codes.length : Int) - 1)
 have gi : ∀ z : Int, inR z 0 ((c.codes.length : Int) - 1) = (decide ((0 : Int) ≤ z) && decide (z ≤ (c.codes.length : Int) - 1)) := fun _ => rfl
 rw [← gi] at g1 g2
 have g3 := q_r_l2Label a.sig a.up c.signals.length hsl
 have hw : IntKind.i64.wrap ((c.codes.length : Int) - 1) = (c.codes.length : Int) - 1 := wrap_of (by omega) (by omega)
 show (fun x0 x1 => s_r_l5Arc [x0, x1]) _ _ = _
 rw [sh_r_l5Arc]
 unfold arcP
 cases hg : arcGood c.signals.length ((c.codes.length : Int) - 1) a
 ·unfold arcGood at hg
  cases c1 : inR a.from_ 0 ((c.codes.length : Int) - 1)
  ·simp only [eSG, eArc, List.length_map, hw, g1, c1, EVS]
  cases c2 : inR a.to_ 0 ((c.codes.length : Int) - 1)
  ·simp only [eSG, eArc, List.length_map, hw, g1, g2, c1, c2, EVS]
  cases c3 : edgeP c.signals.length a.sig a.up
  ·simp only [eSG, eArc, List.length_map, hw, g1, g2, g3, c1, c2, c3, mk_lab, EVS]
  ·rw [c1, c2, c3] at hg; cases hg
 ·obtain ⟨f, t, x, y, hf, ht, l1, l2, hx, hy, he⟩ := arcGood_at hg
  unfold arcGood at hg
  simp only [Bool.and_eq_true] at hg
  have bx := hp.bits x (List.mem_of_getElem? hx)
  have by_ := hp.bits y (List.mem_of_getElem? hy)
  have i1 : idxV (.lst (c.codes.map PV.str)) (.int .i64 (f : Int)) = some (.str x) := idx_map hx
  have i2 : idxV (.lst (c.codes.map PV.str)) (.int .i64 (t : Int)) = some (.str y) := idx_map hy
  have e1 : c.codes.getD f [] = x := by rw [List.getD_eq_getElem?_getD, hx]; rfl
  have e2 : c.codes.getD t [] = y := by rw [List.getD_eq_getElem?_getD, hy]; rfl
  have c1 := hg.1.1
  have c2 := hg.1.2
  simp only [hf] at g1 c1
  simp only [ht] at g2 c2
  rw [hf, ht, Int.toNat_natCast, Int.toNat_natCast, e1, e2]
  unfold codeFit
  have lx := bits_len bx
  have ly := bits_len by_
  by_cases cs : a.sig < 0
  ·have d : decide (a.sig < 0) = true := by simpa using cs
   simp only [eSG, eArc, hf, ht, List.length_map, hw, g1, g2, g3, c1, c2, he, mk_lab, i1, i2, d, EVS]
  ·have d : decide (a.sig < 0) = false := by simpa using cs
   obtain ⟨s, hs⟩ := Int.eq_ofNat_of_zero_le (show 0 ≤ a.sig by omega)
   have hsn : s < c.signals.length := by
    unfold edgeP inR at he
    simp only [Bool.or_eq_true, Bool.and_eq_true, decide_eq_true_eq] at he
    omega
   have s1 := p_r_l5Set y s (bitU (!a.up)) (by omega) (hc.each y (List.mem_of_getElem? hy))
   have s2 := p_r_l5Set x s (bitU a.up) (by omega) (hc.each x (List.mem_of_getElem? hx))
   have b1 := p_r_l5Bit (!a.up)
   have b2 := p_r_l5Bit a.up
   rw [hs] at d g3 he
   simp only [eSG, eArc, hf, ht, hs, List.length_map, hw, g1, g2, g3, c1, c2, he, mk_lab, i1, i2, d, s1, b1, Int.toNat_natCast, Bool.false_eq_true, if_false, EVS]
   cases c4 : decide (x = y.set s (bitU (!a.up)))
   ·simp only [EVS]
   ·simp only [s2, b2, EVS]
def esOf (c : PSG) : List (Nat × Nat) := c.arcs.map fun a => (a.from_.toNat, a.to_.toNat)
def arcsIn (n : Nat) (l : List PArc) : Prop := ∀ a ∈ l, inR a.from_ 0 ((n : Int) - 1) = true ∧ inR a.to_ 0 ((n : Int) - 1) = true
theorem arcsIn_at {n : Nat} {l : List PArc} (h : arcsIn n l) {a : PArc} (ha : a ∈ l) : ∃ f t : Nat, a.from_ = f ∧ a.to_ = t ∧ f < n ∧ t < n := by
 obtain ⟨h1, h2⟩ := h a ha
 unfold inR at h1 h2
 simp only [Bool.and_eq_true, decide_eq_true_eq] at h1 h2
 obtain ⟨f, hf⟩ := Int.eq_ofNat_of_zero_le h1.1
 obtain ⟨t, ht⟩ := Int.eq_ofNat_of_zero_le h2.1
 exact ⟨f, t, hf, ht, by omega, by omega⟩
theorem metPass_len : ∀ (r : List (Nat × Nat)) (m : List Bool), (metPass r m).length = m.length
 | [], _ => rfl
 | e :: r, m => by
  unfold metPass
  rw [metPass_len r]
  split <;> simp
theorem se_b (a b : Bool) : storeEl 0 1 [.bool a] (.bool a) (.bool b) = some (.bool b) := rfl
theorem pass_go {R : Type} (e : List Bool → Option R) : ∀ (l : List PArc) (k : Nat) (m : List Bool), foldGo (fun (m : List Bool) (_ : Nat) (a : PArc) => .inl (if m.getD a.from_.toNat false = true then m.set a.to_.toNat true else m)) e k m l = e (metPass (l.map fun a => (a.from_.toNat, a.to_.toNat)) m)
 | [], k, m => rfl
 | a :: l, k, m => pass_go e l (k + 1) _
theorem rounds_go {R : Type} (es : List (Nat × Nat)) (e : List Bool → Option R) : ∀ (l : List (List UInt8)) (k : Nat) (m : List Bool), foldGo (fun (m : List Bool) (_ : Nat) (_ : List UInt8) => .inl (metPass es m)) e k m l = e (metG es l.length m)
 | [], k, m => rfl
 | a :: l, k, m => rounds_go es e l (k + 1) _
theorem p_r_l5All (c : PSG) (hc : SGFit c) (hp : CodesP c) (ha : arcsIn c.codes.length c.arcs) : s_r_l5All [eSG c] = some (pB ((metN c.codes.length (esOf c) 0).all id)) := by
 have h1 := hp.one
 have h2 := hp.many
 have h3 := hp.arcs
 have hmk := mk_v (TI.mk 1 1 TD.bool [ZC.bool] [] false) c.codes.length (by omega)
 have hz : zeroPV (TI.mk 1 1 TD.bool [ZC.bool] [] false) = .bool false := rfl
 rw [hz] at hmk
 have hp0 : plcV (List.replicate c.codes.length (PV.bool false)) (.int .i64 ((0 : Nat) : Int)) = some (.int .i64 ((0 : Nat) : Int)) := plc_at (by simp; omega)
 have hg0 : (List.replicate c.codes.length (PV.bool false))[0]? = some (.bool false) := by rw [List.getElem?_replicate, if_pos (by omega)]
 have hs0 : (List.replicate c.codes.length (PV.bool false)).set 0 (.bool true) = ((List.replicate c.codes.length false).set 0 true).map PV.bool := by rw [← set_map, List.map_replicate]
 simp only [Int.natCast_zero] at hp0
 have ht0 : Int.toNat 0 = 0 := rfl
 show (fun x0 => s_r_l5All [x0]) _ = _
 rw [sh_r_l5All]
 simp only [eSG, List.length_map, hmk, hp0, ht0, hg0, se_b, hs0, EVS]
 obtain ⟨m0, hm0⟩ : ∃ m0, (List.replicate c.codes.length false).set 0 true = m0 := ⟨_, rfl⟩
 have hl0 : m0.length = c.codes.length := by rw [← hm0]; simp
 unfold metN
 rw [hm0]
 refine (congrArg (fun m : Option PV => m.bind fun r => if r.sc = true then some r else none) ((foldLoop (R := PV) c.codes (fun (m : List Bool) k => [.lst (m.map PV.bool), pI (Int.ofNat k)]) (fun _ m => m.length = c.codes.length) (fun (m : List Bool) _ _ => .inl (metPass (esOf c) m)) (fun m => some (pB (m.all id))) _ (by omega) (fun m k x m' hm hx he => ?_) (fun again m k x hm hx => ?_) (fun again m hm => ?_) hl0).trans (rounds_go _ _ _ _ _))).trans ?_
 ·cases he; rw [metPass_len]; exact hm
 ·have hk := lt_of_some hx
  simp only [lt_d hk, EVS]
  refine (foldLoop (R := PV) c.arcs (fun (m : List Bool) k => [.lst (m.map PV.bool), pI (Int.ofNat k)]) (fun _ m => m.length = c.codes.length) (fun (m : List Bool) _ a => .inl (if m.getD a.from_.toNat false = true then m.set a.to_.toNat true else m)) (fun m => again [.lst (m.map PV.bool), pI (Int.ofNat (k + 1))]) _ (by omega) (fun m j a m' hm ha' he => ?_) (fun again' m j a hm ha' => ?_) (fun again' m hm => ?_) hm).trans (pass_go _ _ _ _)
  ·cases he; split <;> simp [hm]
  ·have hj := lt_of_some ha'
   obtain ⟨f, t, hf, ht, l1, l2⟩ := arcsIn_at ha (List.mem_of_getElem? ha')
   have hi : idxV (.lst (c.arcs.map eArc)) (.int .i64 (j : Int)) = some (eArc a) := idx_map ha'
   have p1 : plcV (m.map PV.bool) (.int .i64 (f : Int)) = some (.int .i64 (f : Int)) := plc_at (by rw [List.length_map]; omega)
   have p2 : plcV (m.map PV.bool) (.int .i64 (t : Int)) = some (.int .i64 (t : Int)) := plc_at (by rw [List.length_map]; omega)
   have q1 : (m.map PV.bool)[f]? = some (.bool (m.getD f false)) := by rw [List.getElem?_map, List.getD_eq_getElem?_getD, List.getElem?_eq_getElem (by omega)]; rfl
   have q2 : (m.map PV.bool)[t]? = some (.bool (m.getD t false)) := by rw [List.getElem?_map, List.getD_eq_getElem?_getD, List.getElem?_eq_getElem (by omega)]; rfl
   have st : (m.map PV.bool).set t (.bool true) = (m.set t true).map PV.bool := set_map PV.bool m t true
   rw [hf, ht, Int.toNat_natCast, Int.toNat_natCast]
   cases hb : m.getD f false <;> simp only [lt_d hj, next_w hj (show c.arcs.length ≤ 9223372036854775807 by omega), hi, eArc, hf, ht, p1, p2, q1, q2, hb, se_b, st, Bool.false_eq_true, if_false, if_true, EVS]
  ·simp only [ge_d, next_w hk (show c.codes.length ≤ 9223372036854775807 by omega), EVS]
 ·simp only [ge_d, EVS]
  refine (rangeAll (R := PV) m (fun _ b => b) (some (pB false)) (some (pB true)) _ (by omega) (fun again k b hb => ?_) (fun again => ?_)).trans ?_
  ·have hk := lt_of_some hb
   have p1 : plcV (m.map PV.bool) (.int .i64 (k : Int)) = some (.int .i64 (k : Int)) := plc_at (by rw [List.length_map]; omega)
   have q1 : (m.map PV.bool)[k]? = some (.bool b) := by rw [List.getElem?_map, hb]; rfl
   cases b <;> simp only [List.length_map, lt_d hk, next_w hk (show m.length ≤ 9223372036854775807 by omega), p1, q1, Bool.false_eq_true, if_false, if_true, EVS]
  ·simp only [List.length_map, ge_d, EVS]
  ·rw [allK_all]
   show _ = some (pB (m.all fun b => b))
   cases m.all (fun b => b) <;> rfl
 ·simp only [EVS]
theorem p_i_distances (n s : Nat) (es : List (Nat × Nat)) (hn : n ≤ 1000) (hs : s < n) (hl : es.length ≤ 100000) (hes : ∀ e ∈ es, e.1 < n ∧ e.2 < n) : s_i_distances [pI (n : Int), .lst (es.map pSt), pI (s : Int)] = some (.lst ((distN n es s).map pI)) := by
 have hc : (0 : Int) ≤ (n : Int) ∧ (n : Int) ≤ 1000 ∧ (0 : Int) ≤ (s : Int) ∧ (s : Int) < (n : Int) ∧ es.length ≤ 100000 ∧ (es.all fun e => decide (e.1 < (n : Int).toNat ∧ e.2 < (n : Int).toNat)) = true := by
  refine ⟨by omega, by omega, by omega, by omega, hl, List.all_eq_true.2 fun e he => ?_⟩
  rw [Int.toNat_natCast]
  exact decide_eq_true (hes e he)
 show (match stsOf (es.map pSt) with
  | some es => if (0 : Int) ≤ (n : Int) ∧ (n : Int) ≤ 1000 ∧ (0 : Int) ≤ (s : Int) ∧ (s : Int) < (n : Int) ∧ es.length ≤ 100000 ∧ (es.all fun e => decide (e.1 < (n : Int).toNat ∧ e.2 < (n : Int).toNat)) = true then some (PV.lst ((distN (n : Int).toNat es (s : Int).toNat).map pI)) else none
  | none => none) = _
 rw [stsOf_map]
 show (if _ then _ else _) = _
 rw [if_pos hc, Int.toNat_natCast, Int.toNat_natCast]
def sgPre (c : PSG) : Bool := (sigsP c.signals && inR c.codes.length 1 300) && !decide ((4000 : Int) < c.arcs.length)
def sgBits (c : PSG) : Bool := c.codes.all fun x => bitsP x c.signals.length
def sgArcs (c : PSG) : Bool := c.arcs.all (arcP c)
def sgMet (c : PSG) : Bool := (metN c.codes.length (esOf c) 0).all id
def sgV (c : PSG) : Bool := (sgPre c && sgBits c) && (sgArcs c && sgMet c)
theorem sgPre_codes {c : PSG} (h1 : sgPre c = true) (h2 : sgBits c = true) : CodesP c := by
 unfold sgPre inR at h1
 simp only [Bool.and_eq_true, Bool.not_eq_true', decide_eq_true_eq, decide_eq_false_iff_not] at h1
 unfold sgBits at h2
 exact ⟨by omega, by omega, fun x hx => List.all_eq_true.1 h2 x hx, by omega⟩
theorem sgArcs_in {c : PSG} (h : sgArcs c = true) : arcsIn c.codes.length c.arcs := fun a ha => by
 have := List.all_eq_true.1 h a ha
 unfold arcP arcGood at this
 simp only [Bool.and_eq_true] at this
 exact this.1.1
theorem p_r_l5Good (c : PSG) (hc : SGFit c) : s_r_l5Good [eSG c] = some (pB (sgV c)) := by
 have hcl := hc.codes
 have hal := hc.arcs
 unfold Fits at hcl hal
 have g1 := p_r_l2Signals c.signals hc.sigs hc.names
 have g2 := p_r_l1In (c.codes.length : Int) 1 300
 have gi : inR (c.codes.length : Int) 1 300 = (decide ((1 : Int) ≤ c.codes.length) && decide ((c.codes.length : Int) ≤ 300)) := rfl
 rw [← gi] at g2
 show (fun x0 => s_r_l5Good [x0]) _ = _
 rw [sh_r_l5Good]
 unfold sgV
 cases hpre : sgPre c
 ·unfold sgPre at hpre
  cases c1 : sigsP c.signals
  ·simp only [eSG, List.length_map, g1, c1, EVS]
  cases c2 : inR (c.codes.length : Int) 1 300
  ·simp only [eSG, List.length_map, g1, g2, c1, c2, EVS]
  cases c3 : decide ((4000 : Int) < c.arcs.length)
  ·rw [c1, c2, c3] at hpre; cases hpre
  ·simp only [eSG, List.length_map, g1, g2, c1, c2, c3, EVS]
 have hpre' := hpre
 unfold sgPre at hpre'
 simp only [Bool.and_eq_true, Bool.not_eq_true'] at hpre'
 obtain ⟨⟨c1, c2⟩, c3⟩ := hpre'
 simp only [eSG, List.length_map, g1, g2, c1, c2, c3, EVS]
 refine (congrArg (fun m : Option PV => m.bind fun r => if r.sc = true then some r else none) (rangeAllT (R := PV) c.codes (fun _ x => bitsP x c.signals.length) (some (pB false)) (some (pB (sgArcs c && sgMet c))) _ hcl (fun again k x hx => ?_) (fun hall again => ?_))).trans ?_
 ·have hk := lt_of_some hx
  have hi : idxV (.lst (c.codes.map PV.str)) (.int .i64 (k : Int)) = some (.str x) := idx_map hx
  have g := p_r_l5Code x c.signals.length (hc.each x (List.mem_of_getElem? hx))
  cases cb : bitsP x c.signals.length <;> simp only [lt_d hk, next_w hk hcl, hi, g, cb, Bool.false_eq_true, if_false, if_true, EVS]
 ·rw [allK_all] at hall
  have hp := sgPre_codes hpre hall
  simp only [ge_d, EVS]
  refine (rangeAllT (R := PV) c.arcs (fun _ a => arcP c a) (some (pB false)) (some (pB (sgMet c))) _ hal (fun again k a hx => ?_) (fun hall' again => ?_)).trans ?_
  ·have hk := lt_of_some hx
   have hi : idxV (.lst (c.arcs.map eArc)) (.int .i64 (k : Int)) = some (eArc a) := idx_map hx
   have g := p_r_l5Arc c a hc hp
   simp only [eSG, eArc] at g
   cases cb : arcP c a <;> simp only [eArc, lt_d hk, next_w hk hal, hi, g, cb, pv_t3, pv_t4, Bool.false_eq_true, if_false, if_true, EVS]
  ·rw [allK_all] at hall'
   have g := p_r_l5All c hc hp (sgArcs_in hall')
   simp only [eSG] at g
   simp only [ge_d, pv_t3, g, EVS]
   rfl
  ·rw [allK_all]
   show _ = some (pB (c.arcs.all (arcP c) && sgMet c))
   cases c.arcs.all (arcP c) <;> rfl
 ·rw [allK_all]
  show _ = some (pB ((true && c.codes.all (fun x => bitsP x c.signals.length)) && (sgArcs c && sgMet c)))
  cases c.codes.all (fun x => bitsP x c.signals.length) <;> simp only [Bool.false_eq_true, if_false, if_true, EVS] <;> rfl
theorem p_g_slices_Index_int (l : List Int) (x : Int) (hl : Fits l) : s_g_slices_Index_int [.lst (l.map pI), pI x] = some (pI (ixf (fun a => decide (x = a)) 0 l)) := by
 show (fun x0 x1 => s_g_slices_Index_int [x0, x1]) _ _ = _
 rw [sh_g_slices_Index_int]
 unfold Fits at hl
 simp only [EVS]
 refine (congrArg (fun m : Option PV => m.bind fun r => if r.sc = true then some r else none) (rangeIx l (fun a => decide (x = a)) _ hl (fun again k a hb => ?_) (fun again => ?_))).trans ?_
 ·have hk := lt_of_some hb
  have hi : idxV (.lst (l.map pI)) (.int .i64 (k : Int)) = some (pI a) := idx_map hb
  simp only [lt_d hk, next_w hk hl, hi, EVS]
 ·simp only [ge_d, EVS]
  rfl
 ·simp only [EVS]
theorem p_g_slices_Contains_int (l : List Int) (x : Int) (hl : Fits l) : s_g_slices_Contains_int [.lst (l.map pI), pI x] = some (pB (!allK (fun _ a => !decide (x = a)) 0 l)) := by
 have g := p_g_slices_Index_int l x hl
 show (fun x0 x1 => s_g_slices_Contains_int [x0, x1]) _ _ = _
 rw [sh_g_slices_Contains_int]
 simp only [g, ixf_ge (fun a => decide (x = a)) l 0, EVS]
theorem fold_steps {R : Type} (e : List (Nat × Nat) → Option R) : ∀ (l : List PArc) (k : Nat) (acc : List (Nat × Nat)), foldGo (fun (acc : List (Nat × Nat)) (_ : Nat) (a : PArc) => .inl (acc ++ [(a.from_.toNat, a.to_.toNat)])) e k acc l = e (acc ++ l.map fun a => (a.from_.toNat, a.to_.toNat))
 | [], k, acc => by simp [foldGo]
 | a :: l, k, acc => by
  show foldGo _ e (k + 1) (acc ++ [(a.from_.toNat, a.to_.toNat)]) l = _
  rw [fold_steps e l]
  simp
theorem mk_step (a b : PV) : splice (splice [ZC.pv (.int .i64), ZC.pv (.int .i64)] 0 [a]) 1 [b] = [a, b] := rfl
theorem p_i_arcSteps (n : Nat) (l : List PArc) (ha : arcsIn n l) (hl : l.length ≤ 4000) : s_i_arcSteps [.lst (l.map eArc)] = some (.lst ((l.map fun a => (a.from_.toNat, a.to_.toNat)).map pSt)) := by
 show (fun x0 => s_i_arcSteps [x0]) _ = _
 rw [sh_i_arcSteps]
 simp only [List.length_map, EVS]
 refine (foldLoop (R := PV) l (fun (acc : List (Nat × Nat)) k => [.lst (acc.map pSt), pI (Int.ofNat k)]) (fun k acc => acc.length = k) (fun (acc : List (Nat × Nat)) _ a => .inl (acc ++ [(a.from_.toNat, a.to_.toNat)])) (fun acc => some (.lst (acc.map pSt))) _ (by omega) (fun acc k x acc' hi hx he => ?_) (fun again acc k a hi hx => ?_) (fun again acc hi => ?_) (b := []) rfl).trans ((fold_steps _ _ _ _).trans ?_)
 ·cases he; simp; omega
 ·have hk := lt_of_some hx
  obtain ⟨f, t, hf, ht, l1, l2⟩ := arcsIn_at ha (List.mem_of_getElem? hx)
  have hi' : idxV (.lst (l.map eArc)) (.int .i64 (k : Int)) = some (eArc a) := idx_map hx
  have hla : acc.length + [PV.agg [pI (f : Int), pI (t : Int)]].length ≤ 4294967296 ∧ [PV.agg [pI (f : Int), pI (t : Int)]].all (okEl 2) = true := ⟨by simp; omega, rfl⟩
  have hps : acc.map pSt ++ [PV.agg [pI (f : Int), pI (t : Int)]] = (acc ++ [(f, t)]).map pSt := by simp [pSt]
  simp only [lt_d hk, next_w hk (show l.length ≤ 9223372036854775807 by omega), hi', eArc, hf, ht, Int.toNat_natCast, mk_step, List.length_map, if_pos hla, hps, EVS]
 ·simp only [ge_d, EVS]
 ·rfl
theorem all_not_mem (x : Int) : ∀ (l : List Int) (k : Nat), allK (fun _ a => !decide (x = a)) k l = !decide (x ∈ l)
 | [], k => by simp [allK]
 | a :: l, k => by
  unfold allK
  rw [all_not_mem x l (k + 1), Bool.eq_iff_iff]
  simp only [Bool.and_eq_true, Bool.not_eq_true', decide_eq_false_iff_not, List.mem_cons, not_or]
theorem esOf_in {c : PSG} (h : arcsIn c.codes.length c.arcs) : ∀ e ∈ esOf c, e.1 < c.codes.length ∧ e.2 < c.codes.length := fun e he => by
 unfold esOf at he
 obtain ⟨a, ha, rfl⟩ := List.mem_map.1 he
 obtain ⟨f, t, hf, ht, l1, l2⟩ := arcsIn_at h ha
 simp only [hf, ht, Int.toNat_natCast]
 exact ⟨l1, l2⟩
theorem p_i_IsValidStateGraph (c : PSG) (hc : SGFit c) : s_i_IsValidStateGraph [eSG c] = some (pB (sgV c)) := by
 have hcl := hc.codes
 have hal := hc.arcs
 have hsl := hc.sigs
 unfold Fits at hcl hal hsl
 have g1 := p_i_areSignals c.signals hc.sigs hc.names
 rw [← sigs_eq] at g1
 have g2 := p_i_within (c.codes.length : Int) 1 300
 show (fun x0 => s_i_IsValidStateGraph [x0]) _ = _
 rw [sh_i_IsValidStateGraph]
 unfold sgV
 cases hpre : sgPre c
 ·unfold sgPre at hpre
  cases c1 : sigsP c.signals
  ·simp only [eSG, List.length_map, g1, c1, EVS]
  cases c2 : inR (c.codes.length : Int) 1 300
  ·simp only [eSG, List.length_map, g1, g2, c1, c2, EVS]
  cases c3 : decide ((4000 : Int) < c.arcs.length)
  ·rw [c1, c2, c3] at hpre; cases hpre
  ·simp only [eSG, List.length_map, g1, g2, c1, c2, c3, EVS]
 have hpre' := hpre
 unfold sgPre at hpre'
 simp only [Bool.and_eq_true, Bool.not_eq_true'] at hpre'
 obtain ⟨⟨c1, c2⟩, c3⟩ := hpre'
 have hw : IntKind.i64.wrap ((c.codes.length : Int) - 1) = (c.codes.length : Int) - 1 := wrap_of (by omega) (by omega)
 simp only [eSG, List.length_map, g1, g2, c1, c2, c3, hw, EVS]
 refine (congrArg (fun m : Option PV => m.bind fun r => if r.sc = true then some r else none) (rangeAllT (R := PV) c.codes (fun _ x => bitsP x c.signals.length) (some (pB false)) (some (pB (sgArcs c && sgMet c))) _ hcl (fun again k x hx => ?_) (fun hall again => ?_))).trans ?_
 ·have hk := lt_of_some hx
  have hi : idxV (.lst (c.codes.map PV.str)) (.int .i64 (k : Int)) = some (.str x) := idx_map hx
  have g := p_i_isBits x c.signals.length (hc.each x (List.mem_of_getElem? hx))
  cases cb : bitsP x c.signals.length <;> simp only [lt_d hk, next_w hk hcl, hi, g, cb, Bool.false_eq_true, if_false, if_true, EVS]
 ·rw [allK_all] at hall
  have hp := sgPre_codes hpre hall
  simp only [ge_d, EVS]
  refine (rangeAllT (R := PV) c.arcs (fun _ a => arcP c a) (some (pB false)) (some (pB (sgMet c))) _ hal (fun again k a hx => ?_) (fun hall' again => ?_)).trans ?_
  ·have hk := lt_of_some hx
   have hi : idxV (.lst (c.arcs.map eArc)) (.int .i64 (k : Int)) = some (eArc a) := idx_map hx
   have g3 := p_i_within a.from_ 0 ((c.codes.length : Int) - 1)
   have g4 := p_i_within a.to_ 0 ((c.codes.length : Int) - 1)
   have g5 := q_i_isEdge a.sig a.up c.signals.length hsl
   unfold arcP
   cases hg : arcGood c.signals.length ((c.codes.length : Int) - 1) a
   ·unfold arcGood at hg
    cases d1 : inR a.from_ 0 ((c.codes.length : Int) - 1)
    ·simp only [eArc, lt_d hk, next_w hk hal, hi, List.length_map, g3, d1, Bool.false_eq_true, if_false, if_true, EVS]
    cases d2 : inR a.to_ 0 ((c.codes.length : Int) - 1)
    ·simp only [eArc, lt_d hk, next_w hk hal, hi, List.length_map, g3, g4, d1, d2, Bool.false_eq_true, if_false, if_true, EVS]
    cases d3 : edgeP c.signals.length a.sig a.up
    ·simp only [eArc, lt_d hk, next_w hk hal, hi, List.length_map, g3, g4, g5, d1, d2, d3, mk_lab, Bool.false_eq_true, if_false, if_true, EVS]
    ·rw [d1, d2, d3] at hg; cases hg
   ·obtain ⟨f, t, x, y, hf, ht, l1, l2, hx', hy', he⟩ := arcGood_at hg
    unfold arcGood at hg
    simp only [Bool.and_eq_true] at hg
    have bx := hp.bits x (List.mem_of_getElem? hx')
    have by_ := hp.bits y (List.mem_of_getElem? hy')
    have i1 : idxV (.lst (c.codes.map PV.str)) (.int .i64 (f : Int)) = some (.str x) := idx_map hx'
    have i2 : idxV (.lst (c.codes.map PV.str)) (.int .i64 (t : Int)) = some (.str y) := idx_map hy'
    have e1 : c.codes.getD f [] = x := by rw [List.getD_eq_getElem?_getD, hx']; rfl
    have e2 : c.codes.getD t [] = y := by rw [List.getD_eq_getElem?_getD, hy']; rfl
    have d1 := hg.1.1
    have d2 := hg.1.2
    have lx := bits_len bx
    have ly := bits_len by_
    have g6 := p_i_fitsCodes a x y (hc.each x (List.mem_of_getElem? hx')) (by omega)
    rw [fits_eq a.sig a.up x y _ bx by_ he] at g6
    simp only [eArc, hf, ht] at g3 g4 g6 d1 d2
    rw [hf, ht, Int.toNat_natCast, Int.toNat_natCast, e1, e2]
    cases d4 : codeFit a.sig a.up x y <;> simp only [eArc, hf, ht, lt_d hk, next_w hk hal, hi, List.length_map, g3, g4, g5, g6, d1, d2, he, d4, i1, i2, mk_lab, pv_t4, Bool.false_eq_true, if_false, if_true, EVS]
  ·rw [allK_all] at hall'
   have hin := sgArcs_in hall'
   have g7 := p_i_arcSteps c.codes.length c.arcs hin hp.arcs
   have g8 := p_i_distances c.codes.length 0 (esOf c) (by have := hp.many; omega) hp.one (by have := hp.arcs; unfold esOf; rw [List.length_map]; omega) (esOf_in hin)
   have hd := distN_is hp.one (esOf_in hin)
   have g9 := p_g_slices_Contains_int (distN c.codes.length (esOf c) 0) (-1) (by unfold Fits; rw [hd.len]; omega)
   have hme : sgMet c = !decide ((-1 : Int) ∈ distN c.codes.length (esOf c) 0) := metN_all hp.one (esOf_in hin)
   rw [all_not_mem] at g9
   unfold esOf at g8
   simp only [ge_d, List.length_map, g7, EVS]
   rw [show (Int.negSucc 0) = (-1 : Int) from rfl]
   simp only [Int.natCast_zero] at g8
   simp only [g8, EVS]
   unfold esOf at g9 hme
   simp only [g9, hme, Bool.not_not, EVS]
  ·rw [allK_all]
   show _ = some (pB (c.arcs.all (arcP c) && sgMet c))
   cases c.arcs.all (arcP c) <;> rfl
 ·rw [allK_all]
  show _ = some (pB ((true && c.codes.all (fun x => bitsP x c.signals.length)) && (sgArcs c && sgMet c)))
  cases c.codes.all (fun x => bitsP x c.signals.length) <;> simp only [Bool.false_eq_true, if_false, if_true, EVS] <;> rfl
theorem foldFrom {R α β : Type} (l : List α) (J : β → Nat → List PV) (Inv : Nat → β → Prop) (step : β → Nat → α → Sum β (Option R)) (e : β → Option R) (f : (List PV → Option R) → List PV → Option R) (hl : l.length ≤ 9223372036854775807)
 (hs : ∀ b k x b', Inv k b → l[k]? = some x → step b k x = .inl b' → Inv (k + 1) b')
 (h1 : ∀ again b k x, Inv k b → l[k]? = some x → f again (J b k) = match step b k x with | .inl b' => again (J b' (k + 1)) | .inr z => z)
 (h2 : ∀ again b, Inv l.length b → f again (J b l.length) = e b) {b : β} {k : Nat} (hk : k ≤ l.length) (hb : Inv k b) : loopR f 18446744073709551616 (J b k) = foldGo step e k b (l.drop k) := by
 have key := loopR_go (R := R) (fun q : {q : β × Nat // Inv q.2 q.1 ∧ q.2 ≤ l.length} => J q.1.1 q.1.2) (fun q => l.length + 1 - q.1.2) (fun q => foldGo step e q.1.2 q.1.1 (l.drop q.1.2)) f (fun again q ih => ?_) 18446744073709551616 ⟨(b, k), hb, hk⟩ (by simp only; omega)
 ·exact key
 ·obtain ⟨⟨b, k⟩, hi, hk⟩ := q
  dsimp only at ih hi hk ⊢
  by_cases hlt : k < l.length
  ·have hx : l[k]? = some l[k] := List.getElem?_eq_getElem hlt
   rw [h1 again b k _ hi hx, List.drop_eq_getElem_cons hlt]
   unfold foldGo
   cases hst : step b k l[k] with
   | inl b' => exact ih ⟨(b', k + 1), hs _ _ _ _ hi hx hst, hlt⟩ (by simp only; omega)
   | inr z => rfl
  ·obtain rfl : k = l.length := by omega
   rw [h2 again b hi, List.drop_length]
   rfl
theorem capsA0 : capsOf 0 (.tup []) = some [] := by simp [capsOf, PV.parts]
theorem p_i_AreCompatible_1 (a : PArc) : s_i_AreCompatible_1 [eArc a] = some (pB (decide (a.sig = -1))) := by
 show (fun x0 => s_i_AreCompatible_1 [x0]) _ = _
 rw [sh_i_AreCompatible_1]
 simp only [eArc, EVS]
 rfl
theorem p_g_slices_IndexFunc_Arc__i_AreCompatible_1 (l : List PArc) (hl : Fits l) : s_g_slices_IndexFunc_Arc__i_AreCompatible_1 [.lst (l.map eArc), .tup []] = some (pI (ixf (fun a => decide (a.sig = -1)) 0 l)) := by
 show (fun x0 x1 => s_g_slices_IndexFunc_Arc__i_AreCompatible_1 [x0, x1]) _ _ = _
 rw [sh_g_slices_IndexFunc_Arc__i_AreCompatible_1]
 unfold Fits at hl
 simp only [EVS]
 refine (congrArg (fun m : Option PV => m.bind fun r => if r.sc = true then some r else none) (rangeIx l (fun a => decide (a.sig = -1)) _ hl (fun again k a hb => ?_) (fun again => ?_))).trans ?_
 ·have hk := lt_of_some hb
  have hi : idxV (.lst (l.map eArc)) (.int .i64 (k : Int)) = some (eArc a) := idx_map hb
  have g := p_i_AreCompatible_1 a
  simp only [eArc] at g
  cases hc : decide (a.sig = -1) <;> simp only [lt_d hk, next_w hk hl, hi, eArc, g, hc, capsA0, List.append_nil, List.cons_append, List.nil_append, Bool.false_eq_true, if_false, if_true, EVS]
 ·simp only [ge_d, EVS]
  rfl
 ·simp only [EVS]
def hidArcs (l : List PArc) : Bool := l.any fun a => decide (a.sig = -1)
theorem p_g_slices_ContainsFunc_Arc__i_AreCompatible_1 (l : List PArc) (hl : Fits l) : s_g_slices_ContainsFunc_Arc__i_AreCompatible_1 [.lst (l.map eArc), .tup []] = some (pB (hidArcs l)) := by
 have g := p_g_slices_IndexFunc_Arc__i_AreCompatible_1 l hl
 show (fun x0 x1 => s_g_slices_ContainsFunc_Arc__i_AreCompatible_1 [x0, x1]) _ _ = _
 rw [sh_g_slices_ContainsFunc_Arc__i_AreCompatible_1]
 simp only [g, ixf_ge (fun a : PArc => decide (a.sig = -1)) l 0, EVS]
 rw [allK_all, List.all_eq_not_any_not]
 simp only [Bool.not_not]
 rfl
theorem p_r_l6Hidden (c : PSG) (hl : Fits c.arcs) : s_r_l6Hidden [eSG c] = some (pB (c.arcs.any fun a => decide (a.sig < 0))) := by
 unfold Fits at hl
 show (fun x0 => s_r_l6Hidden [x0]) _ = _
 rw [sh_r_l6Hidden]
 simp only [eSG, EVS]
 refine (congrArg (fun m : Option PV => m.bind fun r => if r.sc = true then some r else none) (rangeAll (R := PV) c.arcs (fun _ a => !decide (a.sig < 0)) (some (pB true)) (some (pB false)) _ hl (fun again k a hx => ?_) (fun again => ?_))).trans ?_
 ·have hk := lt_of_some hx
  have hi : idxV (.lst (c.arcs.map eArc)) (.int .i64 (k : Int)) = some (eArc a) := idx_map hx
  cases hc : decide (a.sig < 0) <;> simp only [List.length_map, lt_d hk, next_w hk hl, hi, eArc, hc, Bool.not_true, Bool.not_false, Bool.false_eq_true, if_false, if_true, EVS]
 ·simp only [List.length_map, ge_d, EVS]
 ·rw [allK_all, List.any_eq_not_all_not]
  cases c.arcs.all (fun a => !decide (a.sig < 0)) <;> simp only [Bool.not_true, Bool.not_false, Bool.false_eq_true, if_false, if_true, EVS]
theorem hidArcs_eq {c : PSG} (h : sgArcs c = true) : (c.arcs.any fun a => decide (a.sig < 0)) = hidArcs c.arcs := by
 unfold hidArcs
 rw [Bool.eq_iff_iff, List.any_eq_true, List.any_eq_true]
 constructor
 ·rintro ⟨a, ha, h1⟩
  refine ⟨a, ha, ?_⟩
  have := List.all_eq_true.1 h a ha
  unfold arcP arcGood edgeP inR at this
  simp only [Bool.and_eq_true, Bool.or_eq_true, decide_eq_true_eq] at this h1 ⊢
  omega
 ·rintro ⟨a, ha, h1⟩
  refine ⟨a, ha, ?_⟩
  simp only [decide_eq_true_eq] at h1 ⊢
  omega
theorem eqSigV (x y : List UInt8 × Int) : eqV (some [(0, TD.str), (1, TD.int IntKind.i64)]) TD.struct (.agg [.str x.1, pI x.2]) (.agg [.str y.1, pI y.2]) = some (decide (x = y)) := by
 have e : decide (x = y) = ((x.1 == y.1) && ((x.2 == y.2) && true)) := by
  rw [Bool.eq_iff_iff]
  simp only [decide_eq_true_eq, Bool.and_eq_true, Prod.ext_iff, beq_iff_eq, and_true]
 rw [e]
 show (some (x.1 == y.1)).bind (fun b => (some ((x.2 == y.2) && true)).map fun c => b && c) = _
 rfl
def sameAt (l : List (List UInt8 × Int)) (k : Nat) (x : List UInt8 × Int) : Bool := match l[k]? with | some y => decide (x = y) | none => false
theorem same_eq (l m : List (List UInt8 × Int)) (h : l.length = m.length) : allK (sameAt m) 0 l = decide (l = m) := by
 rw [Bool.eq_iff_iff, allK_iff, decide_eq_true_eq]
 constructor
 ·intro hx
  apply List.ext_getElem h
  intro i h1 h2
  have := hx i l[i] (List.getElem?_eq_getElem h1)
  unfold sameAt at this
  rw [Nat.zero_add, List.getElem?_eq_getElem h2] at this
  simpa using this
 ·rintro rfl i x hi
  unfold sameAt
  rw [Nat.zero_add, hi]
  simp
theorem p_g_slices_Equal_Signal (l m : List (List UInt8 × Int)) (hl : Fits l) : s_g_slices_Equal_Signal [.lst (l.map eSig), .lst (m.map eSig)] = some (pB (decide (l = m))) := by
 unfold Fits at hl
 show (fun x0 x1 => s_g_slices_Equal_Signal [x0, x1]) _ _ = _
 rw [sh_g_slices_Equal_Signal]
 by_cases hlen : l.length = m.length
 ·have d : decide ((l.length : Int) = (m.length : Int)) = true := by rw [decide_eq_true_eq]; omega
  simp only [List.length_map, d, EVS]
  refine (congrArg (fun m : Option PV => m.bind fun r => if r.sc = true then some r else none) (rangeAll (R := PV) l (sameAt m) (some (pB false)) (some (pB true)) _ hl (fun again k x hx => ?_) (fun again => ?_))).trans ?_
  ·have hk := lt_of_some hx
   have hy : m[k]? = some (m[k]'(by omega)) := List.getElem?_eq_getElem _
   have hi : idxV (.lst (l.map eSig)) (.int .i64 (k : Int)) = some (eSig x) := idx_map hx
   have hj : idxV (.lst (m.map eSig)) (.int .i64 (k : Int)) = some (eSig (m[k]'(by omega))) := idx_map hy
   have hs : sameAt m k x = decide (x = m[k]'(by omega)) := by unfold sameAt; rw [hy]
   have he := eqSigV x (m[k]'(by omega))
   rw [hs]
   cases hc : decide (x = m[k]'(by omega)) <;> simp only [List.length_map, lt_d hk, next_w hk hl, hi, hj, eSig, pv_t2, he, hc, Bool.not_true, Bool.not_false, Bool.false_eq_true, if_false, if_true, EVS]
  ·simp only [List.length_map, ge_d, EVS]
  ·rw [same_eq l m hlen]
   cases decide (l = m) <;> simp only [Bool.false_eq_true, if_false, if_true, EVS]
 ·have d : decide ((l.length : Int) = (m.length : Int)) = false := by simp only [decide_eq_false_iff_not]; omega
  have hne : decide (l = m) = false := by simp only [decide_eq_false_iff_not]; rintro rfl; exact hlen rfl
  simp only [List.length_map, d, hne, EVS]
theorem p_r_l2SameSignals (l m : List (List UInt8 × Int)) (hl : Fits l) : s_r_l2SameSignals [.lst (l.map eSig), .lst (m.map eSig)] = some (pB (decide (l = m))) := by
 unfold Fits at hl
 show (fun x0 x1 => s_r_l2SameSignals [x0, x1]) _ _ = _
 rw [sh_r_l2SameSignals]
 by_cases hlen : l.length = m.length
 ·have d : decide ((l.length : Int) = (m.length : Int)) = true := by rw [decide_eq_true_eq]; omega
  simp only [List.length_map, d, EVS]
  refine (congrArg (fun m : Option PV => m.bind fun r => if r.sc = true then some r else none) (rangeAll (R := PV) l (sameAt m) (some (pB false)) (some (pB true)) _ hl (fun again k x hx => ?_) (fun again => ?_))).trans ?_
  ·have hk := lt_of_some hx
   have hy : m[k]? = some (m[k]'(by omega)) := List.getElem?_eq_getElem _
   have hi : idxV (.lst (l.map eSig)) (.int .i64 (k : Int)) = some (eSig x) := idx_map hx
   have hj : idxV (.lst (m.map eSig)) (.int .i64 (k : Int)) = some (eSig (m[k]'(by omega))) := idx_map hy
   have hs : sameAt m k x = decide (x = m[k]'(by omega)) := by unfold sameAt; rw [hy]
   have he := eqSigV x (m[k]'(by omega))
   rw [hs]
   cases hc : decide (x = m[k]'(by omega)) <;> simp only [List.length_map, lt_d hk, next_w hk hl, hi, hj, eSig, pv_t2, he, hc, Bool.not_true, Bool.not_false, Bool.false_eq_true, if_false, if_true, EVS]
  ·simp only [List.length_map, ge_d, EVS]
  ·rw [same_eq l m hlen]
   cases decide (l = m) <;> simp only [Bool.false_eq_true, if_false, if_true, EVS]
 ·have d : decide ((l.length : Int) = (m.length : Int)) = false := by simp only [decide_eq_false_iff_not]; omega
  have hne : decide (l = m) = false := by simp only [decide_eq_false_iff_not]; rintro rfl; exact hlen rfl
  simp only [List.length_map, d, hne, EVS]
def wayI (a b : PArc) : Bool := (((!decide (a.sig = -1)) && decide (b.from_ = a.from_)) && decide (b.sig = a.sig)) && !decide (b.to_ = a.to_)
def wayR (a b : PArc) : Bool := ((decide (a.from_ = b.from_) && decide (a.sig = b.sig)) && decide (0 ≤ a.sig)) && !decide (a.to_ = b.to_)
def wE (p : Nat × Nat) : PV := .lst [pI p.1, pI p.2]
def pairsG (w : PArc → PArc → Bool) (i : Nat) (a : PArc) : Nat → List (Nat × Nat) → List PArc → List (Nat × Nat)
 | _, acc, [] => acc
 | k, acc, b :: l => pairsG w i a (k + 1) (if w a b = true then acc ++ [(i, k)] else acc) l
def pairsO (w : PArc → PArc → Bool) (arcs : List PArc) : Nat → List (Nat × Nat) → List PArc → List (Nat × Nat)
 | _, acc, [] => acc
 | i, acc, a :: l => pairsO w arcs (i + 1) (pairsG w i a (i + 1) acc (arcs.drop (i + 1))) l
theorem fold_pairsG {R : Type} (w : PArc → PArc → Bool) (i : Nat) (a : PArc) (e : List (Nat × Nat) → Option R) : ∀ (l : List PArc) (k : Nat) (acc : List (Nat × Nat)), foldGo (fun (acc : List (Nat × Nat)) k b => .inl (if w a b = true then acc ++ [(i, k)] else acc)) e k acc l = e (pairsG w i a k acc l)
 | [], k, acc => rfl
 | b :: l, k, acc => by unfold foldGo pairsG; exact fold_pairsG w i a e l (k + 1) _
theorem fold_pairsO {R : Type} (w : PArc → PArc → Bool) (arcs : List PArc) (e : List (Nat × Nat) → Option R) : ∀ (l : List PArc) (k : Nat) (acc : List (Nat × Nat)), foldGo (fun (acc : List (Nat × Nat)) i a => .inl (pairsG w i a (i + 1) acc (arcs.drop (i + 1)))) e k acc l = e (pairsO w arcs k acc l)
 | [], k, acc => rfl
 | b :: l, k, acc => by unfold foldGo pairsO; exact fold_pairsO w arcs e l (k + 1) _
theorem pairsG_len (w : PArc → PArc → Bool) (i : Nat) (a : PArc) : ∀ (l : List PArc) (k : Nat) (acc : List (Nat × Nat)), (pairsG w i a k acc l).length ≤ acc.length + l.length
 | [], k, acc => by simp [pairsG]
 | b :: l, k, acc => by
  have := pairsG_len w i a l (k + 1) (if w a b = true then acc ++ [(i, k)] else acc)
  unfold pairsG
  split at this <;> rename_i h
  ·rw [if_pos h]; simp at this ⊢; omega
  ·rw [if_neg h]; simp at this ⊢; omega
theorem pairsG_congr {w w' : PArc → PArc → Bool} (i : Nat) (a : PArc) : ∀ (l : List PArc) (k : Nat) (acc : List (Nat × Nat)), (∀ b ∈ l, w a b = w' a b) → pairsG w i a k acc l = pairsG w' i a k acc l
 | [], k, acc, h => rfl
 | b :: l, k, acc, h => by unfold pairsG; rw [h b List.mem_cons_self]; exact pairsG_congr i a l _ _ fun b hb => h b (List.mem_cons_of_mem _ hb)
theorem pairsO_congr {w w' : PArc → PArc → Bool} (arcs : List PArc) : ∀ (l : List PArc) (k : Nat) (acc : List (Nat × Nat)), (∀ a ∈ l, ∀ b ∈ arcs, w a b = w' a b) → pairsO w arcs k acc l = pairsO w' arcs k acc l
 | [], k, acc, h => rfl
 | a :: l, k, acc, h => by
  unfold pairsO
  rw [pairsG_congr k a _ _ _ fun b hb => h a List.mem_cons_self b (List.mem_of_mem_drop hb)]
  exact pairsO_congr arcs l _ _ fun a ha => h a (List.mem_cons_of_mem _ ha)
def waysOf (w : PArc → PArc → Bool) (c : PSG) : List (Nat × Nat) := pairsO w c.arcs 0 [] c.arcs
theorem ways_eq {c : PSG} (h : sgArcs c = true) : waysOf wayR c = waysOf wayI c := pairsO_congr _ _ _ _ fun a ha b hb => by
 have := List.all_eq_true.1 h a ha
 unfold arcP arcGood edgeP inR at this
 simp only [Bool.and_eq_true, Bool.or_eq_true, decide_eq_true_eq] at this
 have h1 : a.sig = -1 ∨ 0 ≤ a.sig := by omega
 unfold wayR wayI
 rw [Bool.eq_iff_iff]
 simp only [Bool.and_eq_true, Bool.not_eq_true', decide_eq_true_eq, decide_eq_false_iff_not]
 omega
theorem p_i_twoWays (c : PSG) (hl : c.arcs.length ≤ 4000) : s_i_twoWays [eSG c] = some (.lst ((waysOf wayI c).map wE)) := by
 show (fun x0 => s_i_twoWays [x0]) _ = _
 rw [sh_i_twoWays]
 simp only [eSG, EVS]
 refine (foldLoop (R := PV) c.arcs (fun (acc : List (Nat × Nat)) i => [.lst (acc.map wE), pI (Int.ofNat i)]) (fun i acc => acc.length ≤ i * 4000) (fun acc i a => .inl (pairsG wayI i a (i + 1) acc (c.arcs.drop (i + 1)))) (fun acc => some (.lst (acc.map wE))) _ (by omega) (fun acc i a acc' hi hx he => ?_) (fun again acc i a hi hx => ?_) (fun again acc hi => ?_) (b := []) (by simp)).trans (fold_pairsO _ _ _ _ _ _)
 ·cases he
  have := pairsG_len wayI i a (c.arcs.drop (i + 1)) (i + 1) acc
  simp at this
  omega
 ·have hk := lt_of_some hx
  have hi' : idxV (.lst (c.arcs.map eArc)) (.int .i64 (i : Int)) = some (eArc a) := idx_map hx
  have hnx := next_w hk (show c.arcs.length ≤ 9223372036854775807 by omega)
  simp only [List.length_map, lt_d hk, hnx, hi', eArc, EVS]
  refine (foldFrom (R := PV) c.arcs (fun (acc : List (Nat × Nat)) k => [.lst (acc.map wE), pI (Int.ofNat k)]) (fun k acc => acc.length ≤ i * 4000 + k) (fun acc k b => .inl (if wayI a b = true then acc ++ [(i, k)] else acc)) (fun acc => again [.lst (acc.map wE), pI (Int.ofNat (i + 1))]) _ (by omega) (fun acc k b acc' hi hx he => ?_) (fun again' acc k b hi2 hx2 => ?_) (fun again' acc hi => ?_) (b := acc) (k := i + 1) (show i + 1 ≤ c.arcs.length from hk) (show acc.length ≤ i * 4000 + (i + 1) from Nat.le_trans hi (Nat.le_add_right _ _))).trans (fold_pairsG _ _ _ _ _ _ _)
  ·cases he
   show (if wayI a b = true then acc ++ [(i, k)] else acc).length ≤ i * 4000 + (k + 1)
   have hi : acc.length ≤ i * 4000 + k := hi
   cases wayI a b
   ·rw [if_neg (by decide)]; omega
   ·rw [if_pos rfl, List.length_append, List.length_singleton]; omega
  ·have hk2 := lt_of_some hx2
   have hj : idxV (.lst (c.arcs.map eArc)) (.int .i64 (k : Int)) = some (eArc b) := idx_map hx2
   have hla : acc.length + [PV.lst [pI (i : Int), pI (k : Int)]].length ≤ 4294967296 ∧ [PV.lst [pI (i : Int), pI (k : Int)]].all (okEl 1) = true := ⟨by simp; omega, rfl⟩
   have hps : acc.map wE ++ [PV.lst [pI (i : Int), pI (k : Int)]] = (acc ++ [(i, k)]).map wE := by simp [wE]
   unfold wayI
   simp only [List.length_map, lt_d hk2, next_w hk2 (show c.arcs.length ≤ 9223372036854775807 by omega), hj, eArc, EVS]
   rw [show Int.negSucc 0 = (-1 : Int) from rfl]
   have hok : ([PV.lst [pI (i : Int), pI (k : Int)]].all fun x => okEl 1 x) = true := rfl
   cases c1 : decide (a.sig = -1) <;> cases c2 : decide (b.from_ = a.from_) <;> cases c3 : decide (b.sig = a.sig) <;> cases c4 : decide (b.to_ = a.to_) <;> simp only [c1, c2, c3, c4, if_pos hla, hps, if_pos hok, EVS]
  ·simp only [List.length_map, ge_d, hnx, EVS]
 ·simp only [List.length_map, ge_d, EVS]
theorem p_r_l6Ways (c : PSG) (hl : c.arcs.length ≤ 4000) : s_r_l6Ways [eSG c] = some (.lst ((waysOf wayR c).map wE)) := by
 show (fun x0 => s_r_l6Ways [x0]) _ = _
 rw [sh_r_l6Ways]
 simp only [eSG, EVS]
 refine (foldLoop (R := PV) c.arcs (fun (acc : List (Nat × Nat)) i => [.lst (acc.map wE), pI (Int.ofNat i)]) (fun i acc => acc.length ≤ i * 4000) (fun acc i a => .inl (pairsG wayR i a (i + 1) acc (c.arcs.drop (i + 1)))) (fun acc => some (.lst (acc.map wE))) _ (by omega) (fun acc i a acc' hi hx he => ?_) (fun again acc i a hi hx => ?_) (fun again acc hi => ?_) (b := []) (by simp)).trans (fold_pairsO _ _ _ _ _ _)
 ·cases he
  have := pairsG_len wayR i a (c.arcs.drop (i + 1)) (i + 1) acc
  simp at this
  omega
 ·have hk := lt_of_some hx
  have hi' : idxV (.lst (c.arcs.map eArc)) (.int .i64 (i : Int)) = some (eArc a) := idx_map hx
  have hnx := next_w hk (show c.arcs.length ≤ 9223372036854775807 by omega)
  simp only [List.length_map, lt_d hk, hnx, hi', eArc, EVS]
  refine (foldFrom (R := PV) c.arcs (fun (acc : List (Nat × Nat)) k => [.lst (acc.map wE), pI (Int.ofNat k)]) (fun k acc => acc.length ≤ i * 4000 + k) (fun acc k b => .inl (if wayR a b = true then acc ++ [(i, k)] else acc)) (fun acc => again [.lst (acc.map wE), pI (Int.ofNat (i + 1))]) _ (by omega) (fun acc k b acc' hi hx he => ?_) (fun again' acc k b hi2 hx2 => ?_) (fun again' acc hi => ?_) (b := acc) (k := i + 1) (show i + 1 ≤ c.arcs.length from hk) (show acc.length ≤ i * 4000 + (i + 1) from Nat.le_trans hi (Nat.le_add_right _ _))).trans (fold_pairsG _ _ _ _ _ _ _)
  ·cases he
   show (if wayR a b = true then acc ++ [(i, k)] else acc).length ≤ i * 4000 + (k + 1)
   have hi : acc.length ≤ i * 4000 + k := hi
   cases wayR a b
   ·rw [if_neg (by decide)]; omega
   ·rw [if_pos rfl, List.length_append, List.length_singleton]; omega
  ·have hk2 := lt_of_some hx2
   have hj : idxV (.lst (c.arcs.map eArc)) (.int .i64 (k : Int)) = some (eArc b) := idx_map hx2
   have hla : acc.length + [PV.lst [pI (i : Int), pI (k : Int)]].length ≤ 4294967296 ∧ [PV.lst [pI (i : Int), pI (k : Int)]].all (okEl 1) = true := ⟨by simp; omega, rfl⟩
   have hps : acc.map wE ++ [PV.lst [pI (i : Int), pI (k : Int)]] = (acc ++ [(i, k)]).map wE := by simp [wE]
   unfold wayR
   simp only [List.length_map, lt_d hk2, next_w hk2 (show c.arcs.length ≤ 9223372036854775807 by omega), hj, eArc, EVS]
   have hok : ([PV.lst [pI (i : Int), pI (k : Int)]].all fun x => okEl 1 x) = true := rfl
   cases c1 : decide (a.from_ = b.from_) <;> cases c2 : decide (a.sig = b.sig) <;> cases c3 : decide (0 ≤ a.sig) <;> cases c4 : decide (a.to_ = b.to_) <;> simp only [c1, c2, c3, c4, if_pos hla, hps, if_pos hok, EVS]
  ·simp only [List.length_map, ge_d, hnx, EVS]
 ·simp only [List.length_map, ge_d, EVS]
theorem sgV_parts {c : PSG} (h : sgV c = true) : sgPre c = true ∧ sgBits c = true ∧ sgArcs c = true ∧ sgMet c = true := by
 unfold sgV at h
 simp only [Bool.and_eq_true] at h
 exact ⟨h.1.1, h.1.2, h.2.1, h.2.2⟩
theorem sgV_arcs {c : PSG} (h : sgV c = true) : c.arcs.length ≤ 4000 := by
 have := (sgV_parts h).1
 unfold sgPre at this
 simp only [Bool.and_eq_true, Bool.not_eq_true', decide_eq_false_iff_not] at this
 omega
def compP (c : PSG) (n : PNet) : Bool := ((!hidArcs c.arcs) && decide (((waysOf wayI c).length : Int) = 0)) && decide (c.signals = n.signals)
def goP (c : PSG) (n : PNet) : Bool := (sgV c && netP n) && compP c n
theorem p_r_l20Go (c : PSG) (n : PNet) (hc : SGFit c) (hn : n.Fit) : s_r_l20Go [eSG c, eNet n] = some (pB (goP c n)) := by
 have g1 := p_r_l5Good c hc
 have g2 := p_r_l19Good n hn
 show (fun x0 x1 => s_r_l20Go [x0, x1]) _ _ = _
 rw [sh_r_l20Go]
 unfold goP compP
 simp only [eSG, eNet] at g1 g2
 cases c1 : sgV c
 ·rw [c1] at g1; simp only [eSG, eNet, pv_t2, pv_t3, g1, EVS]
 cases c2 : netP n
 ·rw [c1] at g1; rw [c2] at g2; simp only [eSG, eNet, pv_t2, pv_t3, g1, g2, EVS]
 rw [c1] at g1; rw [c2] at g2
 have g3 := p_r_l6Hidden c hc.arcs
 rw [hidArcs_eq (sgV_parts c1).2.2.1] at g3
 have g4 := p_r_l6Ways c (sgV_arcs c1)
 rw [ways_eq (sgV_parts c1).2.2.1] at g4
 have g5 := p_r_l2SameSignals c.signals n.signals hc.sigs
 simp only [eSG] at g3 g4
 cases c3 : hidArcs c.arcs
 ·rw [c3] at g3
  cases c4 : decide (((waysOf wayI c).length : Int) = 0)
  ·simp only [eSG, eNet, pv_t2, pv_t3, g1, g2, g3, g4, c4, List.length_map, EVS]
  ·simp only [eSG, eNet, pv_t2, pv_t3, g1, g2, g3, g4, g5, c4, List.length_map, EVS]
 ·rw [c3] at g3; simp only [eSG, eNet, pv_t2, pv_t3, g1, g2, g3, EVS]
theorem at_i_AreCompatible (c : PSG) (n : PNet) (hc : SGFit c) (hn : n.Fit) : s_i_AreCompatible [eSG c, eNet n] = some (.tup [pB (goP c n), pB (sgV c && netP n)]) := by
 have g1 := p_i_IsValidStateGraph c hc
 have g2 := p_i_IsValidNetlist n hn
 rw [← net_eq] at g2
 have g3 := p_g_slices_ContainsFunc_Arc__i_AreCompatible_1 c.arcs hc.arcs
 have g5 := p_g_slices_Equal_Signal c.signals n.signals hc.sigs
 show (fun x0 x1 => s_i_AreCompatible [x0, x1]) _ _ = _
 rw [sh_i_AreCompatible]
 unfold goP compP
 simp only [eSG, eNet] at g1 g2
 cases c1 : sgV c
 ·rw [c1] at g1; simp only [eSG, eNet, pv_t2, pv_t3, g1, EVS]; rfl
 cases c2 : netP n
 ·rw [c1] at g1; rw [c2] at g2; simp only [eSG, eNet, pv_t2, pv_t3, g1, g2, EVS]; rfl
 rw [c1] at g1; rw [c2] at g2
 have g4 := p_i_twoWays c (sgV_arcs c1)
 simp only [eSG] at g4
 cases c3 : hidArcs c.arcs
 ·rw [c3] at g3
  cases c4 : decide (((waysOf wayI c).length : Int) = 0)
  ·simp only [eSG, eNet, pv_t2, pv_t3, g1, g2, g3, g4, c4, List.length_map, EVS]; rfl
  ·simp only [eSG, eNet, pv_t2, pv_t3, g1, g2, g3, g4, g5, c4, List.length_map, EVS]; rfl
 ·rw [c3] at g3; simp only [eSG, eNet, pv_t2, pv_t3, g1, g2, g3, EVS]; rfl
theorem gatherLoop {R : Type} (a b : Nat) (st : Nat → List PV) (e : Option R) (f : (List PV → Option R) → List PV → Option R) (hm : b ≤ 9223372036854775807)
 (h1 : ∀ again k, a ≤ k → k < b → f again (st k) = again (st (k + 1)))
 (h2 : ∀ again, f again (st b) = e) (hab : a ≤ b) (J : List PV) (hJ : st a = J) : loopR f 18446744073709551616 J = e := by
 subst hJ
 have key := loopR_go (R := R) (fun k : {k : Nat // a ≤ k ∧ k ≤ b} => st k.1) (fun k => b + 1 - k.1) (fun _ => e) f (fun again k ih => ?_) 18446744073709551616 ⟨a, Nat.le_refl _, hab⟩ (by simp only; omega)
 ·exact key
 ·obtain ⟨k, hk, hk2⟩ := k
  dsimp only at ih ⊢
  by_cases c : k < b
  ·rw [h1 again k hk c]
   exact ih ⟨k + 1, by omega, c⟩ (by simp only; omega)
  ·obtain rfl : k = b := by omega
   exact h2 again
def pickTo (good : Nat → Bool) (k : Nat) : List Int := ((List.range k).filter good).map fun (i : Nat) => Int.ofNat i
theorem pickTo_len (good : Nat → Bool) (k : Nat) : (pickTo good k).length ≤ k := by
 unfold pickTo
 rw [List.length_map]
 exact Nat.le_trans (List.length_filter_le _ _) (by simp)
theorem pickTo_yes {good : Nat → Bool} {k : Nat} (h : good k = true) : pickTo good (k + 1) = pickTo good k ++ [(k : Int)] := by
 unfold pickTo
 rw [List.range_succ, List.filter_append]
 simp [h]
theorem pickTo_no {good : Nat → Bool} {k : Nat} (h : good k = false) : pickTo good (k + 1) = pickTo good k := by
 unfold pickTo
 rw [List.range_succ, List.filter_append]
 simp [h]
def excitedAt (n : PNet) (s : List UInt8) (k : Nat) : Bool := match n.wires[k]? with | some w => nextP n s k w != oneV s k | none => false
theorem p_r_l19Excited (n : PNet) (s : List UInt8) (hn : n.Fit) (hs : Fits s) (hv : valuesP n s = true) (hb : n.wires.length ≤ 1048576) : s_r_l19Excited [eNet n, .str s] = some (.lst ((pickTo (excitedAt n s) n.wires.length).map pI)) := by
 show (fun x0 x1 => s_r_l19Excited [x0, x1]) _ _ = _
 rw [sh_r_l19Excited]
 simp only [eNet, EVS]
 refine (congrArg (fun m : Option PV => m) (gatherLoop (R := PV) 0 n.wires.length (fun k => [.lst ((pickTo (excitedAt n s) k).map pI), pI (Int.ofNat k)]) (some (.lst ((pickTo (excitedAt n s) n.wires.length).map pI))) _ (by omega) (fun again k h1 h2 => ?_) (fun again => ?_) (Nat.zero_le _) _ (by simp [pickTo]))).trans ?_
 ·have ha := at_of n s k hn hs hv h2
  have a1 := p_r_l19Next n s k _ ha
  simp only [eNet] at a1
  have hk : k < s.length := ha.lt
  have hby := byteV_at (k := .i64) (List.getElem?_eq_getElem hk)
  have ho : oneV s k = decide ((s[k].toNat : Int) = 49) := by unfold oneV; rw [List.getElem?_eq_getElem hk]
  have he : excitedAt n s k = (nextP n s k n.wires[k] != oneV s k) := by unfold excitedAt; rw [List.getElem?_eq_getElem h2]
  have hl : (pickTo (excitedAt n s) k).length + [pI (k : Int)].length ≤ 4294967296 ∧ [pI (k : Int)].all (okEl 1) = true := ⟨by have := pickTo_len (excitedAt n s) k; simp; omega, rfl⟩
  have he' : (!nextP n s k n.wires[k] == decide ((s[k].toNat : Int) = 49)) = excitedAt n s k := by rw [he, ho]; rfl
  have hm : n.wires.length ≤ 9223372036854775807 := by omega
  simp only [lt_d h2, hby, a1, he', EVS]
  cases hE : excitedAt n s k
  ·simp only [next_w h2 hm, pickTo_no hE, EVS]
  ·simp only [if_pos hl, next_w h2 hm, pickTo_yes hE, List.map_append, List.map_cons, List.map_nil, EVS]
 ·simp only [ge_d, EVS]
 ·rfl
theorem p_i_isExcitedWire (n : PNet) (s : List UInt8) (k : Nat) (hn : n.Fit) (hs : Fits s) (hv : valuesP n s = true) (h2 : k < n.wires.length) : s_i_isExcitedWire [eNet n, .str s, pI k] = some (pB (excitedAt n s k)) := by
 have ha := at_of n s k hn hs hv h2
 have a1 := p_i_nextWire n s k _ ha
 simp only [eNet] at a1
 have hk : k < s.length := ha.lt
 have hby := byteV_at (k := .i64) (List.getElem?_eq_getElem hk)
 have he : excitedAt n s k = (nextP n s k n.wires[k] != decide ((s[k].toNat : Int) = 49)) := by unfold excitedAt oneV; rw [List.getElem?_eq_getElem h2, List.getElem?_eq_getElem hk]
 have hbit : bitB s[k] = true := by
  unfold valuesP bitsP at hv
  simp only [Bool.and_eq_true] at hv
  exact allK_at _ _ _ hv.2.1 k _ (List.getElem?_eq_getElem hk)
 unfold bitB at hbit
 simp only [Bool.or_eq_true, decide_eq_true_eq] at hbit
 show (fun x0 x1 x2 => s_i_isExcitedWire [x0, x1, x2]) _ _ _ = _
 rw [sh_i_isExcitedWire]
 simp only [eNet, a1, hby, p_i_bit, he, EVS]
 cases nextP n s k n.wires[k] <;> rcases hbit with h | h <;> rw [h] <;> rfl
theorem p_i_excitedWires (n : PNet) (s : List UInt8) (hn : n.Fit) (hs : Fits s) (hv : valuesP n s = true) (hb : n.wires.length ≤ 1048576) : s_i_excitedWires [eNet n, .str s] = some (.lst ((pickTo (excitedAt n s) n.wires.length).map pI)) := by
 show (fun x0 x1 => s_i_excitedWires [x0, x1]) _ _ = _
 rw [sh_i_excitedWires]
 simp only [eNet, EVS]
 refine (congrArg (fun m : Option PV => m) (gatherLoop (R := PV) 0 n.wires.length (fun k => [.lst ((pickTo (excitedAt n s) k).map pI), pI (Int.ofNat k)]) (some (.lst ((pickTo (excitedAt n s) n.wires.length).map pI))) _ (by omega) (fun again k h1 h2 => ?_) (fun again => ?_) (Nat.zero_le _) _ (by simp [pickTo]))).trans ?_
 ·have a1 := p_i_isExcitedWire n s k hn hs hv h2
  simp only [eNet] at a1
  have hl : (pickTo (excitedAt n s) k).length + [pI (k : Int)].length ≤ 4294967296 ∧ [pI (k : Int)].all (okEl 1) = true := ⟨by have := pickTo_len (excitedAt n s) k; simp; omega, rfl⟩
  have hm : n.wires.length ≤ 9223372036854775807 := by omega
  simp only [lt_d h2, a1, EVS]
  cases hE : excitedAt n s k
  ·simp only [next_w h2 hm, pickTo_no hE, EVS]
  ·simp only [if_pos hl, next_w h2 hm, pickTo_yes hE, List.map_append, List.map_cons, List.map_nil, EVS]
 ·simp only [ge_d, EVS]
 ·rfl
def BdSignal (m : Nat) (a : List UInt8 × Int) : Prop := (a.1).length ≤ m
theorem sz_Signal (a : List UInt8 × Int) (l : Int) (hb : BdSignal 9223372036854775807 a) (h0 : 0 ≤ l) (h1 : l ≤ 1048576) : SzOk (s_w_szSignal [eSig a, pI l]) l (BdSignal 1048576 a) := by
 have b0 := hb
 unfold BdSignal at b0
 unfold BdSignal
 show SzOk ((fun x0 x1 => s_w_szSignal [x0, x1]) _ _) _ _
 rw [sh_w_szSignal]
 simp only [eSig, EVS]
 have w0 : IntKind.i64.wrap (l - (a.1.length : Int)) = (l - (a.1.length : Int)) := wrap_of (by omega) (by omega)
 simp only [w0, EVS]
 by_cases c0 : (l - (a.1.length : Int)) < 0
 ·simp only [c0, EVS]; exact SzOk.neg h0
 simp only [c0, EVS]
 have q0 : 0 ≤ (l - (a.1.length : Int)) ∧ (l - (a.1.length : Int)) ≤ l := by omega
 exact SzOk.pos (by omega) (by omega)
theorem to_Signal (a : List UInt8 × Int) (hb : BdSignal 1048576 a) : s_w_toSignal [eSig a] = some (eSig a) := by
 have b0 := hb
 unfold BdSignal at b0
 show (fun x0 => s_w_toSignal [x0]) _ = _
 rw [sh_w_toSignal]
 simp only [eSig, EVS]
theorem eq_Signal (a : List UInt8 × Int) (hb : BdSignal 9223372036854775807 a) : s_w_eqSignal [eSig a, eSig a] = some (pB true) := by
 have b0 := hb
 unfold BdSignal at b0
 show (fun x0 x1 => s_w_eqSignal [x0, x1]) _ _ = _
 rw [sh_w_eqSignal]
 simp only [eSig, beq_self_eq_true, EVS]
theorem sz_SignalS (xs : List (List UInt8 × Int)) (l : Int) (hb : ((xs).length ≤ 9223372036854775807 ∧ ∀ x ∈ xs, BdSignal 9223372036854775807 x)) (h0 : 0 ≤ l) (h1 : l ≤ 1048576) : SzOk (s_w_szSignalS [.lst (xs.map eSig), pI l]) l (((xs).length ≤ 1048576 ∧ ∀ x ∈ xs, BdSignal 1048576 x)) := by
 have hx : xs.length ≤ 9223372036854775807 := hb.1
 show SzOk ((fun x0 x1 => s_w_szSignalS [x0, x1]) _ _) _ _
 rw [sh_w_szSignalS]
 have w1 : IntKind.i64.wrap (l - (xs.length : Int)) = l - (xs.length : Int) := wrap_of (by omega) (by omega)
 simp only [w1, List.length_map, EVS]
 by_cases c : l - (xs.length : Int) < 0
 ·simp only [c, EVS]; exact SzOk.neg h0
 ·simp only [c, EVS]
  refine (SzOk.sc (szLoop xs (fun x => BdSignal 1048576 x) _ hx (fun again k x l' hk h2 h3 => ?_) (fun again l' => ?_) (by omega) (by omega))).mono (by omega) (fun h => ⟨by omega, h⟩)
  ·have hi : idxV (.lst (xs.map eSig)) (.int .i64 (k : Int)) = some ((eSig x)) := idx_map hk
   obtain ⟨r, g1, g2, g3⟩ := sz_Signal x l' (hb.2 x (List.mem_of_getElem? hk)) h2 h3
   refine ⟨r, g2, g3, ?_⟩
   simp only [eSig] at g1 hi
   simp only [lt_d (lt_of_some hk), next_w (lt_of_some hk) hx, hi, g1, EVS]
   by_cases c2 : r < 0 <;> simp only [c2, EVS]
  ·simp only [ge_d, EVS]
theorem to_SignalS (xs : List (List UInt8 × Int)) (hb : ((xs).length ≤ 1048576 ∧ ∀ x ∈ xs, BdSignal 1048576 x)) : s_w_toSignalS [.lst (xs.map eSig)] = some (.lst (xs.map eSig)) := by
 have hx : xs.length ≤ 1048576 := hb.1
 show (fun x0 => s_w_toSignalS [x0]) _ = _
 rw [sh_w_toSignalS]
 simp only [mk_v _ _ (show xs.length ≤ 4294967296 by omega), List.length_map, EVS]
 refine toLoop xs eSig 2 _ _ (by omega) ?_ (fun _ => ?_) (fun _ => ?_) (fun again k x row el hk hl he hs => ?_) (fun again row => ?_)
 ·rfl
 ·rfl
 ·exact ⟨fun _ => ⟨_, rfl⟩, fun _ => ⟨_, rfl⟩⟩
 ·have hi : idxV (.lst (xs.map eSig)) (.int .i64 (k : Int)) = some ((eSig x)) := idx_map hk
  have hkr : k < row.length := by rw [hl]; exact lt_of_some hk
  have g1 := to_Signal x (hb.2 x (List.mem_of_getElem? hk))
  simp only [eSig] at g1 hi hs
  simp only [eSig, lt_d (lt_of_some hk), next_w (lt_of_some hk) (show xs.length ≤ 9223372036854775807 by omega), hi, g1, plc_at hkr, he, hs, EVS]
 ·simp only [ge_d, EVS]
theorem eq_SignalS (xs : List (List UInt8 × Int)) (hb : ((xs).length ≤ 9223372036854775807 ∧ ∀ x ∈ xs, BdSignal 9223372036854775807 x)) : s_w_eqSignalS [.lst (xs.map eSig), .lst (xs.map eSig)] = some (pB true) := by
 have hx : xs.length ≤ 9223372036854775807 := hb.1
 show (fun x0 x1 => s_w_eqSignalS [x0, x1]) _ _ = _
 rw [sh_w_eqSignalS]
 simp only [List.length_map, EVS]
 refine (congrArg (fun m : Option PV => m.bind fun r => if r.sc = true then some r else none) (rangeAll (R := PV) xs (fun _ _ => true) (some (pB false)) (some (pB true)) _ hx (fun again k x hk => ?_) (fun again => ?_))).trans ?_
 ·have hi : idxV (.lst (xs.map eSig)) (.int .i64 (k : Int)) = some ((eSig x)) := idx_map hk
  have g1 := eq_Signal x (hb.2 x (List.mem_of_getElem? hk))
  simp only [eSig] at g1 hi
  simp only [lt_d (lt_of_some hk), next_w (lt_of_some hk) hx, hi, g1, EVS]
 ·simp only [ge_d, EVS]
 ·rw [show allK (fun (_ : Nat) (_ : List UInt8 × Int) => true) 0 xs = true from allK_true xs 0]; rfl
theorem to_Pin (a : Int × Bool) : s_w_toPin [ePin a] = some (ePin a) := by
 show (fun x0 => s_w_toPin [x0]) _ = _
 rw [sh_w_toPin]
 simp only [ePin, EVS]
theorem eq_Pin (a : Int × Bool) : s_w_eqPin [ePin a, ePin a] = some (pB true) := by
 show (fun x0 x1 => s_w_eqPin [x0, x1]) _ _ = _
 rw [sh_w_eqPin]
 simp only [ePin, beq_self_eq_true, EVS]
theorem sz_PinS (xs : List (Int × Bool)) (l : Int) (hb : (xs).length ≤ 9223372036854775807) (h0 : 0 ≤ l) (h1 : l ≤ 1048576) : SzOk (s_w_szPinS [.lst (xs.map ePin), pI l]) l ((xs).length ≤ 1048576) := by
 have hx : xs.length ≤ 9223372036854775807 := hb
 show SzOk ((fun x0 x1 => s_w_szPinS [x0, x1]) _ _) _ _
 rw [sh_w_szPinS]
 have w1 : IntKind.i64.wrap (l - (xs.length : Int)) = l - (xs.length : Int) := wrap_of (by omega) (by omega)
 simp only [w1, List.length_map, EVS]
 by_cases c : l - (xs.length : Int) < 0
 ·simp only [c, EVS]; exact SzOk.neg h0
 ·simp only [c, EVS]; exact SzOk.pos (by omega) (by omega)
theorem to_PinS (xs : List (Int × Bool)) (hb : (xs).length ≤ 1048576) : s_w_toPinS [.lst (xs.map ePin)] = some (.lst (xs.map ePin)) := by
 have hx : xs.length ≤ 1048576 := hb
 show (fun x0 => s_w_toPinS [x0]) _ = _
 rw [sh_w_toPinS]
 simp only [mk_v _ _ (show xs.length ≤ 4294967296 by omega), List.length_map, EVS]
 refine toLoop xs ePin 2 _ _ (by omega) ?_ (fun _ => ?_) (fun _ => ?_) (fun again k x row el hk hl he hs => ?_) (fun again row => ?_)
 ·rfl
 ·rfl
 ·exact ⟨fun _ => ⟨_, rfl⟩, fun _ => ⟨_, rfl⟩⟩
 ·have hi : idxV (.lst (xs.map ePin)) (.int .i64 (k : Int)) = some ((ePin x)) := idx_map hk
  have hkr : k < row.length := by rw [hl]; exact lt_of_some hk
  have g1 := to_Pin x
  simp only [ePin] at g1 hi hs
  simp only [ePin, lt_d (lt_of_some hk), next_w (lt_of_some hk) (show xs.length ≤ 9223372036854775807 by omega), hi, g1, plc_at hkr, he, hs, EVS]
 ·simp only [ge_d, EVS]
theorem eq_PinS (xs : List (Int × Bool)) (hb : (xs).length ≤ 9223372036854775807) : s_w_eqPinS [.lst (xs.map ePin), .lst (xs.map ePin)] = some (pB true) := by
 have hx : xs.length ≤ 9223372036854775807 := hb
 show (fun x0 x1 => s_w_eqPinS [x0, x1]) _ _ = _
 rw [sh_w_eqPinS]
 simp only [List.length_map, EVS]
 refine (congrArg (fun m : Option PV => m.bind fun r => if r.sc = true then some r else none) (rangeAll (R := PV) xs (fun _ _ => true) (some (pB false)) (some (pB true)) _ hx (fun again k x hk => ?_) (fun again => ?_))).trans ?_
 ·have hi : idxV (.lst (xs.map ePin)) (.int .i64 (k : Int)) = some ((ePin x)) := idx_map hk
  have g1 := eq_Pin x
  simp only [ePin] at g1 hi
  simp only [lt_d (lt_of_some hk), next_w (lt_of_some hk) hx, hi, g1, EVS]
 ·simp only [ge_d, EVS]
 ·rw [show allK (fun (_ : Nat) (_ : Int × Bool) => true) 0 xs = true from allK_true xs 0]; rfl
theorem sz_StringS (xs : List (List UInt8)) (l : Int) (hb : ((xs).length ≤ 9223372036854775807 ∧ ∀ x ∈ xs, (x).length ≤ 9223372036854775807)) (h0 : 0 ≤ l) (h1 : l ≤ 1048576) : SzOk (s_w_szStringS [.lst (xs.map PV.str), pI l]) l (((xs).length ≤ 1048576 ∧ ∀ x ∈ xs, (x).length ≤ 1048576)) := by
 have hx : xs.length ≤ 9223372036854775807 := hb.1
 show SzOk ((fun x0 x1 => s_w_szStringS [x0, x1]) _ _) _ _
 rw [sh_w_szStringS]
 have w1 : IntKind.i64.wrap (l - (xs.length : Int)) = l - (xs.length : Int) := wrap_of (by omega) (by omega)
 simp only [w1, List.length_map, EVS]
 by_cases c : l - (xs.length : Int) < 0
 ·simp only [c, EVS]; exact SzOk.neg h0
 ·simp only [c, EVS]
  refine (SzOk.sc (szLoop xs (fun x => (x).length ≤ 1048576) _ hx (fun again k x l' hk h2 h3 => ?_) (fun again l' => ?_) (by omega) (by omega))).mono (by omega) (fun h => ⟨by omega, h⟩)
  ·have hi : idxV (.lst (xs.map PV.str)) (.int .i64 (k : Int)) = some ((.str x)) := idx_map hk
   have hxl := hb.2 x (List.mem_of_getElem? hk)
   have w2 : IntKind.i64.wrap (l' - (x.length : Int)) = l' - (x.length : Int) := wrap_of (by omega) (by omega)
   refine ⟨l' - (x.length : Int), by omega, fun h => by omega, ?_⟩
   simp only [lt_d (lt_of_some hk), next_w (lt_of_some hk) hx, hi, w2, EVS]
   by_cases c2 : l' - (x.length : Int) < 0 <;> simp only [c2, EVS]
  ·simp only [ge_d, EVS]
theorem to_StringS (xs : List (List UInt8)) (hb : ((xs).length ≤ 1048576 ∧ ∀ x ∈ xs, (x).length ≤ 1048576)) : s_w_toStringS [.lst (xs.map PV.str)] = some (.lst (xs.map PV.str)) := by
 have hx : xs.length ≤ 1048576 := hb.1
 show (fun x0 => s_w_toStringS [x0]) _ = _
 rw [sh_w_toStringS]
 simp only [mk_v _ _ (show xs.length ≤ 4294967296 by omega), List.length_map, EVS]
 refine toLoop xs PV.str 1 _ _ (by omega) ?_ (fun _ => ?_) (fun _ => ?_) (fun again k x row el hk hl he hs => ?_) (fun again row => ?_)
 ·rfl
 ·rfl
 ·constructor <;> (rintro ⟨l, h⟩; cases h)
 ·have hi : idxV (.lst (xs.map PV.str)) (.int .i64 (k : Int)) = some ((.str x)) := idx_map hk
  have hkr : k < row.length := by rw [hl]; exact lt_of_some hk
  simp only [lt_d (lt_of_some hk), next_w (lt_of_some hk) (show xs.length ≤ 9223372036854775807 by omega), hi, plc_at hkr, he, hs, EVS]
 ·simp only [ge_d, EVS]
theorem eq_StringS (xs : List (List UInt8)) (hb : ((xs).length ≤ 9223372036854775807 ∧ ∀ x ∈ xs, (x).length ≤ 9223372036854775807)) : s_w_eqStringS [.lst (xs.map PV.str), .lst (xs.map PV.str)] = some (pB true) := by
 have hx : xs.length ≤ 9223372036854775807 := hb.1
 show (fun x0 x1 => s_w_eqStringS [x0, x1]) _ _ = _
 rw [sh_w_eqStringS]
 simp only [List.length_map, EVS]
 refine (congrArg (fun m : Option PV => m.bind fun r => if r.sc = true then some r else none) (rangeAll (R := PV) xs (fun _ _ => true) (some (pB false)) (some (pB true)) _ hx (fun again k x hk => ?_) (fun again => ?_))).trans ?_
 ·have hi : idxV (.lst (xs.map PV.str)) (.int .i64 (k : Int)) = some ((.str x)) := idx_map hk
  simp only [lt_d (lt_of_some hk), next_w (lt_of_some hk) hx, hi, beq_self_eq_true, EVS]
 ·simp only [ge_d, EVS]
 ·rw [show allK (fun (_ : Nat) (_ : List UInt8) => true) 0 xs = true from allK_true xs 0]; rfl
def BdWire (m : Nat) (a : PWire) : Prop := (a.name).length ≤ m ∧ (a.ins).length ≤ m ∧ ((a.cover).length ≤ m ∧ ∀ x ∈ a.cover, (x).length ≤ m)
theorem sz_Wire (a : PWire) (l : Int) (hb : BdWire 9223372036854775807 a) (h0 : 0 ≤ l) (h1 : l ≤ 1048576) : SzOk (s_w_szWire [eWire a, pI l]) l (BdWire 1048576 a) := by
 obtain ⟨b0, b1, b2⟩ := hb
 unfold BdWire
 show SzOk ((fun x0 x1 => s_w_szWire [x0, x1]) _ _) _ _
 rw [sh_w_szWire]
 simp only [eWire, EVS]
 have w0 : IntKind.i64.wrap (l - (a.name.length : Int)) = (l - (a.name.length : Int)) := wrap_of (by omega) (by omega)
 simp only [w0, EVS]
 by_cases c0 : (l - (a.name.length : Int)) < 0
 ·simp only [c0, EVS]; exact SzOk.neg h0
 simp only [c0, EVS]
 have q0 : 0 ≤ (l - (a.name.length : Int)) ∧ (l - (a.name.length : Int)) ≤ l := by omega
 obtain ⟨r1, g1, y1, z1⟩ := sz_PinS a.ins (l - (a.name.length : Int)) b1 (by omega) (by omega)
 try simp only [g1, EVS]
 by_cases c1 : r1 < 0
 ·simp only [g1, c1, EVS]; exact SzOk.neg h0
 try simp only [g1, c1, EVS]
 have q1 : 0 ≤ r1 ∧ r1 ≤ l := by omega
 obtain ⟨r2, g2, y2, z2⟩ := sz_StringS a.cover r1 b2 (by omega) (by omega)
 try simp only [g2, EVS]
 by_cases c2 : r2 < 0
 ·simp only [g2, c2, EVS]; exact SzOk.neg h0
 try simp only [g2, c2, EVS]
 have q2 : 0 ≤ r2 ∧ r2 ≤ l := by omega
 exact SzOk.pos (by omega) ⟨(by omega), (z1 (by omega)), (z2 (by omega))⟩
theorem to_Wire (a : PWire) (hb : BdWire 1048576 a) : s_w_toWire [eWire a] = some (eWire a) := by
 obtain ⟨b0, b1, b2⟩ := hb
 have g0 := to_PinS a.ins b1
 have g1 := to_StringS a.cover b2
 show (fun x0 => s_w_toWire [x0]) _ = _
 rw [sh_w_toWire]
 simp only [eWire, g0, g1, EVS]
theorem eq_Wire (a : PWire) (hb : BdWire 9223372036854775807 a) : s_w_eqWire [eWire a, eWire a] = some (pB true) := by
 obtain ⟨b0, b1, b2⟩ := hb
 have g0 := eq_PinS a.ins b1
 have g1 := eq_StringS a.cover b2
 show (fun x0 x1 => s_w_eqWire [x0, x1]) _ _ = _
 rw [sh_w_eqWire]
 simp only [eWire, g0, g1, beq_self_eq_true, EVS]
theorem sz_WireS (xs : List (PWire)) (l : Int) (hb : ((xs).length ≤ 9223372036854775807 ∧ ∀ x ∈ xs, BdWire 9223372036854775807 x)) (h0 : 0 ≤ l) (h1 : l ≤ 1048576) : SzOk (s_w_szWireS [.lst (xs.map eWire), pI l]) l (((xs).length ≤ 1048576 ∧ ∀ x ∈ xs, BdWire 1048576 x)) := by
 have hx : xs.length ≤ 9223372036854775807 := hb.1
 show SzOk ((fun x0 x1 => s_w_szWireS [x0, x1]) _ _) _ _
 rw [sh_w_szWireS]
 have w1 : IntKind.i64.wrap (l - (xs.length : Int)) = l - (xs.length : Int) := wrap_of (by omega) (by omega)
 simp only [w1, List.length_map, EVS]
 by_cases c : l - (xs.length : Int) < 0
 ·simp only [c, EVS]; exact SzOk.neg h0
 ·simp only [c, EVS]
  refine (SzOk.sc (szLoop xs (fun x => BdWire 1048576 x) _ hx (fun again k x l' hk h2 h3 => ?_) (fun again l' => ?_) (by omega) (by omega))).mono (by omega) (fun h => ⟨by omega, h⟩)
  ·have hi : idxV (.lst (xs.map eWire)) (.int .i64 (k : Int)) = some ((eWire x)) := idx_map hk
   obtain ⟨r, g1, g2, g3⟩ := sz_Wire x l' (hb.2 x (List.mem_of_getElem? hk)) h2 h3
   refine ⟨r, g2, g3, ?_⟩
   simp only [eWire] at g1 hi
   simp only [lt_d (lt_of_some hk), next_w (lt_of_some hk) hx, hi, g1, EVS]
   by_cases c2 : r < 0 <;> simp only [c2, EVS]
  ·simp only [ge_d, EVS]
theorem to_WireS (xs : List (PWire)) (hb : ((xs).length ≤ 1048576 ∧ ∀ x ∈ xs, BdWire 1048576 x)) : s_w_toWireS [.lst (xs.map eWire)] = some (.lst (xs.map eWire)) := by
 have hx : xs.length ≤ 1048576 := hb.1
 show (fun x0 => s_w_toWireS [x0]) _ = _
 rw [sh_w_toWireS]
 simp only [mk_v _ _ (show xs.length ≤ 4294967296 by omega), List.length_map, EVS]
 refine toLoop xs eWire 4 _ _ (by omega) ?_ (fun _ => ?_) (fun _ => ?_) (fun again k x row el hk hl he hs => ?_) (fun again row => ?_)
 ·rfl
 ·rfl
 ·exact ⟨fun _ => ⟨_, rfl⟩, fun _ => ⟨_, rfl⟩⟩
 ·have hi : idxV (.lst (xs.map eWire)) (.int .i64 (k : Int)) = some ((eWire x)) := idx_map hk
  have hkr : k < row.length := by rw [hl]; exact lt_of_some hk
  have g1 := to_Wire x (hb.2 x (List.mem_of_getElem? hk))
  simp only [eWire] at g1 hi hs
  simp only [eWire, lt_d (lt_of_some hk), next_w (lt_of_some hk) (show xs.length ≤ 9223372036854775807 by omega), hi, g1, plc_at hkr, he, hs, EVS]
 ·simp only [ge_d, EVS]
theorem eq_WireS (xs : List (PWire)) (hb : ((xs).length ≤ 9223372036854775807 ∧ ∀ x ∈ xs, BdWire 9223372036854775807 x)) : s_w_eqWireS [.lst (xs.map eWire), .lst (xs.map eWire)] = some (pB true) := by
 have hx : xs.length ≤ 9223372036854775807 := hb.1
 show (fun x0 x1 => s_w_eqWireS [x0, x1]) _ _ = _
 rw [sh_w_eqWireS]
 simp only [List.length_map, EVS]
 refine (congrArg (fun m : Option PV => m.bind fun r => if r.sc = true then some r else none) (rangeAll (R := PV) xs (fun _ _ => true) (some (pB false)) (some (pB true)) _ hx (fun again k x hk => ?_) (fun again => ?_))).trans ?_
 ·have hi : idxV (.lst (xs.map eWire)) (.int .i64 (k : Int)) = some ((eWire x)) := idx_map hk
  have g1 := eq_Wire x (hb.2 x (List.mem_of_getElem? hk))
  simp only [eWire] at g1 hi
  simp only [lt_d (lt_of_some hk), next_w (lt_of_some hk) hx, hi, g1, EVS]
 ·simp only [ge_d, EVS]
 ·rw [show allK (fun (_ : Nat) (_ : PWire) => true) 0 xs = true from allK_true xs 0]; rfl
def BdNetlist (m : Nat) (a : PNet) : Prop := ((a.signals).length ≤ m ∧ ∀ x ∈ a.signals, BdSignal m x) ∧ ((a.wires).length ≤ m ∧ ∀ x ∈ a.wires, BdWire m x)
theorem sz_Netlist (a : PNet) (l : Int) (hb : BdNetlist 9223372036854775807 a) (h0 : 0 ≤ l) (h1 : l ≤ 1048576) : SzOk (s_w_szNetlist [eNet a, pI l]) l (BdNetlist 1048576 a) := by
 obtain ⟨b0, b1⟩ := hb
 unfold BdNetlist
 show SzOk ((fun x0 x1 => s_w_szNetlist [x0, x1]) _ _) _ _
 rw [sh_w_szNetlist]
 simp only [eNet, EVS]
 obtain ⟨r0, g0, y0, z0⟩ := sz_SignalS a.signals l b0 (by omega) (by omega)
 try simp only [g0, EVS]
 by_cases c0 : r0 < 0
 ·simp only [g0, c0, EVS]; exact SzOk.neg h0
 try simp only [g0, c0, EVS]
 have q0 : 0 ≤ r0 ∧ r0 ≤ l := by omega
 obtain ⟨r1, g1, y1, z1⟩ := sz_WireS a.wires r0 b1 (by omega) (by omega)
 try simp only [g1, EVS]
 by_cases c1 : r1 < 0
 ·simp only [g1, c1, EVS]; exact SzOk.neg h0
 try simp only [g1, c1, EVS]
 have q1 : 0 ≤ r1 ∧ r1 ≤ l := by omega
 exact SzOk.pos (by omega) ⟨(z0 (by omega)), (z1 (by omega))⟩
theorem to_Netlist (a : PNet) (hb : BdNetlist 1048576 a) : s_w_toNetlist [eNet a] = some (eNet a) := by
 obtain ⟨b0, b1⟩ := hb
 have g0 := to_SignalS a.signals b0
 have g1 := to_WireS a.wires b1
 show (fun x0 => s_w_toNetlist [x0]) _ = _
 rw [sh_w_toNetlist]
 simp only [eNet, g0, g1, EVS]
theorem eq_Netlist (a : PNet) (hb : BdNetlist 9223372036854775807 a) : s_w_eqNetlist [eNet a, eNet a] = some (pB true) := by
 obtain ⟨b0, b1⟩ := hb
 have g0 := eq_SignalS a.signals b0
 have g1 := eq_WireS a.wires b1
 show (fun x0 x1 => s_w_eqNetlist [x0, x1]) _ _ = _
 rw [sh_w_eqNetlist]
 simp only [eNet, g0, g1, beq_self_eq_true, EVS]
theorem PNet.fit_of {n : PNet} (h : BdNetlist 9223372036854775807 n) : n.Fit := by
 obtain ⟨⟨h1, h2⟩, h3, h4⟩ := h
 exact ⟨h1, fun s hs => h2 s hs, h3, fun w hw => ⟨(h4 w hw).1, (h4 w hw).2.1, (h4 w hw).2.2.1, (h4 w hw).2.2.2⟩⟩
def nextAt (n : PNet) (v : List UInt8) (k : Nat) : Bool := match n.wires[k]? with | some w => nextP n v k w | none => false
def settleGo (n : PNet) : Nat → Nat → List UInt8 → List UInt8
 | 0, _, v => v
 | c + 1, k, v => settleGo n c (k + 1) (v.set k (bitU (nextAt n v k)))
def settleP (n : PNet) (code : List UInt8) : List UInt8 := settleGo n (n.wires.length - n.signals.length) n.signals.length (code ++ List.replicate (n.wires.length - n.signals.length) 48)
theorem netP_size {n : PNet} (h : netP n = true) : n.signals.length ≤ n.wires.length ∧ n.wires.length ≤ 24 := by
 unfold netP at h
 simp only [Bool.and_eq_true, Bool.not_eq_true', decide_eq_false_iff_not] at h
 omega
theorem at_next {n : PNet} {v : List UInt8} {k : Nat} (hn : n.Fit) (hv : netP n = true) (hb : bitsP v n.wires.length = true) (hk : k < n.wires.length) : At n v k n.wires[k] ∧ nextP n v k n.wires[k] = nextAt n v k := by
 have hl := (bitsP_iff.1 hb).2
 refine ⟨at_of n v k hn (by unfold Fits; have := (netP_size hv).2; omega) (by unfold valuesP; rw [hv, hb]; rfl) hk, ?_⟩
 unfold nextAt
 rw [List.getElem?_eq_getElem hk]
theorem p_r_l19Settle (n : PNet) (code : List UInt8) (hn : n.Fit) (hv : netP n = true) (hc : bitsP code n.signals.length = true) : s_r_l19Settle [eNet n, .str code] = some (.str (settleP n code)) := by
 obtain ⟨hs1, hs2⟩ := netP_size hv
 have hcl := (bitsP_iff.1 hc).2
 obtain ⟨N, hN⟩ : ∃ N, n.wires.length = N := ⟨_, rfl⟩
 obtain ⟨m, hm⟩ : ∃ m, n.signals.length = m := ⟨_, rfl⟩
 show (fun x0 x1 => s_r_l19Settle [x0, x1]) _ _ = _
 rw [sh_r_l19Settle]
 simp only [eNet, EVS]
 have key := loopR_go (R := PV) (fun j : {j : Nat // j ≤ N - m} => [.str (code ++ List.replicate j.1 48)]) (fun j => N - m + 1 - j.1) (fun _ => some (.str (settleP n code)))
 have key' : ∀ f : (List PV → Option PV) → List PV → Option PV, (∀ again (a : {j : Nat // j ≤ N - m}), (∀ a' : {j : Nat // j ≤ N - m}, N - m + 1 - a'.1 < N - m + 1 - a.1 → again [.str (code ++ List.replicate a'.1 48)] = some (.str (settleP n code))) → f again [.str (code ++ List.replicate a.1 48)] = some (.str (settleP n code))) → loopR f 18446744073709551616 [.str code] = some (.str (settleP n code)) := fun f hf => by
  have := key f hf 18446744073709551616 ⟨0, Nat.zero_le _⟩ (by simp only; omega)
  simpa using this
 refine (congrArg (fun m : Option PV => m.bind fun r => if r.sc = true then some r else none) (key' _ (fun again j ih => ?_))).trans rfl
 obtain ⟨j, hj⟩ := j
 dsimp only at ih ⊢
 have hlen : (code ++ List.replicate j (48 : UInt8)).length = m + j := by simp; omega
 by_cases c1 : m + j < N
 ·have h1 : decide (((m + j : Nat) : Int) < (N : Int)) = true := by simp; omega
  have h0 : binV .add TD.str (.str (code ++ List.replicate j (48 : UInt8))) (.str [48]) = some (.str (code ++ List.replicate (j + 1) (48 : UInt8))) := by
   rw [bs_add (by simp at hlen ⊢; omega), List.append_assoc, ← List.replicate_succ']
  have h5 : ∀ x, binV .add TD.str (.str (code ++ List.replicate j (48 : UInt8))) (.str [UInt8.ofBitVec (BitVec.ofFin (Fin.mk 48 x))]) = some (.str (code ++ List.replicate (j + 1) (48 : UInt8))) := fun _ => h0
  simp only [hN, hlen, h1, h5, List.length_map, EVS]
  exact ih ⟨j + 1, by omega⟩ (by simp only; omega)
 ·obtain rfl : j = N - m := by omega
  have h1 : decide (((m + (N - m) : Nat) : Int) < (N : Int)) = false := by simp; omega
  simp only [hN, hm, hlen, h1, List.length_map, EVS]
  have key2 := loopR_go (R := PV) (fun q : {q : List UInt8 × Nat // bitsP q.1 N = true ∧ q.2 ≤ N} => [.str q.1.1, pI (Int.ofNat q.1.2)]) (fun q => N + 1 - q.1.2) (fun q => some (.str (settleGo n (N - q.1.2) q.1.2 q.1.1)))
  have hb0 : bitsP (code ++ List.replicate (N - m) (48 : UInt8)) N = true := bits_pad (by rw [← hm]; exact hc) (by omega)
  refine (key2 _ (fun again q ih => ?_) 18446744073709551616 ⟨(code ++ List.replicate (N - m) 48, m), hb0, by omega⟩ (by simp only; omega)).trans ?_
  ·obtain ⟨⟨v, k⟩, hb, hk⟩ := q
   dsimp only at ih hb hk ⊢
   have hvl := (bitsP_iff.1 hb).2
   by_cases c2 : k < N
   ·obtain ⟨a1, a2⟩ := at_next (k := k) hn hv (by rw [hN]; exact hb) (by omega)
    have a3 := p_r_l19Next n v k _ a1
    rw [a2] at a3
    simp only [eNet] at a3
    have a4 := p_r_l5Set v k (bitU (nextAt n v k)) (by omega) (by unfold Fits; omega)
    have h3 : decide ((k : Int) < (N : Int)) = true := by simpa using c2
    have hw : IntKind.i64.wrap ((k : Int) + 1) = ((k + 1 : Nat) : Int) := by rw [wrap_of (by omega) (by omega)]; omega
    simp only [hN, h3, a3, p_r_l5Bit, a4, hw, List.length_map, EVS]
    have h4 := ih ⟨(v.set k (bitU (nextAt n v k)), k + 1), bits_set hb _, by omega⟩ (by simp only; omega)
    rw [show N - k = (N - (k + 1)) + 1 by omega]
    exact h4
   ·obtain rfl : k = N := by omega
    have h3 : decide ((k : Int) < (k : Int)) = false := by simp
    simp only [hN, h3, List.length_map, EVS]
    rw [Nat.sub_self]
    rfl
  ·unfold settleP
   rw [hN, hm]
theorem repeat_1 (c : UInt8) : ∀ k, Lib.repeatL [c] k = List.replicate k c
 | 0 => rfl
 | k + 1 => by rw [Lib.repeatL, repeat_1 c k]; rfl
theorem p_g_strings_Repeat (c : UInt8) (k : Nat) (h : k ≤ 1048576) : s_g_strings_Repeat [.str [c], pI k] = some (.str (List.replicate k c)) := by
 have h1 : (0 : Int) ≤ (k : Int) ∧ (k : Int) ≤ 9223372036854775807 ∧ (([c] : List UInt8).length : Int) * (k : Int) ≤ 140737488355328 := by simp; omega
 show (if (0 : Int) ≤ (k : Int) ∧ (k : Int) ≤ 9223372036854775807 ∧ (([c] : List UInt8).length : Int) * (k : Int) ≤ 140737488355328 then some (PV.str (Lib.repeatL [c] (Int.toNat (k : Int)))) else none) = _
 rw [if_pos h1, Int.toNat_natCast, repeat_1]
theorem p_i_settle (n : PNet) (code : List UInt8) (hn : n.Fit) (hv : netP n = true) (hc : bitsP code n.signals.length = true) : s_i_settle [eNet n, .str code] = some (.str (settleP n code)) := by
 obtain ⟨hs1, hs2⟩ := netP_size hv
 have hcl := (bitsP_iff.1 hc).2
 obtain ⟨N, hN⟩ : ∃ N, n.wires.length = N := ⟨_, rfl⟩
 obtain ⟨m, hm⟩ : ∃ m, n.signals.length = m := ⟨_, rfl⟩
 have hb0 : bitsP (code ++ List.replicate (N - m) (48 : UInt8)) N = true := bits_pad (by rw [← hm]; exact hc) (by omega)
 show (fun x0 x1 => s_i_settle [x0, x1]) _ _ = _
 rw [sh_i_settle]
 have hw1 : IntKind.i64.wrap ((N : Int) - (m : Int)) = ((N - m : Nat) : Int) := by rw [wrap_of (by omega) (by omega)]; omega
 have hr : ∀ x, s_g_strings_Repeat [.str [UInt8.ofBitVec (BitVec.ofFin (Fin.mk 48 x))], pI ((N - m : Nat) : Int)] = some (.str (List.replicate (N - m) 48)) := fun _ => p_g_strings_Repeat 48 (N - m) (by omega)
 have hcl' : code.length = m := by omega
 have h0 : binV .add TD.str (.str code) (.str (List.replicate (N - m) (48 : UInt8))) = some (.str (code ++ List.replicate (N - m) (48 : UInt8))) := bs_add (by simp; omega)
 simp only [eNet, hN, hcl', hw1, hr, h0, List.length_map, EVS]
 have key2 := loopR_go (R := PV) (fun q : {q : List UInt8 × Nat // bitsP q.1 N = true ∧ q.2 ≤ N} => [.str q.1.1, pI (Int.ofNat q.1.2)]) (fun q => N + 1 - q.1.2) (fun q => some (.str (settleGo n (N - q.1.2) q.1.2 q.1.1)))
 refine (congrArg (fun m : Option PV => m.bind fun r => if r.sc = true then some r else none) (key2 _ (fun again q ih => ?_) 18446744073709551616 ⟨(code ++ List.replicate (N - m) 48, m), hb0, by omega⟩ (by simp only; omega))).trans ?_
 ·obtain ⟨⟨v, k⟩, hb, hk⟩ := q
  dsimp only at ih hb hk ⊢
  have hvl := (bitsP_iff.1 hb).2
  by_cases c2 : k < N
  ·obtain ⟨a1, a2⟩ := at_next (k := k) hn hv (by rw [hN]; exact hb) (by omega)
   have a3 := p_i_nextWire n v k _ a1
   rw [a2] at a3
   simp only [eNet] at a3
   have h3 : decide ((k : Int) < (N : Int)) = true := by simpa using c2
   have hw : IntKind.i64.wrap ((k : Int) + 1) = ((k + 1 : Nat) : Int) := by rw [wrap_of (by omega) (by omega)]; omega
   have h4 : cutS (.str v) none (some (.int .i64 (k : Int))) = some (.str (v.take k)) := cutS_take (by omega)
   have h5 : cutS (.str v) (some (.int .i64 ((k + 1 : Nat) : Int))) none = some (.str (v.drop (k + 1))) := cutS_drop (by omega)
   have h6 : binV .add TD.str (.str (v.take k)) (.str [bitU (nextAt n v k)]) = some (.str (v.take k ++ [bitU (nextAt n v k)])) := bs_add (by simp; omega)
   have h7 : binV .add TD.str (.str (v.take k ++ [bitU (nextAt n v k)])) (.str (v.drop (k + 1))) = some (.str (v.take k ++ [bitU (nextAt n v k)] ++ v.drop (k + 1))) := bs_add (by simp; omega)
   simp only [hvl, h3, h4, a3, p_i_bit, h6, hw, h5, h7, set_cut v k _ (show k < v.length by omega), EVS]
   have h8 := ih ⟨(v.set k (bitU (nextAt n v k)), k + 1), bits_set hb _, by omega⟩ (by simp only; omega)
   rw [show N - k = (N - (k + 1)) + 1 by omega]
   exact h8
  ·obtain rfl : k = N := by omega
   have h3 : decide ((k : Int) < (k : Int)) = false := by simp
   simp only [hvl, h3, EVS]
   rw [Nat.sub_self]
   rfl
 ·unfold settleP
  rw [hN, hm]
  rfl
def arcQ (a : PArc) : QArc := (a.from_, a.sig, a.up, a.to_)
def rowsC (c : PSG) : List (List Int) := rowsOf c.codes.length c.signals.length (c.arcs.map arcQ)
def toC (c : PSG) (k s : Nat) : Int := cellOf (rowsC c) k s
structure Go1 (c : PSG) (n : PNet) : Prop where
 net : netP n = true
 one : 1 ≤ c.codes.length
 many : c.codes.length ≤ 300
 sone : 1 ≤ c.signals.length
 smany : c.signals.length ≤ 8
 few : c.arcs.length ≤ 4000
 bits : ∀ x ∈ c.codes, bitsP x c.signals.length = true
 arcs : ∀ a ∈ c.arcs, 0 ≤ a.from_ ∧ a.from_ < c.codes.length ∧ 0 ≤ a.to_ ∧ a.to_ < c.codes.length ∧ 0 ≤ a.sig ∧ a.sig < c.signals.length
 det : ∀ a ∈ c.arcs, ∀ b ∈ c.arcs, a.from_ = b.from_ → a.sig = b.sig → a.to_ = b.to_
 same : c.signals = n.signals
 fitc : SGFit c
 fitn : n.Fit
theorem pairsG_sub (w : PArc → PArc → Bool) (i : Nat) (a : PArc) : ∀ (l : List PArc) (k : Nat) (acc : List (Nat × Nat)), pairsG w i a k acc l = [] → acc = [] ∧ ∀ b ∈ l, w a b = false
 | [], k, acc, h => ⟨h, by simp⟩
 | b :: l, k, acc, h => by
  unfold pairsG at h
  obtain ⟨h1, h2⟩ := pairsG_sub w i a l (k + 1) _ h
  cases c : w a b
  ·rw [c] at h1
   simp only [Bool.false_eq_true, if_false] at h1
   refine ⟨h1, fun x hx => ?_⟩
   rcases List.mem_cons.1 hx with rfl | hx
   ·exact c
   ·exact h2 x hx
  ·rw [c] at h1
   simp at h1
theorem pairsO_sub (w : PArc → PArc → Bool) (arcs : List PArc) : ∀ (l : List PArc) (k : Nat) (acc : List (Nat × Nat)), pairsO w arcs k acc l = [] → acc = [] ∧ ∀ (i : Nat) (a : PArc), l[i]? = some a → ∀ b ∈ arcs.drop (k + i + 1), w a b = false
 | [], k, acc, h => ⟨h, by simp⟩
 | a :: l, k, acc, h => by
  unfold pairsO at h
  obtain ⟨h1, h2⟩ := pairsO_sub w arcs l (k + 1) _ h
  obtain ⟨h3, h4⟩ := pairsG_sub w _ a _ _ _ h1
  refine ⟨h3, fun i x hx => ?_⟩
  cases i with
  | zero => simp at hx; subst hx; exact h4
  | succ i =>
   have := h2 i x (by simpa using hx)
   rwa [show k + 1 + i + 1 = k + (i + 1) + 1 by omega] at this
theorem sigs_1_8' {c : PSG} (h : sgPre c = true) : 1 ≤ c.signals.length ∧ c.signals.length ≤ 8 := by
 unfold sgPre sigsP inR at h
 simp only [Bool.and_eq_true, decide_eq_true_eq] at h
 omega
theorem goP_go {c : PSG} {n : PNet} (h : goP c n = true) (hc : SGFit c) (hn : n.Fit) : Go1 c n := by
 unfold goP compP at h
 simp only [Bool.and_eq_true, Bool.not_eq_true', decide_eq_true_eq] at h
 obtain ⟨⟨hs, hnet⟩, ⟨hh, hw⟩, hsame⟩ := h
 obtain ⟨h1, h2, h3, h4⟩ := sgV_parts hs
 have hp := sgPre_codes h1 h2
 have hsg := sigs_1_8' h1
 have harc : ∀ a ∈ c.arcs, 0 ≤ a.from_ ∧ a.from_ < c.codes.length ∧ 0 ≤ a.to_ ∧ a.to_ < c.codes.length ∧ 0 ≤ a.sig ∧ a.sig < c.signals.length := fun a ha => by
  have h5 := List.all_eq_true.1 h3 a ha
  have h6 : a.sig ≠ -1 := fun e => by
   have : hidArcs c.arcs = true := List.any_eq_true.2 ⟨a, ha, decide_eq_true e⟩
   rw [this] at hh; cases hh
  unfold arcP arcGood edgeP inR at h5
  simp only [Bool.and_eq_true, Bool.or_eq_true, decide_eq_true_eq] at h5
  omega
 refine ⟨hnet, hp.one, hp.many, hsg.1, hsg.2, hp.arcs, hp.bits, harc, ?_, hsame, hc, hn⟩
 have hways : waysOf wayI c = [] := List.length_eq_zero_iff.1 (by omega)
 have hkey := (pairsO_sub wayI c.arcs c.arcs 0 [] hways).2
 have hlt : ∀ (i j : Nat) (a b : PArc), i < j → c.arcs[i]? = some a → c.arcs[j]? = some b → a.from_ = b.from_ → a.sig = b.sig → a.to_ = b.to_ := fun i j a b hij hi hj e1 e2 => by
  have := hkey i a hi b (by
   rw [Nat.zero_add]
   refine List.mem_of_getElem? (i := j - (i + 1)) ?_
   rw [List.getElem?_drop, show i + 1 + (j - (i + 1)) = j by omega]
   exact hj)
  have h6 := (harc a (List.mem_of_getElem? hi)).2.2.2.2.1
  unfold wayI at this
  simp only [e1, e2, decide_true, Bool.and_true, Bool.true_and] at this
  have hn1 : decide (b.sig = -1) = false := by simp only [decide_eq_false_iff_not]; omega
  rw [hn1] at this
  simp only [Bool.not_false, Bool.true_and, Bool.not_eq_false', decide_eq_true_eq] at this
  exact this.symm
 intro a ha b hb e1 e2
 obtain ⟨i, hi⟩ := List.getElem?_of_mem ha
 obtain ⟨j, hj⟩ := List.getElem?_of_mem hb
 rcases Nat.lt_trichotomy i j with h | h | h
 ·exact hlt i j a b h hi hj e1 e2
 ·subst h; rw [hi] at hj; cases hj; rfl
 ·exact (hlt j i b a h hj hi e1.symm e2.symm).symm
theorem toC_char {c : PSG} {n : PNet} (h : Go1 c n) {k s : Nat} (hk : k < c.codes.length) (hs : s < c.signals.length) :
 (∃ a ∈ c.arcs, (a.from_ = (k : Int) ∧ a.sig = (s : Int)) ∧ toC c k s = a.to_) ∨ (toC c k s = -1 ∧ ∀ a ∈ c.arcs, ¬ (a.from_ = (k : Int) ∧ a.sig = (s : Int))) := by
 rcases rowsOf_char hk hs (c.arcs.map arcQ) with ⟨q, hq, h1, h2⟩ | ⟨h1, h2⟩
 ·obtain ⟨a, ha, rfl⟩ := List.mem_map.1 hq
  have := h.arcs a ha
  refine .inl ⟨a, ha, ?_, h2⟩
  unfold arcQ at h1
  dsimp only at h1
  omega
 ·refine .inr ⟨h1, fun a ha hc => ?_⟩
  have := h.arcs a ha
  refine h2 (arcQ a) (List.mem_map.2 ⟨a, ha, rfl⟩) ?_
  unfold arcQ
  dsimp only
  omega
theorem toC_in {c : PSG} {n : PNet} (h : Go1 c n) {k s : Nat} (hk : k < c.codes.length) (hs : s < c.signals.length) : -1 ≤ toC c k s ∧ toC c k s < c.codes.length := by
 rcases toC_char h hk hs with ⟨a, ha, _, h2⟩ | ⟨h1, _⟩
 ·have := h.arcs a ha; omega
 ·have := h.one; omega
theorem find_rgo {R : Type} (q : PArc → Bool) (z : PArc → Option R) (e : Option R) : ∀ (l : List PArc) (k : Nat), rgo (fun _ a => if q a = true then some (z a) else none) e k l = match l.find? q with | some a => z a | none => e
 | [], k => rfl
 | a :: l, k => by
  unfold rgo
  rw [List.find?_cons]
  cases c : q a
  ·simp only [Bool.false_eq_true, if_false]
   exact find_rgo q z e l (k + 1)
  ·simp
theorem p_r_l20To (c : PSG) (n : PNet) (k s : Nat) (h : Go1 c n) (hk : k < c.codes.length) (hs : s < c.signals.length) : s_r_l20To [eSG c, pI (k : Int), pI (s : Int)] = some (pI (toC c k s)) := by
 have hl := h.few
 show (fun x0 x1 x2 => s_r_l20To [x0, x1, x2]) _ _ _ = _
 rw [sh_r_l20To]
 simp only [eSG, List.length_map, EVS]
 refine (congrArg (fun m : Option PV => m.bind fun r => if r.sc = true then some r else none) ((range1 (R := PV) c.arcs (fun _ a => if (decide (a.from_ = (k : Int)) && decide (a.sig = (s : Int))) = true then some (some (pI a.to_)) else none) (some (pI (-1))) _ (by omega) (fun again j a ha => ?_) (fun again => ?_)).trans (find_rgo _ _ _ _ _))).trans ?_
 ·have hj := lt_of_some ha
  have hi : idxV (.lst (c.arcs.map eArc)) (.int .i64 (j : Int)) = some (eArc a) := idx_map ha
  cases c1 : decide (a.from_ = (k : Int)) <;> cases c2 : decide (a.sig = (s : Int)) <;> simp only [lt_d hj, next_w hj (show c.arcs.length ≤ 9223372036854775807 by omega), hi, eArc, c1, c2, Bool.false_eq_true, if_false, if_true, EVS]
 ·simp only [ge_d, EVS]
  rfl
 ·cases hf : c.arcs.find? (fun a => decide (a.from_ = (k : Int)) && decide (a.sig = (s : Int))) with
  | none =>
   have hno := List.find?_eq_none.1 hf
   rcases toC_char h hk hs with ⟨a, ha, h1, h2⟩ | ⟨h1, h2⟩
   ·exact absurd (by simp [h1]) (hno a ha)
   ·rw [h1]; rfl
  | some a =>
   have ha := List.mem_of_find?_eq_some hf
   have hq := List.find?_some hf
   simp only [Bool.and_eq_true, decide_eq_true_eq] at hq
   rcases toC_char h hk hs with ⟨b, hb, h1, h2⟩ | ⟨h1, h2⟩
   ·rw [h2, h.det b hb a ha (by omega) (by omega)]; rfl
   ·exact absurd hq (h2 a ha)
def eSys (c : PSG) (n : PNet) : PV := .agg [.lst (c.signals.map eSig), .lst (c.codes.map PV.str), .lst (c.arcs.map eArc), .lst (n.signals.map eSig), .lst (n.wires.map eWire), .lst ((rowsC c).map pRow)]
def zSys : PV := .agg [.lst [], .lst [], .lst [], .lst [], .lst [], .lst []]
set_option maxRecDepth 20000 in
theorem at_i_systemOf (c : PSG) (n : PNet) (hc : SGFit c) (hn : n.Fit) : s_i_systemOf [eSG c, eNet n] = some (.tup [if goP c n = true then eSys c n else zSys, pB (goP c n)]) := by
 have g := at_i_AreCompatible c n hc hn
 show (match s_i_AreCompatible [eSG c, eNet n] with
  | some (.tup [.bool is, .bool ok]) =>
   match ok && is with
   | true => match arcsOf (c.arcs.map eArc) with
    | some ars => if 1 ≤ (c.signals.map eSig).length ∧ (c.signals.map eSig).length ≤ 1048576 ∧ (c.codes.map PV.str).length ≤ 1000000 ∧ (ars.all (arcFits (c.codes.map PV.str).length (c.signals.map eSig).length)) = true then some (PV.tup [.agg [.lst (c.signals.map eSig), .lst (c.codes.map PV.str), .lst (c.arcs.map eArc), .lst (n.signals.map eSig), .lst (n.wires.map eWire), .lst ((rowsOf (c.codes.map PV.str).length (c.signals.map eSig).length ars).map pRow)], .bool true]) else none
    | none => none
   | false => some (PV.tup [.agg [.lst [], .lst [], .lst [], .lst [], .lst [], .lst []], .bool false])
  | _ => none) = _
 rw [g]
 have hgo : ((sgV c && netP n) && goP c n) = goP c n := by
  unfold goP
  cases sgV c <;> cases netP n <;> simp
 show (match ((sgV c && netP n) && goP c n) with
  | true => match arcsOf (c.arcs.map eArc) with
   | some ars => if 1 ≤ (c.signals.map eSig).length ∧ (c.signals.map eSig).length ≤ 1048576 ∧ (c.codes.map PV.str).length ≤ 1000000 ∧ (ars.all (arcFits (c.codes.map PV.str).length (c.signals.map eSig).length)) = true then some (PV.tup [.agg [.lst (c.signals.map eSig), .lst (c.codes.map PV.str), .lst (c.arcs.map eArc), .lst (n.signals.map eSig), .lst (n.wires.map eWire), .lst ((rowsOf (c.codes.map PV.str).length (c.signals.map eSig).length ars).map pRow)], .bool true]) else none
   | none => none
  | false => some (PV.tup [.agg [.lst [], .lst [], .lst [], .lst [], .lst [], .lst []], .bool false])) = _
 rw [hgo]
 cases hg : goP c n
 ·rfl
 ·have h := goP_go hg hc hn
  have ha : arcsOf (c.arcs.map eArc) = some (c.arcs.map arcQ) := by
   have : c.arcs.map eArc = (c.arcs.map arcQ).map pArc := by rw [List.map_map]; rfl
   rw [this, arcsOf_map]
  dsimp only
  rw [ha]
  dsimp only
  rw [if_pos]
  ·simp only [if_true, List.length_map]; rfl
  ·simp only [List.length_map]
   have h1 := h.sone
   have h2 := h.smany
   have h3 := h.many
   refine ⟨h1, by omega, by omega, List.all_eq_true.2 fun q hq => ?_⟩
   obtain ⟨a, ha, rfl⟩ := List.mem_map.1 hq
   have := h.arcs a ha
   unfold arcFits arcQ
   simp only [decide_eq_true_eq]
   omega
def ePs (b : PSt) : PV := .agg [pI b.state, .str b.values]
def eFl (f : Flip) : PV := .agg [pI f.from_, pI f.wire, pI f.to]
def ePr (p : ProdG) : PV := .agg [.lst (p.states.map ePs), .lst (p.flips.map eFl), .lst (p.extra.map eFl)]
theorem pv_3_2 (a b c d e f : PV) : partV true 3 2 [a, b, c, d, e, f] = some (.agg [d, e]) := rfl
theorem spl6' (a b c d e f a' b' c' d' e' f' : PV) : splice [a, b, c, d, e, f] 0 [a', b', c', d', e', f'] = [a', b', c', d', e', f'] := rfl
theorem pv_6 (a b c d e f : PV) : partV true 0 6 [a, b, c, d, e, f] = some (.agg [a, b, c, d, e, f]) := rfl
theorem Go1.vals {c : PSG} {n : PNet} (h : Go1 c n) {v : List UInt8} (hb : bitsP v n.wires.length = true) : valuesP n v = true ∧ Fits v ∧ v.length = n.wires.length ∧ n.wires.length ≤ 24 ∧ n.signals.length ≤ n.wires.length ∧ n.signals.length = c.signals.length := by
 have h1 := netP_size h.net
 have h2 := (bitsP_iff.1 hb).2
 refine ⟨by unfold valuesP; rw [h.net, hb]; rfl, by unfold Fits; omega, h2, h1.2, h1.1, by rw [h.same]⟩
theorem Go1.code {c : PSG} {n : PNet} (h : Go1 c n) : ∃ x, c.codes[0]? = some x ∧ bitsP x n.signals.length = true := by
 have h1 := h.one
 refine ⟨c.codes[0], List.getElem?_eq_getElem (by omega), ?_⟩
 rw [← h.same]
 exact h.bits _ (List.getElem_mem _)
def firstP (c : PSG) (n : PNet) : PSt := ⟨0, settleP n (c.codes.getD 0 [])⟩
theorem p_r_l20First (c : PSG) (n : PNet) (h : Go1 c n) : s_r_l20First [eSG c, eNet n] = some (ePs (firstP c n)) := by
 obtain ⟨x, hx, hb⟩ := h.code
 have g := p_r_l19Settle n x h.fitn h.net hb
 have hi : idxV (.lst (c.codes.map PV.str)) (.int .i64 ((0 : Nat) : Int)) = some (.str x) := idx_map hx
 show (fun x0 x1 => s_r_l20First [x0, x1]) _ _ = _
 rw [sh_r_l20First]
 unfold firstP
 rw [List.getD_eq_getElem?_getD, hx]
 simp only [Int.natCast_zero] at hi
 simp only [eNet] at g
 simp only [eSG, eNet, pv_t2, hi, g, EVS]
 rfl
theorem p_i_initial (c : PSG) (n : PNet) (h : Go1 c n) : s_i_system_initial [eSys c n] = some (ePs (firstP c n)) := by
 obtain ⟨x, hx, hb⟩ := h.code
 have g := p_i_settle n x h.fitn h.net hb
 have hi : idxV (.lst (c.codes.map PV.str)) (.int .i64 ((0 : Nat) : Int)) = some (.str x) := idx_map hx
 show (fun x0 => s_i_system_initial [x0]) _ = _
 rw [sh_i_system_initial]
 unfold firstP
 rw [List.getD_eq_getElem?_getD, hx]
 simp only [Int.natCast_zero] at hi
 simp only [eNet] at g
 simp only [eSys, pv_3_2, hi, g, EVS]
 rfl
theorem rows_at (c : PSG) {k : Nat} (hk : k < c.codes.length) : ∃ row, (rowsC c)[k]? = some row ∧ row.length = c.signals.length ∧ ∀ s, toC c k s = row.getD s (-1) := by
 have hl : (rowsC c).length = c.codes.length := rowsOf_len _ _ _
 refine ⟨(rowsC c)[k]'(by omega), List.getElem?_eq_getElem _, rowsOf_row _ _ _ _ (List.getElem_mem _), fun s => ?_⟩
 unfold toC cellOf
 rw [List.getD_eq_getElem?_getD (l := rowsC c), List.getElem?_eq_getElem (by omega)]
 rfl
theorem rows_idx (c : PSG) {k s : Nat} (hk : k < c.codes.length) (hs : s < c.signals.length) : ∃ row : List PV, idxV (.lst ((rowsC c).map pRow)) (.int .i64 (k : Int)) = some (.lst row) ∧ idxV (.lst row) (.int .i64 (s : Int)) = some (pI (toC c k s)) := by
 obtain ⟨row, h1, h2, h3⟩ := rows_at c hk
 refine ⟨row.map pI, idx_map h1, ?_⟩
 refine idxV_at ?_
 rw [h3 s, List.getElem?_map, List.getElem?_eq_getElem (by omega), List.getD_eq_getElem?_getD, List.getElem?_eq_getElem (by omega)]
 rfl
def kindAt (n : PNet) (k : Nat) : Int := match n.wires[k]? with | some w => w.kind | none => 0
def inAt (n : PNet) (k : Nat) : Bool := match n.signals[k]? with | some s => decide (s.2 = 1) | none => false
theorem kind_in {n : PNet} (hv : netP n = true) {k : Nat} (hk : k < n.signals.length) : decide (kindAt n k = 1) = inAt n k := by
 have hs := (netP_size hv).1
 have hw : n.wires[k]? = some n.wires[k] := List.getElem?_eq_getElem (by omega)
 have hsg : n.signals[k]? = some n.signals[k] := List.getElem?_eq_getElem hk
 unfold kindAt inAt
 rw [hw, hsg]
 unfold netP at hv
 simp only [Bool.and_eq_true] at hv
 have h1 := allK_at _ _ _ hv.2 k _ hw
 rw [Nat.zero_add] at h1
 unfold netWireOk wireP wireSeen at h1
 have hd : decide ((k : Int) < (n.signals.length : Int)) = true := by simp only [decide_eq_true_eq]; omega
 rw [hd, hsg] at h1
 simp only [Bool.and_eq_true, Bool.not_true, Bool.false_or, beq_iff_eq] at h1
 exact h1.1.1.1.2.2
def canK (c : PSG) (n : PNet) (s : Nat) (v : List UInt8) (k : Nat) : Bool := if n.signals.length ≤ k then excitedAt n v k else decide (0 ≤ toC c s k) && (decide (kindAt n k = 1) || excitedAt n v k)
theorem p_i_canFlip (c : PSG) (n : PNet) (h : Go1 c n) (s : Nat) (v : List UInt8) (k : Nat) (hs : s < c.codes.length) (hb : bitsP v n.wires.length = true) (hk : k < n.wires.length) : s_i_system_canFlip [eSys c n, ePs ⟨s, v⟩, pI (k : Int)] = some (pB (canK c n s v k)) := by
 obtain ⟨h1, h2, h3, h4, h5, h6⟩ := h.vals hb
 have g := p_i_isExcitedWire n v k h.fitn h2 h1 hk
 simp only [eNet] at g
 show (fun x0 x1 x2 => s_i_system_canFlip [x0, x1, x2]) _ _ _ = _
 rw [sh_i_system_canFlip]
 unfold canK
 by_cases c1 : n.signals.length ≤ k
 ·have hd : decide ((n.signals.length : Int) ≤ (k : Int)) = true := by simp only [decide_eq_true_eq]; omega
  rw [if_pos c1]
  simp only [eSys, ePs, List.length_map, hd, pv_3_2, g, EVS]
 ·have hd : decide ((n.signals.length : Int) ≤ (k : Int)) = false := by simp only [decide_eq_false_iff_not]; omega
  obtain ⟨row, r1, r2⟩ := rows_idx c hs (show k < c.signals.length by omega)
  have hw : idxV (.lst (n.wires.map eWire)) (.int .i64 (k : Int)) = some (eWire n.wires[k]) := idx_map (List.getElem?_eq_getElem hk)
  have hkd : kindAt n k = n.wires[k].kind := by unfold kindAt; rw [List.getElem?_eq_getElem hk]
  rw [if_neg c1, hkd]
  cases c2 : decide (0 ≤ toC c s k) <;> cases c3 : decide (n.wires[k].kind = 1) <;> simp only [eSys, ePs, List.length_map, hd, pv_3_2, r1, r2, c2, c3, hw, eWire, List.drop_succ_cons, List.drop_zero, g, EVS]
def flB (b : UInt8) : UInt8 := if b = 48 then 49 else 48
def flipV (v : List UInt8) (k : Nat) : List UInt8 := v.set k (flB (v.getD k 48))
def flipK (c : PSG) (n : PNet) (s : Nat) (v : List UInt8) (k : Nat) : PSt := ⟨if k < n.signals.length then toC c s k else s, flipV v k⟩
theorem flB_bit (b : UInt8) : bitB (flB b) = true := by unfold flB; split <;> decide
theorem flipV_bits {v : List UInt8} {N k : Nat} (h : bitsP v N = true) : bitsP (flipV v k) N = true := by
 rw [bitsP_iff] at h ⊢
 refine ⟨fun b hb => ?_, by unfold flipV; rw [List.length_set]; exact h.2⟩
 unfold flipV at hb
 rcases List.mem_or_eq_of_mem_set hb with hb | rfl
 ·exact h.1 b hb
 ·exact flB_bit _
theorem xor_bit {b : UInt8} (h : bitB b = true) : binV .xor (TD.int .u8) (pU b) (.int .u8 1) = some (pU (flB b)) := by
 rcases (bitB_iff b).1 h with rfl | rfl <;> rfl
theorem p_i_flip (c : PSG) (n : PNet) (h : Go1 c n) (s : Nat) (v : List UInt8) (k : Nat) (hs : s < c.codes.length) (hb : bitsP v n.wires.length = true) (hk : k < n.wires.length) : s_i_system_flip [eSys c n, ePs ⟨s, v⟩, pI (k : Int)] = some (ePs (flipK c n s v k)) := by
 obtain ⟨h1, h2, h3, h4, h5, h6⟩ := h.vals hb
 have hc := convB_s v h2
 have hvk : v[k]? = some v[k] := List.getElem?_eq_getElem (by omega)
 have p1 : plcV (v.map pU) (.int .i64 (k : Int)) = some (.int .i64 (k : Int)) := plc_at (by rw [List.length_map]; omega)
 have q1 : (v.map pU)[k]? = some (pU v[k]) := by rw [List.getElem?_map, hvk]; rfl
 have hx := xor_bit ((bitsP_iff.1 hb).1 v[k] (List.getElem_mem _))
 have hse : storeEl 0 1 [pU v[k]] (pU v[k]) (pU (flB v[k])) = some (pU (flB v[k])) := rfl
 have st : (v.map pU).set k (pU (flB v[k])) = (v.set k (flB v[k])).map pU := set_map pU v k _
 have hbo := bytesOf_map (v.set k (flB v[k]))
 have hfv : flipV v k = v.set k (flB v[k]) := by unfold flipV; rw [List.getD_eq_getElem?_getD, hvk]; rfl
 show (fun x0 x1 x2 => s_i_system_flip [x0, x1, x2]) _ _ _ = _
 rw [sh_i_system_flip]
 unfold flipK
 rw [hfv]
 by_cases c1 : k < n.signals.length
 ·have hd : decide ((k : Int) < (n.signals.length : Int)) = true := by simp only [decide_eq_true_eq]; omega
  obtain ⟨row, r1, r2⟩ := rows_idx c hs (show k < c.signals.length by omega)
  rw [if_pos c1]
  simp only [eSys, ePs, List.length_map, hc, p1, q1, Int.toNat_natCast, hx, hse, st, hbo, hd, r1, r2, EVS]
 ·have hd : decide ((k : Int) < (n.signals.length : Int)) = false := by simp only [decide_eq_false_iff_not]; omega
  rw [if_neg c1]
  simp only [eSys, ePs, List.length_map, hc, p1, q1, Int.toNat_natCast, hx, hse, st, hbo, hd, EVS]
theorem p_r_l20Other (v : List UInt8) (k : Nat) (hk : k < v.length) (hv : Fits v) : s_r_l20Other [.str v, pI (k : Int)] = some (.str (flipV v k)) := by
 have hvk : v[k]? = some v[k] := List.getElem?_eq_getElem hk
 have hb : byteV (.str v) (.int .i64 (k : Int)) = some (pU v[k]) := byteV_at hvk
 have g1 := p_r_l5Bit (decide ((v[k].toNat : Int) = 48))
 have g2 := p_r_l5Set v k (bitU (decide ((v[k].toNat : Int) = 48))) hk hv
 have hfb : bitU (decide ((v[k].toNat : Int) = 48)) = flB v[k] := by
  unfold flB
  have : ((v[k].toNat : Int) = 48) ↔ v[k] = 48 := by rw [← UInt8.toNat_inj]; exact Int.ofNat_inj
  by_cases c : v[k] = 48
  ·rw [if_pos c, decide_eq_true (this.2 c)]; rfl
  ·rw [if_neg c, decide_eq_false (fun e => c (this.1 e))]; rfl
 show (fun x0 x1 => s_r_l20Other [x0, x1]) _ _ = _
 rw [sh_r_l20Other]
 unfold flipV
 rw [List.getD_eq_getElem?_getD, hvk, Option.getD_some, ← hfb]
 simp only [hb, g1, g2, EVS]
theorem p_r_l1Has (l : List Int) (x : Int) (hl : Fits l) : s_r_l1Has [.lst (l.map pI), pI x] = some (pB (decide (x ∈ l))) := by
 unfold Fits at hl
 show (fun x0 x1 => s_r_l1Has [x0, x1]) _ _ = _
 rw [sh_r_l1Has]
 simp only [EVS]
 refine (congrArg (fun m : Option PV => m.bind fun r => if r.sc = true then some r else none) (rangeAll (R := PV) l (fun _ y => !decide (x = y)) (some (pB true)) (some (pB false)) _ hl (fun again k y hx => ?_) (fun again => ?_))).trans ?_
 ·have hk := lt_of_some hx
  have hi : idxV (.lst (l.map pI)) (.int .i64 (k : Int)) = some (pI y) := idx_map hx
  have he : decide (y = x) = decide (x = y) := by rw [Bool.eq_iff_iff, decide_eq_true_eq, decide_eq_true_eq]; exact eq_comm
  simp only [lt_d hk, next_w hk hl, hi, he, EVS]
  cases decide (x = y) <;> simp only [EVS]
 ·simp only [ge_d, EVS]
 ·rw [all_not_mem]
  cases decide (x ∈ l) <;> rfl
theorem mem_pickTo (good : Nat → Bool) (N k : Nat) (hk : k < N) : decide ((k : Int) ∈ pickTo good N) = good k := by
 unfold pickTo
 rw [Bool.eq_iff_iff, decide_eq_true_eq, List.mem_map]
 constructor
 ·rintro ⟨i, hi, he⟩
  rw [List.mem_filter] at hi
  have : i = k := by have : (i : Int) = (k : Int) := he; omega
  rw [← this]
  exact hi.2
 ·intro h
  exact ⟨k, List.mem_filter.2 ⟨List.mem_range.2 hk, h⟩, rfl⟩
def canL (c : PSG) (n : PNet) (s : Nat) (v : List UInt8) (k : Nat) : List Nat := (List.range k).filter (canK c n s v)
def extraK (c : PSG) (n : PNet) (s : Nat) (v : List UInt8) (k : Nat) : Bool := decide (k < n.signals.length) && ((!decide (kindAt n k = 1) && decide (toC c s k < 0)) && excitedAt n v k)
def extraL (c : PSG) (n : PNet) (s : Nat) (v : List UInt8) (k : Nat) : List Nat := (List.range k).filter (extraK c n s v)
def eNn (i : Nat) : PV := pI (i : Int)
theorem filt_yes {good : Nat → Bool} {k : Nat} (h : good k = true) : (List.range (k + 1)).filter good = (List.range k).filter good ++ [k] := by
 rw [List.range_succ, List.filter_append]; simp [h]
theorem filt_no {good : Nat → Bool} {k : Nat} (h : good k = false) : (List.range (k + 1)).filter good = (List.range k).filter good := by
 rw [List.range_succ, List.filter_append]; simp [h]
theorem filt_len (good : Nat → Bool) (k : Nat) : ((List.range k).filter good).length ≤ k := by
 have := List.length_filter_le good (List.range k)
 simpa using this
theorem p_i_successors (c : PSG) (n : PNet) (h : Go1 c n) (s : Nat) (v : List UInt8) (hs : s < c.codes.length) (hb : bitsP v n.wires.length = true) :
 s_i_system_successors [eSys c n, ePs ⟨s, v⟩] = some (.tup [.lst ((canL c n s v n.wires.length).map fun k => ePs (flipK c n s v k)), .lst ((canL c n s v n.wires.length).map eNn)]) := by
 obtain ⟨h1, h2, h3, h4, h5, h6⟩ := h.vals hb
 show (fun x0 x1 => s_i_system_successors [x0, x1]) _ _ = _
 rw [sh_i_system_successors]
 simp only [eSys, ePs, List.length_map, EVS]
 refine (gatherLoop (R := PV) 0 n.wires.length (fun k => [.lst ((canL c n s v k).map eNn), .lst ((canL c n s v k).map fun k => ePs (flipK c n s v k)), pI (Int.ofNat k)]) (some (.tup [.lst ((canL c n s v n.wires.length).map fun k => ePs (flipK c n s v k)), .lst ((canL c n s v n.wires.length).map eNn)])) _ (by omega) (fun again k k1 k2 => ?_) (fun again => ?_) (Nat.zero_le _) _ (by simp [canL]))
 ·have a1 := p_i_canFlip c n h s v k hs hb k2
  have a2 := p_i_flip c n h s v k hs hb k2
  have hcl : (canL c n s v k).length ≤ k := filt_len _ k
  simp only [eSys, ePs] at a1 a2
  have hm : n.wires.length ≤ 9223372036854775807 := by omega
  have hla : (canL c n s v k).length + [ePs (flipK c n s v k)].length ≤ 4294967296 ∧ [ePs (flipK c n s v k)].all (okEl 2) = true := ⟨by simp; omega, rfl⟩
  have hlb : (canL c n s v k).length + [pI (k : Int)].length ≤ 4294967296 ∧ [pI (k : Int)].all (okEl 1) = true := ⟨by simp; omega, rfl⟩
  simp only [ePs] at hla
  simp only [lt_d k2, pv_6, a1, EVS]
  cases hE : canK c n s v k
  ·have e1 : canL c n s v (k + 1) = canL c n s v k := filt_no hE
   simp only [next_w k2 hm, e1, EVS]
  ·have e1 : canL c n s v (k + 1) = canL c n s v k ++ [k] := filt_yes hE
   simp only [a2, if_pos hla, if_pos hlb, next_w k2 hm, e1, pv_6, List.map_append, List.map_cons, List.map_nil, eNn, EVS]
   rfl
 ·simp only [ge_d, EVS]
theorem extraL_all (c : PSG) (n : PNet) (s : Nat) (v : List UInt8) : ∀ (k : Nat), n.signals.length ≤ k → extraL c n s v k = extraL c n s v n.signals.length := by
 intro k hk
 induction k with
 | zero => have : n.signals.length = 0 := by omega
           rw [this]
 | succ k ih =>
  by_cases c1 : n.signals.length ≤ k
  ·have : extraK c n s v k = false := by unfold extraK; rw [decide_eq_false (by omega)]; rfl
   rw [← ih c1]
   exact filt_no this
  ·rw [show n.signals.length = k + 1 by omega]
theorem p_i_unexpected (c : PSG) (n : PNet) (h : Go1 c n) (s : Nat) (v : List UInt8) (hs : s < c.codes.length) (hb : bitsP v n.wires.length = true) :
 s_i_system_unexpected [eSys c n, ePs ⟨s, v⟩] = some (.lst ((extraL c n s v n.wires.length).map eNn)) := by
 obtain ⟨h1, h2, h3, h4, h5, h6⟩ := h.vals hb
 rw [extraL_all c n s v _ h5]
 show (fun x0 x1 => s_i_system_unexpected [x0, x1]) _ _ = _
 rw [sh_i_system_unexpected]
 simp only [eSys, ePs, List.length_map, EVS]
 refine (gatherLoop (R := PV) 0 n.signals.length (fun k => [.lst ((extraL c n s v k).map eNn), pI (Int.ofNat k)]) (some (.lst ((extraL c n s v n.signals.length).map eNn))) _ (by omega) (fun again k k1 k2 => ?_) (fun again => ?_) (Nat.zero_le _) _ (by simp [extraL]))
 ·have hkw : k < n.wires.length := by omega
  have g := p_i_isExcitedWire n v k h.fitn h2 h1 hkw
  simp only [eNet] at g
  have hcl : (extraL c n s v k).length ≤ k := filt_len _ k
  have hm : n.signals.length ≤ 9223372036854775807 := by omega
  have hlb : (extraL c n s v k).length + [pI (k : Int)].length ≤ 4294967296 ∧ [pI (k : Int)].all (okEl 1) = true := ⟨by simp; omega, rfl⟩
  obtain ⟨row, r1, r2⟩ := rows_idx c hs (show k < c.signals.length by omega)
  have hw : idxV (.lst (n.wires.map eWire)) (.int .i64 (k : Int)) = some (eWire n.wires[k]) := idx_map (List.getElem?_eq_getElem hkw)
  have hkd : kindAt n k = n.wires[k].kind := by unfold kindAt; rw [List.getElem?_eq_getElem hkw]
  have hE : extraK c n s v k = ((!decide (n.wires[k].kind = 1) && decide (toC c s k < 0)) && excitedAt n v k) := by unfold extraK; rw [decide_eq_true k2, hkd]; rfl
  cases c2 : decide (n.wires[k].kind = 1) <;> cases c3 : decide (toC c s k < 0) <;> cases c4 : excitedAt n v k <;> rw [c2, c3, c4] at hE <;>
   simp only [Bool.not_true, Bool.not_false, Bool.and_true, Bool.and_false, Bool.true_and, Bool.false_and] at hE
  all_goals first
   | (have e1 : extraL c n s v (k + 1) = extraL c n s v k := filt_no hE
      simp only [lt_d k2, hw, eWire, List.drop_succ_cons, List.drop_zero, c2, c3, c4, r1, r2, pv_3_2, g, next_w k2 hm, e1, EVS])
   | (have e1 : extraL c n s v (k + 1) = extraL c n s v k ++ [k] := filt_yes hE
      simp only [lt_d k2, hw, eWire, List.drop_succ_cons, List.drop_zero, c2, c3, c4, r1, r2, pv_3_2, g, if_pos hlb, next_w k2 hm, e1, List.map_append, List.map_cons, List.map_nil, eNn, EVS])
 ·simp only [ge_d, EVS]
theorem p_r_l20Next (c : PSG) (n : PNet) (h : Go1 c n) (s : Nat) (v : List UInt8) (hs : s < c.codes.length) (hb : bitsP v n.wires.length = true) :
 s_r_l20Next [eSG c, eNet n, ePs ⟨s, v⟩] = some (.tup [.lst ((canL c n s v n.wires.length).map fun k => ePs (flipK c n s v k)), .lst ((canL c n s v n.wires.length).map eNn), .lst ((extraL c n s v n.wires.length).map eNn)]) := by
 obtain ⟨h1, h2, h3, h4, h5, h6⟩ := h.vals hb
 have g0 := p_r_l19Excited n v h.fitn h2 h1 (by omega)
 simp only [eNet] at g0
 show (fun x0 x1 x2 => s_r_l20Next [x0, x1, x2]) _ _ _ = _
 rw [sh_r_l20Next]
 simp only [eSG, eNet, ePs, pv_t2, g0, List.length_map, EVS]
 refine (gatherLoop (R := PV) 0 n.wires.length (fun k => [.lst ((canL c n s v k).map fun k => ePs (flipK c n s v k)), .lst ((canL c n s v k).map eNn), .lst ((extraL c n s v k).map eNn), pI (Int.ofNat k)]) (some (.tup [.lst ((canL c n s v n.wires.length).map fun k => ePs (flipK c n s v k)), .lst ((canL c n s v n.wires.length).map eNn), .lst ((extraL c n s v n.wires.length).map eNn)])) _ (by omega) (fun again k k1 k2 => ?_) (fun again => ?_) (Nat.zero_le _) _ (by simp [canL, extraL]))
 ·have g1 := p_r_l1Has (pickTo (excitedAt n v) n.wires.length) k (by unfold Fits; have := pickTo_len (excitedAt n v) n.wires.length; omega)
  rw [mem_pickTo _ _ _ k2] at g1
  have g2 := p_r_l20Other v k (by omega) h2
  have hcl : (canL c n s v k).length ≤ k := filt_len _ k
  have hcx : (extraL c n s v k).length ≤ k := filt_len _ k
  have hm : n.wires.length ≤ 9223372036854775807 := by omega
  have hlb : (canL c n s v k).length + [pI (k : Int)].length ≤ 4294967296 ∧ [pI (k : Int)].all (okEl 1) = true := ⟨by simp; omega, rfl⟩
  have hlx : (extraL c n s v k).length + [pI (k : Int)].length ≤ 4294967296 ∧ [pI (k : Int)].all (okEl 1) = true := ⟨by simp; omega, rfl⟩
  by_cases c1 : k < n.signals.length
  ·have hd := lt_d c1
   have hsg : idxV (.lst (n.signals.map eSig)) (.int .i64 (k : Int)) = some (eSig n.signals[k]) := idx_map (List.getElem?_eq_getElem c1)
   have hin : inAt n k = decide (n.signals[k].2 = 1) := by unfold inAt; rw [List.getElem?_eq_getElem c1]
   have hki := kind_in h.net c1
   rw [hin] at hki
   have g3 := p_r_l20To c n s k h hs (by omega)
   simp only [eSG] at g3
   have hla : (canL c n s v k).length + [PV.agg [pI (toC c s k), .str (flipV v k)]].length ≤ 4294967296 ∧ [PV.agg [pI (toC c s k), .str (flipV v k)]].all (okEl 2) = true := ⟨by simp; omega, rfl⟩
   have hfl : flipK c n s v k = ⟨toC c s k, flipV v k⟩ := by unfold flipK; rw [if_pos c1]
   have hE : canK c n s v k = (decide (0 ≤ toC c s k) && (decide (n.signals[k].2 = 1) || excitedAt n v k)) := by unfold canK; rw [if_neg (by omega), hki]
   have hX : extraK c n s v k = ((!decide (n.signals[k].2 = 1) && decide (toC c s k < 0)) && excitedAt n v k) := by unfold extraK; rw [decide_eq_true c1, hki]; rfl
   by_cases c3 : 0 ≤ toC c s k
   ·have c3' : decide (0 ≤ toC c s k) = true := decide_eq_true c3
    have c3'' : decide (toC c s k < 0) = false := decide_eq_false (by omega)
    rw [c3'] at hE
    rw [c3''] at hX
    simp only [Bool.and_false, Bool.false_and, Bool.true_and] at hE hX
    have e2 : extraL c n s v (k + 1) = extraL c n s v k := filt_no hX
    cases c2 : decide (n.signals[k].2 = 1) <;> cases c4 : excitedAt n v k <;> rw [c2, c4] at hE <;> rw [c4] at g1 <;> simp only [Bool.or_true, Bool.or_false, Bool.true_or, Bool.false_or] at hE
    ·have e1 : canL c n s v (k + 1) = canL c n s v k := filt_no hE
     simp only [lt_d k2, hd, hsg, pv_t3, g3, g1, c2, c3', List.drop_succ_cons, List.drop_zero, next_w k2 hm, e1, e2, EVS]
    ·have e1 : canL c n s v (k + 1) = canL c n s v k ++ [k] := filt_yes hE
     simp only [lt_d k2, hd, hsg, pv_t3, g3, g2, g1, c2, c3', List.drop_succ_cons, List.drop_zero, if_pos hla, if_pos hlb, next_w k2 hm, e1, e2, hfl, ePs, List.map_append, List.map_cons, List.map_nil, eNn, EVS]
    ·have e1 : canL c n s v (k + 1) = canL c n s v k ++ [k] := filt_yes hE
     simp only [lt_d k2, hd, hsg, pv_t3, g3, g2, g1, c2, c3', List.drop_succ_cons, List.drop_zero, if_pos hla, if_pos hlb, next_w k2 hm, e1, e2, hfl, ePs, List.map_append, List.map_cons, List.map_nil, eNn, EVS]
    ·have e1 : canL c n s v (k + 1) = canL c n s v k ++ [k] := filt_yes hE
     simp only [lt_d k2, hd, hsg, pv_t3, g3, g2, g1, c2, c3', List.drop_succ_cons, List.drop_zero, if_pos hla, if_pos hlb, next_w k2 hm, e1, e2, hfl, ePs, List.map_append, List.map_cons, List.map_nil, eNn, EVS]
   ·have c3' : decide (0 ≤ toC c s k) = false := decide_eq_false c3
    have c3'' : decide (toC c s k < 0) = true := decide_eq_true (by omega)
    rw [c3'] at hE
    rw [c3''] at hX
    simp only [Bool.and_true, Bool.false_and, Bool.true_and] at hE hX
    have e1 : canL c n s v (k + 1) = canL c n s v k := filt_no hE
    cases c2 : decide (n.signals[k].2 = 1) <;> cases c4 : excitedAt n v k <;> rw [c2, c4] at hX <;> rw [c4] at g1 <;> simp only [Bool.not_true, Bool.not_false, Bool.and_true, Bool.and_false, Bool.true_and, Bool.false_and] at hX
    ·have e2 : extraL c n s v (k + 1) = extraL c n s v k := filt_no hX
     simp only [lt_d k2, hd, hsg, pv_t3, g3, g1, c2, c3', List.drop_succ_cons, List.drop_zero, next_w k2 hm, e1, e2, EVS]
    ·have e2 : extraL c n s v (k + 1) = extraL c n s v k ++ [k] := filt_yes hX
     simp only [lt_d k2, hd, hsg, pv_t3, g3, g1, c2, c3', List.drop_succ_cons, List.drop_zero, if_pos hlx, next_w k2 hm, e1, e2, List.map_append, List.map_cons, List.map_nil, eNn, EVS]
    ·have e2 : extraL c n s v (k + 1) = extraL c n s v k := filt_no hX
     simp only [lt_d k2, hd, hsg, pv_t3, g3, g1, c2, c3', List.drop_succ_cons, List.drop_zero, next_w k2 hm, e1, e2, EVS]
    ·have e2 : extraL c n s v (k + 1) = extraL c n s v k := filt_no hX
     simp only [lt_d k2, hd, hsg, pv_t3, g3, g1, c2, c3', List.drop_succ_cons, List.drop_zero, next_w k2 hm, e1, e2, EVS]
  ·have hd : decide ((k : Int) < (n.signals.length : Int)) = false := by simp only [decide_eq_false_iff_not]; omega
   have hE : canK c n s v k = excitedAt n v k := by unfold canK; rw [if_pos (by omega)]
   have hX : extraK c n s v k = false := by unfold extraK; rw [decide_eq_false c1]; rfl
   have e2 : extraL c n s v (k + 1) = extraL c n s v k := filt_no hX
   have hfl : flipK c n s v k = ⟨(s : Int), flipV v k⟩ := by unfold flipK; rw [if_neg c1]
   have hla : (canL c n s v k).length + [PV.agg [pI (s : Int), .str (flipV v k)]].length ≤ 4294967296 ∧ [PV.agg [pI (s : Int), .str (flipV v k)]].all (okEl 2) = true := ⟨by simp; omega, rfl⟩
   have hge : decide (0 ≤ (s : Int)) = true := decide_eq_true (by omega)
   cases c4 : excitedAt n v k <;> rw [c4] at hE g1
   ·have e1 : canL c n s v (k + 1) = canL c n s v k := filt_no hE
    simp only [lt_d k2, hd, pv_t3, g1, hge, next_w k2 hm, e1, e2, EVS]
   ·have e1 : canL c n s v (k + 1) = canL c n s v k ++ [k] := filt_yes hE
    simp only [lt_d k2, hd, pv_t3, g2, g1, hge, if_pos hla, if_pos hlb, next_w k2 hm, e1, e2, hfl, ePs, List.map_append, List.map_cons, List.map_nil, eNn, EVS]
 ·simp only [ge_d, EVS]
def StB (c : PSG) (n : PNet) (b : PSt) : Prop := ∃ s : Nat, b.state = s ∧ s < c.codes.length ∧ bitsP b.values n.wires.length = true
def addF (k : Nat) (P : ProdG) (w : Nat) (b : PSt) : ProdG :=
 if b ∈ P.states then ⟨P.states, P.flips ++ [⟨k, w, (P.states.idxOf b : Nat)⟩], P.extra⟩ else ⟨P.states ++ [b], P.flips ++ [⟨k, w, (P.states.length : Nat)⟩], P.extra⟩
def inU (c : PSG) (n : PNet) (k s : Nat) (v : List UInt8) : List Nat → ProdG → ProdG
 | [], P => P
 | w :: r, P => inU c n k s v r (addF k P w (flipK c n s v w))
def exU (k : Nat) (l : List Nat) (P : ProdG) : ProdG := ⟨P.states, P.flips, P.extra ++ l.map fun w : Nat => ⟨(k : Int), (w : Int), -1⟩⟩
def rdU (c : PSG) (n : PNet) (k : Nat) (b : PSt) (P : ProdG) : ProdG :=
 exU k (extraL c n b.state.toNat b.values n.wires.length) (inU c n k b.state.toNat b.values (canL c n b.state.toNat b.values n.wires.length) P)
def outU (c : PSG) (n : PNet) : Nat → Nat → ProdG → Option ProdG
 | 0, _, P => some P
 | f + 1, k, P => match P.states[k]? with
  | none => some P
  | some b => if 600 < (rdU c n k b P).states.length then none else outU c n f (k + 1) (rdU c n k b P)
def prodU (c : PSG) (n : PNet) : Option ProdG := outU c n 601 0 ⟨[firstP c n], [], []⟩
theorem addF_len (k : Nat) (P : ProdG) (w : Nat) (b : PSt) : P.states.length ≤ (addF k P w b).states.length ∧ (addF k P w b).states.length ≤ P.states.length + 1 ∧ (addF k P w b).flips.length = P.flips.length + 1 ∧ (addF k P w b).extra = P.extra := by
 unfold addF
 split <;> simp
theorem inU_len (c : PSG) (n : PNet) (k s : Nat) (v : List UInt8) : ∀ (l : List Nat) (P : ProdG), P.states.length ≤ (inU c n k s v l P).states.length ∧ (inU c n k s v l P).states.length ≤ P.states.length + l.length ∧ (inU c n k s v l P).flips.length = P.flips.length + l.length ∧ (inU c n k s v l P).extra = P.extra
 | [], P => by simp [inU]
 | w :: r, P => by
  unfold inU
  obtain ⟨h1, h2, h3, h4⟩ := addF_len k P w (flipK c n s v w)
  obtain ⟨g1, g2, g3, g4⟩ := inU_len c n k s v r (addF k P w (flipK c n s v w))
  simp only [List.length_cons]
  refine ⟨by omega, by omega, by omega, g4.trans h4⟩
theorem addF_at {k : Nat} {P : ProdG} {w : Nat} {b x : PSt} {i : Nat} (h : P.states[i]? = some x) : (addF k P w b).states[i]? = some x := by
 unfold addF
 split
 ·exact h
 ·have := (List.getElem?_eq_some_iff.1 h).1
  show (P.states ++ [b])[i]? = _
  rw [List.getElem?_append_left this]
  exact h
theorem canL_lt {c : PSG} {n : PNet} {s : Nat} {v : List UInt8} {N w : Nat} (h : w ∈ canL c n s v N) : w < N ∧ canK c n s v w = true := by
 unfold canL at h
 rw [List.mem_filter] at h
 exact ⟨List.mem_range.1 h.1, h.2⟩
theorem flipK_ok {c : PSG} {n : PNet} (h : Go1 c n) {s : Nat} {v : List UInt8} {w : Nat} (hs : s < c.codes.length) (hb : bitsP v n.wires.length = true) (hw : canK c n s v w = true) : StB c n (flipK c n s v w) := by
 unfold flipK
 by_cases c1 : w < n.signals.length
 ·rw [if_pos c1]
  unfold canK at hw
  rw [if_neg (by omega), Bool.and_eq_true, decide_eq_true_eq] at hw
  have hsl : w < c.signals.length := by rw [h.same]; exact c1
  have := toC_in h hs hsl
  exact ⟨(toC c s w).toNat, by show toC c s w = _; omega, by omega, flipV_bits hb⟩
 ·rw [if_neg c1]
  exact ⟨s, rfl, hs, flipV_bits hb⟩
theorem addF_ok {c : PSG} {n : PNet} {k : Nat} {P : ProdG} {w : Nat} {b : PSt} (hP : ∀ x ∈ P.states, StB c n x) (hb : StB c n b) : ∀ x ∈ (addF k P w b).states, StB c n x := by
 unfold addF
 split
 ·exact hP
 ·intro x hx
  rcases List.mem_append.1 hx with hx | hx
  ·exact hP x hx
  ·rw [List.mem_singleton] at hx; subst hx; exact hb
theorem inU_ok {c : PSG} {n : PNet} (h : Go1 c n) {k s : Nat} {v : List UInt8} (hs : s < c.codes.length) (hb : bitsP v n.wires.length = true) : ∀ (l : List Nat) (P : ProdG), (∀ w ∈ l, canK c n s v w = true) → (∀ x ∈ P.states, StB c n x) → ∀ x ∈ (inU c n k s v l P).states, StB c n x
 | [], P, _, hP => hP
 | w :: r, P, hl, hP => inU_ok h hs hb r _ (fun x hx => hl x (List.mem_cons_of_mem _ hx)) (addF_ok hP (flipK_ok h hs hb (hl w List.mem_cons_self)))
theorem rdU_ok {c : PSG} {n : PNet} (h : Go1 c n) {k : Nat} {b : PSt} {P : ProdG} (hb : StB c n b) (hP : ∀ x ∈ P.states, StB c n x) : ∀ x ∈ (rdU c n k b P).states, StB c n x := by
 obtain ⟨s, h1, h2, h3⟩ := hb
 unfold rdU exU
 rw [h1, Int.toNat_natCast]
 exact inU_ok h h2 h3 _ _ (fun w hw => (canL_lt hw).2) hP
theorem settleGo_bits {n : PNet} {N : Nat} : ∀ (f k : Nat) (v : List UInt8), bitsP v N = true → bitsP (settleGo n f k v) N = true
 | 0, k, v, h => h
 | f + 1, k, v, h => by
  unfold settleGo
  exact settleGo_bits f _ _ (bits_set h _)
theorem firstP_ok {c : PSG} {n : PNet} (h : Go1 c n) : StB c n (firstP c n) := by
 obtain ⟨x, hx, hb⟩ := h.code
 refine ⟨0, rfl, by have := h.one; omega, ?_⟩
 unfold firstP settleP
 rw [List.getD_eq_getElem?_getD, hx]
 exact settleGo_bits _ _ _ (bits_pad hb (netP_size h.net).1)
theorem StB.mk' {c : PSG} {n : PNet} {b : PSt} (h : StB c n b) : ∃ s : Nat, b = ⟨(s : Int), b.values⟩ ∧ s < c.codes.length ∧ bitsP b.values n.wires.length = true := by
 obtain ⟨s, h1, h2, h3⟩ := h
 refine ⟨s, ?_, h2, h3⟩
 cases b
 simp only at h1
 rw [h1]
structure Pi (c : PSG) (n : PNet) (k : Nat) (P : ProdG) : Prop where
 ok : ∀ x ∈ P.states, StB c n x
 len : P.states.length ≤ 600
 fl : P.flips.length ≤ 24 * k
 ex : P.extra.length ≤ 24 * k
theorem extraL_len (c : PSG) (n : PNet) (s : Nat) (v : List UInt8) (N : Nat) : (extraL c n s v N).length ≤ N := filt_len _ _
theorem canL_len (c : PSG) (n : PNet) (s : Nat) (v : List UInt8) (N : Nat) : (canL c n s v N).length ≤ N := filt_len _ _
theorem Pi.next {c : PSG} {n : PNet} (h : Go1 c n) {k : Nat} {P : ProdG} (hP : Pi c n k P) {b : PSt} (hb : P.states[k]? = some b) (hl : ¬ 600 < (rdU c n k b P).states.length) : Pi c n (k + 1) (rdU c n k b P) := by
 have hbs := hP.ok b (List.mem_of_getElem? hb)
 have hn := (netP_size h.net).2
 have h1 := canL_len c n b.state.toNat b.values n.wires.length
 have h2 := extraL_len c n b.state.toNat b.values n.wires.length
 obtain ⟨g1, g2, g3, g4⟩ := inU_len c n k b.state.toNat b.values (canL c n b.state.toNat b.values n.wires.length) P
 have h3 := hP.fl
 have h4 := hP.ex
 refine ⟨rdU_ok h hbs hP.ok, by omega, ?_, ?_⟩
 ·show (inU c n k b.state.toNat b.values _ P).flips.length ≤ _
  omega
 ·show ((inU c n k b.state.toNat b.values _ P).extra ++ List.map _ _).length ≤ _
  rw [g4, List.length_append, List.length_map]
  omega
theorem eqStV (x y : PSt) : eqV (some [(0, TD.int IntKind.i64), (1, TD.str)]) TD.struct (.agg [pI x.state, .str x.values]) (.agg [pI y.state, .str y.values]) = some (decide (x = y)) := by
 have e : decide (x = y) = ((x.state == y.state) && ((x.values == y.values) && true)) := by
  rw [Bool.eq_iff_iff]
  cases x; cases y
  simp only [decide_eq_true_eq, Bool.and_eq_true, PSt.mk.injEq, beq_iff_eq, and_true]
 rw [e]
 show (some (x.state == y.state)).bind (fun b => (some ((x.values == y.values) && true)).map fun c => b && c) = _
 rfl
theorem ixf_idxOf (b : PSt) : ∀ (l : List PSt) (k : Nat), ixf (fun x => decide (x = b)) k l = if b ∈ l then ((k + l.idxOf b : Nat) : Int) else -1
 | [], k => by simp [ixf]
 | x :: r, k => by
  unfold ixf
  by_cases c : x = b
  ·subst c
   simp
  ·have h : (x :: r).idxOf b = r.idxOf b + 1 := by rw [List.idxOf_cons, beq_eq_false_iff_ne.2 c]; rfl
   have hm : b ∈ x :: r ↔ b ∈ r := by rw [List.mem_cons]; exact ⟨fun h => h.resolve_left (fun e => c e.symm), .inr⟩
   rw [decide_eq_false c, if_neg (by simp), ixf_idxOf b r (k + 1), h]
   simp only [hm]
   rw [show k + 1 + r.idxOf b = k + (r.idxOf b + 1) by omega]
theorem p_r_l20Find (l : List PSt) (b : PSt) (hl : Fits l) : s_r_l20Find [.lst (l.map ePs), ePs b] = some (pI (if b ∈ l then (l.idxOf b : Nat) else -1)) := by
 unfold Fits at hl
 show (fun x0 x1 => s_r_l20Find [x0, x1]) _ _ = _
 rw [sh_r_l20Find]
 simp only [ePs, EVS]
 refine (congrArg (fun m : Option PV => m.bind fun r => if r.sc = true then some r else none) (rangeIx l (fun x => decide (x = b)) _ hl (fun again k x hx => ?_) (fun again => ?_))).trans ?_
 ·have hk := lt_of_some hx
  have hi : idxV (.lst (l.map ePs)) (.int .i64 (k : Int)) = some (ePs x) := idx_map hx
  have he := eqStV x b
  have hf : (fun b : PSt => PV.agg [pI b.state, PV.str b.values]) = ePs := rfl
  simp only [ePs] at hi
  cases c : decide (x = b) <;> rw [c] at he <;> simp only [lt_d hk, next_w hk hl, hi, pv_t2, sp2, he, Bool.false_eq_true, if_false, if_true, EVS]
 ·simp only [ge_d, EVS]
  rfl
 ·rw [ixf_idxOf, Nat.zero_add]
  rfl
def zProd : PV := .agg [.lst [], .lst [], .lst []]
def stepR {R : Type} (c : PSG) (n : PNet) (k s : Nat) (v : List UInt8) (z : Option R) (P : ProdG) (_ : Nat) (w : Nat) : Sum ProdG (Option R) :=
 if flipK c n s v w ∉ P.states ∧ P.states.length = 600 then .inr z else .inl (addF k P w (flipK c n s v w))
theorem fold_stepR {R : Type} (c : PSG) (n : PNet) (k s : Nat) (v : List UInt8) (z : Option R) (e : ProdG → Option R) : ∀ (l : List Nat) (i : Nat) (P : ProdG), P.states.length ≤ 600 →
 foldGo (stepR c n k s v z) e i P l = if (inU c n k s v l P).states.length ≤ 600 then e (inU c n k s v l P) else z
 | [], i, P, h => by rw [show inU c n k s v [] P = P from rfl, if_pos h]; rfl
 | w :: r, i, P, h => by
  unfold foldGo stepR inU
  by_cases c1 : flipK c n s v w ∉ P.states ∧ P.states.length = 600
  ·rw [if_pos c1]
   have h1 : (addF k P w (flipK c n s v w)).states.length = 601 := by unfold addF; rw [if_neg c1.1]; simp [c1.2]
   have h2 := (inU_len c n k s v r (addF k P w (flipK c n s v w))).1
   rw [if_neg (by omega)]
  ·rw [if_neg c1]
   have h1 : (addF k P w (flipK c n s v w)).states.length ≤ 600 := by
    unfold addF
    split
    ·exact h
    ·rename_i hm
     have : P.states.length ≠ 600 := fun e => c1 ⟨hm, e⟩
     simp
     omega
   exact fold_stepR c n k s v z e r (i + 1) _ h1
theorem ex_fold {R : Type} (k : Nat) (e : ProdG → Option R) : ∀ (l : List Nat) (i : Nat) (P : ProdG), foldGo (fun (P : ProdG) (_ : Nat) (w : Nat) => .inl ⟨P.states, P.flips, P.extra ++ [⟨(k : Int), (w : Int), -1⟩]⟩) e i P l = e (exU k l P)
 | [], i, P => by cases P; simp [foldGo, exU]
 | w :: r, i, P => by
  show foldGo _ e (i + 1) _ r = _
  rw [ex_fold k e r]
  unfold exU
  simp [List.append_assoc]
theorem spl3' (a b c x y z : PV) : splice (splice (splice [a, b, c] 0 [x]) 1 [y]) 2 [z] = [x, y, z] := rfl
theorem grp3 (a b c x y z : PV) : grpSt [a, b, c] 0 (.agg [x, y, z]) = some (.agg [x, y, z]) := rfl
theorem sp_3 (a b c x y z : PV) : splice [a, b, c] 0 [x, y, z] = [x, y, z] := rfl
def prR (r : Option ProdG) : PV := match r with | some P => .tup [ePr P, pB true] | none => .tup [zProd, pB false]
theorem p_r_l20Product (c : PSG) (n : PNet) (h : Go1 c n) : s_r_l20Product [eSG c, eNet n] = some (prR (prodU c n)) := by
 have g0 := p_r_l20First c n h
 have hn24 := (netP_size h.net).2
 show (fun x0 x1 => s_r_l20Product [x0, x1]) _ _ = _
 rw [sh_r_l20Product]
 simp only [eSG, eNet, ePs] at g0
 simp only [eSG, eNet, pv_t2, pv_t3, g0, sp_3, grp3, EVS]
 unfold prodU
 refine (loopR_go (R := PV) (fun q : {q : ProdG × Nat // Pi c n q.2 q.1 ∧ q.2 ≤ q.1.states.length} => [ePr q.1.1, pI (Int.ofNat q.1.2)]) (fun q => 601 - q.1.2) (fun q => some (prR (outU c n (601 - q.1.2) q.1.2 q.1.1))) _ (fun again q ih => ?_) _ ⟨(⟨[firstP c n], [], []⟩, 0), ⟨fun x hx => by rw [List.mem_singleton] at hx; subst hx; exact firstP_ok h, by simp, by simp, by simp⟩, by simp⟩ (by simp only; omega))
 obtain ⟨⟨P, k⟩, hP, hk⟩ := q
 dsimp only at ih hP hk ⊢
 have hlen := hP.len
 by_cases ck : k < P.states.length
 ·obtain ⟨b, hb⟩ : ∃ b, P.states[k]? = some b := ⟨P.states[k], List.getElem?_eq_getElem ck⟩
  obtain ⟨s, hbe, hs, hbits⟩ := (hP.ok b (List.mem_of_getElem? hb)).mk'
  obtain ⟨v, hv⟩ : ∃ v, b.values = v := ⟨_, rfl⟩
  rw [hv] at hbe hbits
  subst hbe
  have g1 := p_r_l20Next c n h s v hs hbits
  have p1 : plcV (P.states.map ePs) (.int .i64 (k : Int)) = some (.int .i64 (k : Int)) := plc_at (by rw [List.length_map]; exact ck)
  have q1 : (P.states.map ePs)[k]? = some (.agg [pI (s : Int), .str v]) := by rw [List.getElem?_map, hb]; rfl
  have hcl := canL_len c n s v n.wires.length
  have hxl := extraL_len c n s v n.wires.length
  simp only [eSG, eNet, ePs] at g1
  simp only [ePr, List.length_map, lt_d ck, p1, q1, Int.toNat_natCast, pv_t2, pv_t3, g1, EVS]
  have hst : outU c n (601 - k) k P = if 600 < (rdU c n k ⟨(s : Int), v⟩ P).states.length then none else outU c n (600 - k) (k + 1) (rdU c n k ⟨(s : Int), v⟩ P) := by
   rw [show 601 - k = (600 - k) + 1 by omega]
   show (match P.states[k]? with | none => some P | some b => _) = _
   rw [hb]
  rw [hst]
  obtain ⟨L, hL⟩ : ∃ L, canL c n s v n.wires.length = L := ⟨_, rfl⟩
  obtain ⟨X, hX⟩ : ∃ X, extraL c n s v n.wires.length = X := ⟨_, rfl⟩
  have hrd : rdU c n k ⟨(s : Int), v⟩ P = exU k X (inU c n k s v L P) := by unfold rdU; rw [Int.toNat_natCast, hL, hX]
  have hLok : ∀ w ∈ L, canK c n s v w = true := fun w hw => by rw [← hL] at hw; exact (canL_lt hw).2
  rw [hrd, hL, hX]
  rw [hL] at hcl
  rw [hX] at hxl
  refine (foldLoop (R := PV) L (fun (P : ProdG) i => [ePr P, pI (Int.ofNat i)]) (fun i Q => Q.states.length ≤ 600 ∧ Q.flips.length = P.flips.length + i ∧ Q.extra = P.extra) (stepR c n k s v (some (.tup [zProd, pB false]))) (fun Q => again [ePr (exU k X Q), pI (Int.ofNat (k + 1))]) _ (by omega) (fun Q i w Q' hi hw he => ?_) (fun again1 Q i w hi hw => ?_) (fun again1 Q hi => ?_) (b := P) ⟨hlen, rfl, rfl⟩).trans ((fold_stepR c n k s v _ _ L 0 P hlen).trans ?_)
  ·unfold stepR at he
   split at he
   ·cases he
   ·rename_i c1
    cases he
    obtain ⟨a1, a2, a3, a4⟩ := addF_len k Q w (flipK c n s v w)
    refine ⟨?_, by omega, a4.trans hi.2.2⟩
    unfold addF
    split
    ·exact hi.1
    ·rename_i hm
     have : Q.states.length ≠ 600 := fun e => c1 ⟨hm, e⟩
     have := hi.1
     simp
     omega
  ·have hil := lt_of_some hw
   obtain ⟨i1, i2, i3⟩ := hi
   have hPf := hP.fl
   have hix : idxV (.lst (L.map fun k => ePs (flipK c n s v k))) (.int .i64 (i : Int)) = some (ePs (flipK c n s v w)) := idx_map (enc := fun k => ePs (flipK c n s v k)) hw
   have hiw : idxV (.lst (L.map eNn)) (.int .i64 (i : Int)) = some (pI (w : Int)) := idx_map (enc := eNn) hw
   have g2 := p_r_l20Find Q.states (flipK c n s v w) (by unfold Fits; omega)
   obtain ⟨bb, hbb⟩ : ∃ bb, flipK c n s v w = bb := ⟨_, rfl⟩
   rw [hbb] at hix g2
   have hnx := next_w hil (show L.length ≤ 9223372036854775807 by omega)
   have hlb : Q.states.length + [PV.agg [pI bb.state, .str bb.values]].length ≤ 4294967296 ∧ [PV.agg [pI bb.state, .str bb.values]].all (okEl 2) = true := ⟨by simp; omega, rfl⟩
   have hla : ∀ t : Int, Q.flips.length + [PV.agg [pI (k : Int), pI (w : Int), pI t]].length ≤ 4294967296 ∧ [PV.agg [pI (k : Int), pI (w : Int), pI t]].all (okEl 3) = true := fun t => ⟨by simp; omega, rfl⟩
   unfold stepR addF
   rw [hbb]
   simp only [ePs] at hix g2
   by_cases c1 : bb ∈ Q.states
   ·rw [if_neg (fun h => h.1 c1), if_pos c1]
    rw [if_pos c1] at g2
    have hneg : decide (((Q.states.idxOf bb : Nat) : Int) < 0) = false := by simp only [decide_eq_false_iff_not]; omega
    simp only [ePr, List.length_map, lt_d hil, hix, pv_t2, sp2, g2, hneg, hiw, spl3', if_pos (hla _), hnx, List.map_append, List.map_cons, List.map_nil, eFl, EVS]
   ·rw [if_neg c1] at g2
    have hneg : decide ((-1 : Int) < 0) = true := rfl
    by_cases c2 : Q.states.length = 600
    ·rw [if_pos ⟨c1, c2⟩]
     have h6 : decide ((Q.states.length : Int) = 600) = true := by simp only [decide_eq_true_eq]; omega
     simp only [ePr, List.length_map, lt_d hil, hix, pv_t2, sp2, g2, hneg, h6, sp_3, EVS]
     rfl
    ·rw [if_neg (fun h => c2 h.2), if_neg c1]
     have h6 : decide ((Q.states.length : Int) = 600) = false := by simp only [decide_eq_false_iff_not]; omega
     simp only [ePr, List.length_map, lt_d hil, hix, pv_t2, sp2, g2, hneg, h6, hiw, spl3', if_pos hlb, if_pos (hla _), hnx, List.map_append, List.map_cons, List.map_nil, eFl, EVS]
     rfl
  ·have hxx : X.length ≤ 9223372036854775807 := by omega
   have hPe := hP.ex
   simp only [List.length_map, ge_d, EVS]
   refine (foldLoop (R := PV) X (fun (P : ProdG) i => [ePr P, pI (Int.ofNat i)]) (fun i Q' => Q'.states.length ≤ 600 ∧ Q'.extra.length = P.extra.length + i) (fun (P : ProdG) (_ : Nat) (w : Nat) => .inl ⟨P.states, P.flips, P.extra ++ [⟨(k : Int), (w : Int), -1⟩]⟩) (fun Q => again [ePr Q, pI (Int.ofNat (k + 1))]) _ hxx (fun Q' i w Q2 hi' hw he => ?_) (fun again2 Q' i w hi' hw => ?_) (fun again2 Q' hi' => ?_) (b := Q) ⟨hi.1, by rw [hi.2.2]; rfl⟩).trans (ex_fold k _ X 0 Q)
   ·cases he
    exact ⟨hi'.1, by simp; omega⟩
   ·have hil := lt_of_some hw
    have hiw : idxV (.lst (X.map eNn)) (.int .i64 (i : Int)) = some (pI (w : Int)) := idx_map (enc := eNn) hw
    have hla : Q'.extra.length + [PV.agg [pI (k : Int), pI (w : Int), pI (-1)]].length ≤ 4294967296 ∧ [PV.agg [pI (k : Int), pI (w : Int), pI (-1)]].all (okEl 3) = true := ⟨by simp; omega, rfl⟩
    have hneg : (Int.negSucc 0) = (-1 : Int) := rfl
    simp only [ePr, List.length_map, lt_d hil, hiw, spl3', hneg, if_pos hla, next_w hil hxx, List.map_append, List.map_cons, List.map_nil, eFl, EVS]
   ·simp only [ge_d, next_w ck (show P.states.length ≤ 9223372036854775807 by omega), EVS]
  ·by_cases c6 : (inU c n k s v L P).states.length ≤ 600
   ·have hx6 : ¬ 600 < (exU k X (inU c n k s v L P)).states.length := by show ¬ 600 < (inU c n k s v L P).states.length; omega
    rw [if_pos c6, if_neg hx6]
    have hnx := Pi.next h hP hb (by rw [hrd]; exact hx6)
    rw [hrd] at hnx
    have hkl : k + 1 ≤ (exU k X (inU c n k s v L P)).states.length := by
     have := (inU_len c n k s v L P).1
     show k + 1 ≤ (inU c n k s v L P).states.length
     omega
    have := ih ⟨(exU k X (inU c n k s v L P), k + 1), hnx, hkl⟩ (by simp only; omega)
    rw [show 601 - (k + 1) = 600 - k by omega] at this
    exact this
   ·rw [if_neg c6, if_pos (show 600 < (exU k X (inU c n k s v L P)).states.length by show 600 < (inU c n k s v L P).states.length; omega)]
    rfl
 ·obtain rfl : k = P.states.length := by omega
  have hst : outU c n (601 - P.states.length) P.states.length P = some P := by
   rw [show 601 - P.states.length = (600 - P.states.length) + 1 by omega]
   show (match P.states[P.states.length]? with | none => some P | some b => _) = _
   rw [List.getElem?_eq_none (by omega)]
  rw [hst]
  simp only [ePr, List.length_map, ge_d, pv_t3, sp_3, EVS]
  rfl
def mapP (g : Nat → PV) : Nat → List PSt → List (PV × PV)
 | _, [] => []
 | k, b :: r => (ePs b, g k) :: mapP g (k + 1) r
theorem mapP_snoc (g : Nat → PV) (a : PSt) : ∀ (l : List PSt) (k : Nat), mapP g k (l ++ [a]) = mapP g k l ++ [(ePs a, g (k + l.length))]
 | [], k => rfl
 | x :: r, k => by
  show (ePs x, g k) :: mapP g (k + 1) (r ++ [a]) = _
  rw [mapP_snoc g a r (k + 1)]
  simp only [mapP, List.length_cons, List.cons_append]
  rw [show k + 1 + r.length = k + (r.length + 1) by omega]
theorem findP (g : Nat → PV) (s : PSt) : ∀ (l : List PSt) (k i : Nat), findV (some [(0, TD.int IntKind.i64), (1, TD.str)]) TD.struct (mapP g k l) (.agg [pI s.state, .str s.values]) i = some (if s ∈ l then some (i + l.idxOf s, g (k + l.idxOf s)) else none)
 | [], k, i => rfl
 | x :: r, k, i => by
  unfold mapP findV
  rw [show ePs x = .agg [pI x.state, .str x.values] from rfl, eqStV]
  by_cases c : x = s
  ·subst c
   simp
  ·have h : (x :: r).idxOf s = r.idxOf s + 1 := by rw [List.idxOf_cons, beq_eq_false_iff_ne.2 c]; rfl
   have hm : s ∈ x :: r ↔ s ∈ r := by rw [List.mem_cons]; exact ⟨fun h => h.resolve_left (fun e => c e.symm), .inr⟩
   simp only [obs, c, show ¬ s = x from fun e => c e.symm, decide_false, Bool.false_eq_true, if_false, findP g s r (k + 1) (i + 1), hm, h]
   by_cases c2 : s ∈ r
   ·rw [if_pos c2, if_pos c2, show i + 1 + r.idxOf s = i + (r.idxOf s + 1) by omega, show k + 1 + r.idxOf s = k + (r.idxOf s + 1) by omega]
   ·rw [if_neg c2, if_neg c2]
theorem keyP (a : PSt) : ((eqV (some [(0, TD.int IntKind.i64), (1, TD.str)]) TD.struct (.agg [pI a.state, .str a.values]) (.agg [pI a.state, .str a.values])).elim false fun x => true) = true := by rw [eqStV]; rfl
theorem mapLm' (l : List (PV × PV)) : mapL (.map l) = some l := rfl
theorem zpInt' : zeroPV (TI.mk 1 8 (TD.int .i64) [ZC.int .i64] [] false) = .int .i64 0 := rfl
def ixP (l : List PSt) : PV := .map (mapP (fun i => pI i) 0 l)
theorem ixP_snoc (l : List PSt) (a : PSt) : PV.map (mapP (fun i => pI i) 0 l ++ [(.agg [pI a.state, .str a.values], pI (l.length : Int))]) = ixP (l ++ [a]) := by
 unfold ixP
 rw [mapP_snoc, Nat.zero_add]
 rfl
theorem fold_addF {R : Type} (c : PSG) (n : PNet) (k s : Nat) (v : List UInt8) (e : ProdG → Option R) : ∀ (l : List Nat) (i : Nat) (P : ProdG), foldGo (fun (P : ProdG) (_ : Nat) (w : Nat) => .inl (addF k P w (flipK c n s v w))) e i P l = e (inU c n k s v l P)
 | [], i, P => rfl
 | w :: r, i, P => fold_addF c n k s v e r (i + 1) _
theorem p_i_composed (c : PSG) (n : PNet) (h : Go1 c n) : s_i_system_composed [eSys c n] = some (prR (prodU c n)) := by
 have g0 := p_i_initial c n h
 have hn24 := (netP_size h.net).2
 obtain ⟨f0, hf0⟩ : ∃ f0, firstP c n = f0 := ⟨_, rfl⟩
 have p00 : plcV [PV.agg [pI f0.state, .str f0.values]] (.int .i64 ((0 : Nat) : Int)) = some (.int .i64 ((0 : Nat) : Int)) := plc_at (by simp)
 have hk0 := keyP f0
 have hix0 : PV.map ([] ++ [(PV.agg [pI f0.state, .str f0.values], pI 0)]) = ixP [f0] := rfl
 simp only [Int.natCast_zero] at p00
 show (fun x0 => s_i_system_composed [x0]) _ = _
 rw [sh_i_system_composed]
 rw [hf0] at g0
 simp only [eSys, ePs] at g0
 simp only [eSys, pv_6, g0, sp_3, grp3, p00, Int.toNat_zero, List.getElem?_cons_zero, pv_t2, hk0, hix0, if_true, EVS]
 unfold prodU
 rw [hf0]
 refine (loopR_go (R := PV) (fun q : {q : ProdG × Nat // Pi c n q.2 q.1 ∧ q.2 ≤ q.1.states.length} => [ixP q.1.1.states, ePr q.1.1, pI (Int.ofNat q.1.2)]) (fun q => 601 - q.1.2) (fun q => some (prR (outU c n (601 - q.1.2) q.1.2 q.1.1))) _ (fun again q ih => ?_) _ ⟨(⟨[f0], [], []⟩, 0), ⟨fun x hx => by rw [List.mem_singleton] at hx; subst hx; rw [← hf0]; exact firstP_ok h, by simp, by simp, by simp⟩, by simp⟩ (by simp only; omega))
 obtain ⟨⟨P, k⟩, hP, hk⟩ := q
 dsimp only at ih hP hk ⊢
 have hlen := hP.len
 by_cases ck : k < P.states.length
 ·obtain ⟨b, hb⟩ : ∃ b, P.states[k]? = some b := ⟨P.states[k], List.getElem?_eq_getElem ck⟩
  obtain ⟨s, hbe, hs, hbits⟩ := (hP.ok b (List.mem_of_getElem? hb)).mk'
  obtain ⟨v, hv⟩ : ∃ v, b.values = v := ⟨_, rfl⟩
  rw [hv] at hbe hbits
  subst hbe
  have g1 := p_i_successors c n h s v hs hbits
  have g3 := p_i_unexpected c n h s v hs hbits
  have p1 : plcV (P.states.map ePs) (.int .i64 (k : Int)) = some (.int .i64 (k : Int)) := plc_at (by rw [List.length_map]; exact ck)
  have q1 : (P.states.map ePs)[k]? = some (.agg [pI (s : Int), .str v]) := by rw [List.getElem?_map, hb]; rfl
  have hcl := canL_len c n s v n.wires.length
  have hxl := extraL_len c n s v n.wires.length
  simp only [eSys, ePs] at g1 g3
  simp only [ePr, List.length_map, lt_d ck, p1, q1, Int.toNat_natCast, pv_6, pv_t2, g1, EVS]
  have hst : outU c n (601 - k) k P = if 600 < (rdU c n k ⟨(s : Int), v⟩ P).states.length then none else outU c n (600 - k) (k + 1) (rdU c n k ⟨(s : Int), v⟩ P) := by
   rw [show 601 - k = (600 - k) + 1 by omega]
   show (match P.states[k]? with | none => some P | some b => _) = _
   rw [hb]
  rw [hst]
  obtain ⟨L, hL⟩ : ∃ L, canL c n s v n.wires.length = L := ⟨_, rfl⟩
  obtain ⟨X, hX⟩ : ∃ X, extraL c n s v n.wires.length = X := ⟨_, rfl⟩
  have hrd : rdU c n k ⟨(s : Int), v⟩ P = exU k X (inU c n k s v L P) := by unfold rdU; rw [Int.toNat_natCast, hL, hX]
  have hLok : ∀ w ∈ L, canK c n s v w = true := fun w hw => by rw [← hL] at hw; exact (canL_lt hw).2
  rw [hX] at g3
  rw [hrd, hL]
  rw [hL] at hcl
  rw [hX] at hxl
  refine (foldLoop (R := PV) L (fun (P : ProdG) i => [ixP P.states, ePr P, pI (Int.ofNat i)]) (fun i Q => (Q.states.length ≤ P.states.length + i ∧ Q.states[k]? = some ⟨(s : Int), v⟩) ∧ Q.flips.length = P.flips.length + i ∧ Q.extra = P.extra) (fun (P : ProdG) (_ : Nat) (w : Nat) => .inl (addF k P w (flipK c n s v w))) (fun Q => if 600 < Q.states.length then some (.tup [zProd, pB false]) else again [ixP Q.states, ePr (exU k X Q), pI (Int.ofNat (k + 1))]) _ (by omega) (fun Q i w Q' hi hw he => ?_) (fun again1 Q i w hi hw => ?_) (fun again1 Q hi => ?_) (b := P) ⟨⟨by omega, hb⟩, rfl, rfl⟩).trans ((fold_addF c n k s v _ L 0 P).trans ?_)
  ·cases he
   obtain ⟨a1, a2, a3, a4⟩ := addF_len k Q w (flipK c n s v w)
   exact ⟨⟨by omega, addF_at hi.1.2⟩, by omega, a4.trans hi.2.2⟩
  ·have hil := lt_of_some hw
   obtain ⟨⟨i1, i0⟩, i2, i3⟩ := hi
   have hPf := hP.fl
   have hix : idxV (.lst (L.map fun k => ePs (flipK c n s v k))) (.int .i64 (i : Int)) = some (ePs (flipK c n s v w)) := idx_map (enc := fun k => ePs (flipK c n s v k)) hw
   have hiw : idxV (.lst (L.map eNn)) (.int .i64 (i : Int)) = some (pI (w : Int)) := idx_map (enc := eNn) hw
   obtain ⟨bb, hbb⟩ : ∃ bb, flipK c n s v w = bb := ⟨_, rfl⟩
   rw [hbb] at hix
   have g2 := findP (fun i => pI i) bb Q.states 0 0
   have hkk := keyP bb
   have hnx := next_w hil (show L.length ≤ 9223372036854775807 by omega)
   have hlb : Q.states.length + [PV.agg [pI bb.state, .str bb.values]].length ≤ 4294967296 ∧ [PV.agg [pI bb.state, .str bb.values]].all (okEl 2) = true := ⟨by simp; omega, rfl⟩
   have hla : ∀ t : Int, Q.flips.length + [PV.agg [pI (k : Int), pI (w : Int), pI t]].length ≤ 4294967296 ∧ [PV.agg [pI (k : Int), pI (w : Int), pI t]].all (okEl 3) = true := fun t => ⟨by simp; omega, rfl⟩
   unfold addF
   rw [hbb]
   simp only [ePs] at hix
   by_cases c1 : bb ∈ Q.states
   ·rw [if_pos c1]
    rw [if_pos c1] at g2
    simp only [Nat.zero_add] at g2
    simp only [ePr, ixP, List.length_map, lt_d hil, hix, pv_t2, sp2, mapLm', hkk, g2, hiw, spl3', Option.elim_some, if_pos (hla _), hnx, List.map_append, List.map_cons, List.map_nil, eFl, if_true, EVS]
   ·rw [if_neg c1]
    rw [if_neg c1] at g2
    have hN := ixP_snoc Q.states bb
    unfold ixP at hN
    simp only [ePr, ixP, List.length_map, lt_d hil, hix, pv_t2, sp2, mapLm', hkk, g2, hiw, spl3', zpInt', Option.elim_none, if_pos hlb, if_pos (hla _), hnx, hN, List.map_append, List.map_cons, List.map_nil, eFl, if_true, EVS]
    rfl
  ·obtain ⟨⟨i1, i0⟩, i2, i3⟩ := hi
   have hxx : X.length ≤ 9223372036854775807 := by omega
   have hPe := hP.ex
   have p2 : plcV (Q.states.map ePs) (.int .i64 (k : Int)) = some (.int .i64 (k : Int)) := plc_at (by rw [List.length_map]; exact (List.getElem?_eq_some_iff.1 i0).1)
   have q2 : (Q.states.map ePs)[k]? = some (.agg [pI (s : Int), .str v]) := by rw [List.getElem?_map, i0]; rfl
   simp only [ePr, List.length_map, ge_d, p2, q2, Int.toNat_natCast, pv_6, pv_t2, g3, EVS]
   refine (foldLoop (R := PV) X (fun (P : ProdG) i => [ePr P, pI (Int.ofNat i)]) (fun i Q' => Q'.states = Q.states ∧ Q'.extra.length = P.extra.length + i) (fun (P : ProdG) (_ : Nat) (w : Nat) => .inl ⟨P.states, P.flips, P.extra ++ [⟨(k : Int), (w : Int), -1⟩]⟩) (fun Q' => if 600 < Q'.states.length then some (.tup [zProd, pB false]) else again [ixP Q'.states, ePr Q', pI (Int.ofNat (k + 1))]) _ hxx (fun Q' i w Q2 hi' hw he => ?_) (fun again2 Q' i w hi' hw => ?_) (fun again2 Q' hi' => ?_) (b := Q) ⟨rfl, by rw [i3]; rfl⟩).trans (ex_fold k _ X 0 Q)
   ·cases he
    exact ⟨hi'.1, by simp; omega⟩
   ·have hil := lt_of_some hw
    have p3 : plcV (X.map eNn) (.int .i64 (i : Int)) = some (.int .i64 (i : Int)) := plc_at (by rw [List.length_map]; exact hil)
    have q3 : (X.map eNn)[i]? = some (pI (w : Int)) := by rw [List.getElem?_map, hw]; rfl
    have hla : Q'.extra.length + [PV.agg [pI (k : Int), pI (w : Int), pI (-1)]].length ≤ 4294967296 ∧ [PV.agg [pI (k : Int), pI (w : Int), pI (-1)]].all (okEl 3) = true := ⟨by simp; omega, rfl⟩
    have hneg : (Int.negSucc 0) = (-1 : Int) := rfl
    simp only [ePr, List.length_map, lt_d hil, p3, q3, Int.toNat_natCast, spl3', hneg, if_pos hla, next_w hil hxx, List.map_append, List.map_cons, List.map_nil, eFl, EVS]
   ·have hks := (List.getElem?_eq_some_iff.1 i0).1
    by_cases c6 : 600 < Q'.states.length
    ·have c6' : decide ((600 : Int) < (Q'.states.length : Int)) = true := by simp only [decide_eq_true_eq]; omega
     rw [if_pos c6]
     simp only [ePr, List.length_map, ge_d, c6', sp_3, EVS]
     rfl
    ·have c6' : decide ((600 : Int) < (Q'.states.length : Int)) = false := by simp only [decide_eq_false_iff_not]; omega
     rw [if_neg c6]
     rw [hi'.1] at c6'
     simp only [ePr, List.length_map, ge_d, c6', next_w ck (show P.states.length ≤ 9223372036854775807 by omega), hi'.1, EVS]
  ·by_cases c6 : (inU c n k s v L P).states.length ≤ 600
   ·have hx6 : ¬ 600 < (exU k X (inU c n k s v L P)).states.length := by show ¬ 600 < (inU c n k s v L P).states.length; omega
    rw [if_neg (show ¬ 600 < (inU c n k s v L P).states.length by omega), if_neg hx6]
    have hnx := Pi.next h hP hb (by rw [hrd]; exact hx6)
    rw [hrd] at hnx
    have hkl : k + 1 ≤ (exU k X (inU c n k s v L P)).states.length := by
     have := (inU_len c n k s v L P).1
     show k + 1 ≤ (inU c n k s v L P).states.length
     omega
    have := ih ⟨(exU k X (inU c n k s v L P), k + 1), hnx, hkl⟩ (by simp only; omega)
    rw [show 601 - (k + 1) = 600 - k by omega] at this
    exact this
   ·rw [if_pos (show 600 < (inU c n k s v L P).states.length by omega), if_pos (show 600 < (exU k X (inU c n k s v L P)).states.length by show 600 < (inU c n k s v L P).states.length; omega)]
    rfl
 ·obtain rfl : k = P.states.length := by omega
  have hst : outU c n (601 - P.states.length) P.states.length P = some P := by
   rw [show 601 - P.states.length = (600 - P.states.length) + 1 by omega]
   show (match P.states[P.states.length]? with | none => some P | some b => _) = _
   rw [List.getElem?_eq_none (by omega)]
  rw [hst]
  simp only [ePr, List.length_map, ge_d, pv_t3, sp_3, EVS]
  rfl
def lostK (n : PNet) (v v' : List UInt8) (j : Nat) : Bool := excitedAt n v j && !excitedAt n v' j
def lostL (n : PNet) (v v' : List UInt8) (k : Int) (j : Nat) : List Nat := (List.range j).filter fun j => !decide ((j : Int) = k) && lostK n v v' j
theorem p_i_lost (c : PSG) (n : PNet) (h : Go1 c n) (s s' : Int) (v v' : List UInt8) (k : Int) (hb : bitsP v n.wires.length = true) (hb' : bitsP v' n.wires.length = true) :
 s_i_system_lost [eSys c n, ePs ⟨s, v⟩, ePs ⟨s', v'⟩, pI k] = some (.lst ((lostL n v v' k n.wires.length).map eNn)) := by
 obtain ⟨h1, h2, h3, h4, h5, h6⟩ := h.vals hb
 obtain ⟨h1', h2', h3', _, _, _⟩ := h.vals hb'
 show (fun x0 x1 x2 x3 => s_i_system_lost [x0, x1, x2, x3]) _ _ _ _ = _
 rw [sh_i_system_lost]
 simp only [eSys, ePs, List.length_map, EVS]
 refine (gatherLoop (R := PV) 0 n.wires.length (fun j => [.lst ((lostL n v v' k j).map eNn), pI (Int.ofNat j)]) (some (.lst ((lostL n v v' k n.wires.length).map eNn))) _ (by omega) (fun again j k1 k2 => ?_) (fun again => ?_) (Nat.zero_le _) _ (by simp [lostL]))
 ·have a1 := p_i_isExcitedWire n v j h.fitn h2 h1 k2
  have a2 := p_i_isExcitedWire n v' j h.fitn h2' h1' k2
  simp only [eNet] at a1 a2
  have hcl : (lostL n v v' k j).length ≤ j := filt_len _ j
  have hm : n.wires.length ≤ 9223372036854775807 := by omega
  have hlb : (lostL n v v' k j).length + [pI (j : Int)].length ≤ 4294967296 ∧ [pI (j : Int)].all (okEl 1) = true := ⟨by simp; omega, rfl⟩
  have hE : (fun j : Nat => !decide ((j : Int) = k) && lostK n v v' j) j = (!decide ((j : Int) = k) && (excitedAt n v j && !excitedAt n v' j)) := rfl
  cases c1 : decide ((j : Int) = k) <;> cases c2 : excitedAt n v j <;> cases c3 : excitedAt n v' j <;> rw [c1, c2, c3] at hE <;> simp only [Bool.not_true, Bool.not_false, Bool.and_true, Bool.and_false, Bool.true_and, Bool.false_and] at hE
  all_goals first
   | (have e1 : lostL n v v' k (j + 1) = lostL n v v' k j := filt_no hE
      simp only [lt_d k2, c1, c2, c3, pv_3_2, a1, a2, next_w k2 hm, e1, EVS])
   | (have e1 : lostL n v v' k (j + 1) = lostL n v v' k j ++ [j] := filt_yes hE
      simp only [lt_d k2, c1, c2, c3, pv_3_2, a1, a2, if_pos hlb, next_w k2 hm, e1, List.map_append, List.map_cons, List.map_nil, eNn, EVS])
 ·simp only [ge_d, EVS]
structure PrU (c : PSG) (n : PNet) (P : ProdG) : Prop where
 ok : ∀ x ∈ P.states, StB c n x
 one : 1 ≤ P.states.length
 len : P.states.length ≤ 600
 few : P.flips.length ≤ 14400
 xfew : P.extra.length ≤ 14400
 fl : ∀ f ∈ P.flips, 0 ≤ f.from_ ∧ f.from_ < P.states.length ∧ 0 ≤ f.to ∧ f.to < P.states.length ∧ 0 ≤ f.wire ∧ f.wire < n.wires.length
 xl : ∀ f ∈ P.extra, 0 ≤ f.from_ ∧ f.from_ < P.states.length ∧ f.to = -1 ∧ 0 ≤ f.wire ∧ f.wire < n.wires.length
structure Pj (n : PNet) (P : ProdG) : Prop where
 fl : ∀ f ∈ P.flips, 0 ≤ f.from_ ∧ f.from_ < P.states.length ∧ 0 ≤ f.to ∧ f.to < P.states.length ∧ 0 ≤ f.wire ∧ f.wire < n.wires.length
 xl : ∀ f ∈ P.extra, 0 ≤ f.from_ ∧ f.from_ < P.states.length ∧ f.to = -1 ∧ 0 ≤ f.wire ∧ f.wire < n.wires.length
theorem Pj.add {n : PNet} {P : ProdG} (h : Pj n P) {k w : Nat} {b : PSt} (hk : k < P.states.length) (hw : w < n.wires.length) : Pj n (addF k P w b) := by
 unfold addF
 split
 ·rename_i hm
  refine ⟨fun f hf => ?_, h.xl⟩
  rcases List.mem_append.1 hf with hf | hf
  ·exact h.fl f hf
  ·rw [List.mem_singleton] at hf
   subst hf
   have := List.idxOf_lt_length_of_mem hm
   dsimp only
   omega
 ·refine ⟨fun f hf => ?_, fun f hf => ?_⟩
  ·rcases List.mem_append.1 hf with hf | hf
   ·have := h.fl f hf
    simp only [List.length_append, List.length_singleton]
    omega
   ·rw [List.mem_singleton] at hf
    subst hf
    simp only [List.length_append, List.length_singleton]
    omega
  ·have := h.xl f hf
   simp only [List.length_append, List.length_singleton]
   omega
theorem Pj.ins {c : PSG} {n : PNet} {k s : Nat} {v : List UInt8} : ∀ (l : List Nat) (P : ProdG), Pj n P → k < P.states.length → (∀ w ∈ l, w < n.wires.length) → Pj n (inU c n k s v l P)
 | [], P, h, _, _ => h
 | w :: r, P, h, hk, hl => by
  unfold inU
  refine Pj.ins r _ (h.add hk (hl w List.mem_cons_self)) ?_ fun x hx => hl x (List.mem_cons_of_mem _ hx)
  have := (addF_len k P w (flipK c n s v w)).1
  omega
theorem Pj.rd {c : PSG} {n : PNet} {k : Nat} {b : PSt} {P : ProdG} (h : Pj n P) (hk : k < P.states.length) : Pj n (rdU c n k b P) := by
 have h1 := Pj.ins (c := c) (s := b.state.toNat) (v := b.values) (canL c n b.state.toNat b.values n.wires.length) P h hk fun w hw => (canL_lt hw).1
 have h2 := (inU_len c n k b.state.toNat b.values (canL c n b.state.toNat b.values n.wires.length) P).1
 unfold rdU exU
 refine ⟨h1.fl, fun f hf => ?_⟩
 rcases List.mem_append.1 hf with hf | hf
 ·exact h1.xl f hf
 ·obtain ⟨w, hw, rfl⟩ := List.mem_map.1 hf
  unfold extraL at hw
  have := List.mem_range.1 (List.mem_filter.1 hw).1
  dsimp only
  omega
theorem outU_pr {c : PSG} {n : PNet} (h : Go1 c n) : ∀ (f k : Nat) (P Q : ProdG), Pi c n k P → Pj n P → k ≤ P.states.length → 1 ≤ P.states.length → k + f ≤ 601 → outU c n f k P = some Q → PrU c n Q
 | 0, k, P, Q, hP, hj, hk, h1, hf, he => by
  cases he
  have := hP.fl
  have := hP.ex
  have := hP.len
  exact ⟨hP.ok, h1, hP.len, by omega, by omega, hj.fl, hj.xl⟩
 | f + 1, k, P, Q, hP, hj, hk, h1, hf, he => by
  unfold outU at he
  split at he
  ·cases he
   have := hP.fl
   have := hP.ex
   have := hP.len
   exact ⟨hP.ok, h1, hP.len, by omega, by omega, hj.fl, hj.xl⟩
  ·rename_i b hb
   split at he
   ·cases he
   ·rename_i hl
    have hkl := (List.getElem?_eq_some_iff.1 hb).1
    have hn := Pi.next h hP hb hl
    have hm := (inU_len c n k b.state.toNat b.values (canL c n b.state.toNat b.values n.wires.length) P).1
    have hst : (rdU c n k b P).states = (inU c n k b.state.toNat b.values (canL c n b.state.toNat b.values n.wires.length) P).states := rfl
    exact outU_pr h f (k + 1) _ Q hn (hj.rd hkl) (by rw [hst]; omega) (by rw [hst]; omega) (by omega) he
theorem prodU_pr {c : PSG} {n : PNet} (h : Go1 c n) {P : ProdG} (he : prodU c n = some P) : PrU c n P := by
 unfold prodU at he
 exact outU_pr h 601 0 _ P ⟨fun x hx => by rw [List.mem_singleton] at hx; subst hx; exact firstP_ok h, by simp, by simp, by simp⟩ ⟨by simp, by simp⟩ (by simp) (by simp) (by omega) he
theorem capsAB (a b : List PV) : capsOf 2 (.tup [.agg a, .agg b]) = some [.agg a, .agg b] := by simp [capsOf, PV.parts, PV.isU]
def stAt (P : ProdG) (i : Int) : PSt := P.states.getD i.toNat ⟨0, []⟩
theorem stAt_get {P : ProdG} {i : Int} (h0 : 0 ≤ i) (h1 : i < P.states.length) : P.states[i.toNat]? = some (stAt P i) := by
 unfold stAt
 rw [List.getD_eq_getElem?_getD, List.getElem?_eq_getElem (by omega)]
 rfl
def hzF (n : PNet) (P : ProdG) (f : Flip) : List Flip := (lostL n (stAt P f.from_).values (stAt P f.to).values f.wire n.wires.length).map fun j : Nat => ⟨f.from_, (j : Int), f.wire⟩
def hzA (n : PNet) (P : ProdG) : List Flip := P.flips.flatMap (hzF n P)
theorem hz_fold {R : Type} (n : PNet) (P : ProdG) (e : List Flip → Option R) : ∀ (l : List Flip) (i : Nat) (acc : List Flip), foldGo (fun (acc : List Flip) (_ : Nat) (f : Flip) => .inl (acc ++ hzF n P f)) e i acc l = e (acc ++ l.flatMap (hzF n P))
 | [], i, acc => by simp [foldGo]
 | f :: l, i, acc => by
  show foldGo _ e (i + 1) (acc ++ hzF n P f) l = _
  rw [hz_fold n P e l, List.append_assoc, List.flatMap_cons]
theorem app_fold {R α : Type} (g : α → Flip) (e : List Flip → Option R) : ∀ (l : List α) (i : Nat) (acc : List Flip), foldGo (fun (acc : List Flip) (_ : Nat) (w : α) => .inl (acc ++ [g w])) e i acc l = e (acc ++ l.map g)
 | [], i, acc => by simp [foldGo]
 | w :: l, i, acc => by
  show foldGo _ e (i + 1) (acc ++ [g w]) l = _
  rw [app_fold g e l, List.append_assoc]
  rfl
theorem lostL_len (n : PNet) (v v' : List UInt8) (k : Int) (N : Nat) : (lostL n v v' k N).length ≤ N := filt_len _ _
theorem hzF_len (n : PNet) (P : ProdG) (f : Flip) : (hzF n P f).length ≤ n.wires.length := by
 unfold hzF
 rw [List.length_map]
 exact lostL_len _ _ _ _ _
theorem p_i_hazards (c : PSG) (n : PNet) (h : Go1 c n) (P : ProdG) (hP : PrU c n P) : s_i_system_hazards [eSys c n, ePr P] = some (.lst ((hzA n P).map eFl)) := by
 have hn24 := (netP_size h.net).2
 have hfw := hP.few
 show (fun x0 x1 => s_i_system_hazards [x0, x1]) _ _ = _
 rw [sh_i_system_hazards]
 simp only [eSys, ePr, List.length_map, EVS]
 refine (foldLoop (R := PV) P.flips (fun (acc : List Flip) i => [.lst (acc.map eFl), pI (Int.ofNat i)]) (fun i acc => acc.length ≤ 24 * i) (fun (acc : List Flip) _ f => .inl (acc ++ hzF n P f)) (fun l => some (.lst (l.map eFl))) _ (by omega) (fun acc i f acc' hi hf he => ?_) (fun again acc i f hi hf => ?_) (fun again acc hi => ?_) (b := []) (by simp)).trans (hz_fold n P _ _ _ _)
 ·cases he
  have := hzF_len n P f
  rw [List.length_append]
  omega
 ·have hl := lt_of_some hf
  obtain ⟨b1, b2, b3, b4, b5, b6⟩ := hP.fl f (List.mem_of_getElem? hf)
  have hix : idxV (.lst (P.flips.map eFl)) (.int .i64 (i : Int)) = some (eFl f) := idx_map hf
  have hs1 := stAt_get b1 b2
  have hs2 := stAt_get b3 b4
  obtain ⟨a, ha⟩ : ∃ a : Nat, f.from_ = a := ⟨f.from_.toNat, by omega⟩
  obtain ⟨t, ht⟩ : ∃ t : Nat, f.to = t := ⟨f.to.toNat, by omega⟩
  have hi1 : idxV (.lst (P.states.map ePs)) (.int .i64 (a : Int)) = some (ePs (stAt P f.from_)) := idx_map (by rw [ha, Int.toNat_natCast] at hs1; rw [ha]; exact hs1)
  have hi2 : idxV (.lst (P.states.map ePs)) (.int .i64 (t : Int)) = some (ePs (stAt P f.to)) := idx_map (by rw [ht, Int.toNat_natCast] at hs2; rw [ht]; exact hs2)
  obtain ⟨s1, _, _, hb1⟩ := hP.ok _ (List.mem_of_getElem? hs1)
  obtain ⟨s2, _, _, hb2⟩ := hP.ok _ (List.mem_of_getElem? hs2)
  have g := p_i_lost c n h (stAt P f.from_).state (stAt P f.to).state (stAt P f.from_).values (stAt P f.to).values f.wire hb1 hb2
  obtain ⟨X, hX⟩ : ∃ X, lostL n (stAt P f.from_).values (stAt P f.to).values f.wire n.wires.length = X := ⟨_, rfl⟩
  have hXl : X.length ≤ 24 := by rw [← hX]; have := lostL_len n (stAt P f.from_).values (stAt P f.to).values f.wire n.wires.length; omega
  have hzx : hzF n P f = X.map fun j : Nat => ⟨(a : Int), (j : Int), f.wire⟩ := by unfold hzF; rw [hX, ha]
  rw [hX] at g
  rw [hzx]
  simp only [eSys, ePs, eFl, ha, ht] at g hix hi1 hi2
  simp only [lt_d hl, hix, eFl, ha, ht, pv_6, pv_t2, pv_t3, sp_3, hi1, hi2, g, List.length_map, EVS]
  refine (foldLoop (R := PV) X (fun (acc : List Flip) i => [.lst (acc.map eFl), pI (Int.ofNat i)]) (fun j acc' => acc'.length = acc.length + j) (fun (acc : List Flip) _ (j : Nat) => .inl (acc ++ [⟨(a : Int), (j : Int), f.wire⟩])) (fun acc => again [.lst (acc.map eFl), pI (Int.ofNat (i + 1))]) _ (by omega) (fun acc j x acc' hi hx he => ?_) (fun again' acc' j x hj hx => ?_) (fun again' acc' hj => ?_) (b := acc) rfl).trans (app_fold (fun j : Nat => (⟨(a : Int), (j : Int), f.wire⟩ : Flip)) _ _ _ _)
  ·cases he; simp only [List.length_append, List.length_singleton]; omega
  ·have hjl := lt_of_some hx
   have p3 : plcV (X.map eNn) (.int .i64 (j : Int)) = some (.int .i64 (j : Int)) := plc_at (by rw [List.length_map]; exact hjl)
   have q3 : (X.map eNn)[j]? = some (pI (x : Int)) := by rw [List.getElem?_map, hx]; rfl
   have hla : acc'.length + [PV.agg [pI (a : Int), pI (x : Int), pI f.wire]].length ≤ 4294967296 ∧ [PV.agg [pI (a : Int), pI (x : Int), pI f.wire]].all (okEl 3) = true := ⟨by simp; omega, rfl⟩
   simp only [List.length_map, lt_d hjl, p3, q3, Int.toNat_natCast, spl3', if_pos hla, next_w hjl (show X.length ≤ 9223372036854775807 by omega), ha, List.map_append, List.map_cons, List.map_nil, eFl, EVS]
  ·simp only [List.length_map, ge_d, next_w hl (show P.flips.length ≤ 9223372036854775807 by omega), EVS]
 ·simp only [ge_d, EVS]
theorem pick_fold {R : Type} (q : Int → Bool) (g : Int → Flip) (e : List Flip → Option R) : ∀ (l : List Int) (i : Nat) (acc : List Flip), foldGo (fun (acc : List Flip) (_ : Nat) (w : Int) => .inl (if q w = true then acc ++ [g w] else acc)) e i acc l = e (acc ++ (l.filter q).map g)
 | [], i, acc => by simp [foldGo]
 | w :: l, i, acc => by
  show foldGo _ e (i + 1) (if q w = true then acc ++ [g w] else acc) l = _
  rw [pick_fold q g e l]
  cases c : q w
  ·simp [c]
  ·simp [c, List.append_assoc]
theorem lost_pick (n : PNet) (v v' : List UInt8) (k : Int) (N : Nat) (g : Int → Flip) : ((pickTo (excitedAt n v) N).filter fun w => !decide (w = k) && !decide (w ∈ pickTo (excitedAt n v') N)).map g = (lostL n v v' k N).map fun j : Nat => g (j : Int) := by
 have h : (pickTo (excitedAt n v) N).filter (fun w => !decide (w = k) && !decide (w ∈ pickTo (excitedAt n v') N)) = (lostL n v v' k N).map fun j : Nat => (j : Int) := by
  unfold lostL
  have e1 : pickTo (excitedAt n v) N = ((List.range N).filter (excitedAt n v)).map fun j : Nat => (j : Int) := rfl
  rw [e1, List.filter_map, List.filter_filter]
  congr 1
  apply List.filter_congr
  intro j hj
  have hjN := List.mem_range.1 hj
  show ((!decide ((j : Int) = k) && !decide ((j : Int) ∈ pickTo (excitedAt n v') N)) && excitedAt n v j) = (!decide ((j : Int) = k) && lostK n v v' j)
  rw [mem_pickTo _ _ _ hjN]
  unfold lostK
  cases decide ((j : Int) = k) <;> cases excitedAt n v j <;> cases excitedAt n v' j <;> rfl
 rw [h, List.map_map]
 rfl
theorem p_r_l22Hazards (c : PSG) (n : PNet) (h : Go1 c n) (P : ProdG) (hP : PrU c n P) : s_r_l22Hazards [eNet n, ePr P] = some (.lst ((hzA n P).map eFl)) := by
 have hn24 := (netP_size h.net).2
 have hfw := hP.few
 show (fun x0 x1 => s_r_l22Hazards [x0, x1]) _ _ = _
 rw [sh_r_l22Hazards]
 simp only [eNet, ePr, List.length_map, EVS]
 refine (foldLoop (R := PV) P.flips (fun (acc : List Flip) i => [.lst (acc.map eFl), pI (Int.ofNat i)]) (fun i acc => acc.length ≤ 24 * i) (fun (acc : List Flip) _ f => .inl (acc ++ hzF n P f)) (fun l => some (.lst (l.map eFl))) _ (by omega) (fun acc i f acc' hi hf he => ?_) (fun again acc i f hi hf => ?_) (fun again acc hi => ?_) (b := []) (by simp)).trans (hz_fold n P _ _ _ _)
 ·cases he
  have := hzF_len n P f
  rw [List.length_append]
  omega
 ·have hl := lt_of_some hf
  obtain ⟨b1, b2, b3, b4, b5, b6⟩ := hP.fl f (List.mem_of_getElem? hf)
  have hix : idxV (.lst (P.flips.map eFl)) (.int .i64 (i : Int)) = some (eFl f) := idx_map hf
  have hs1 := stAt_get b1 b2
  have hs2 := stAt_get b3 b4
  obtain ⟨a, ha⟩ : ∃ a : Nat, f.from_ = a := ⟨f.from_.toNat, by omega⟩
  obtain ⟨t, ht⟩ : ∃ t : Nat, f.to = t := ⟨f.to.toNat, by omega⟩
  have hi1 : idxV (.lst (P.states.map ePs)) (.int .i64 (a : Int)) = some (ePs (stAt P f.from_)) := idx_map (by rw [ha, Int.toNat_natCast] at hs1; rw [ha]; exact hs1)
  have hi2 : idxV (.lst (P.states.map ePs)) (.int .i64 (t : Int)) = some (ePs (stAt P f.to)) := idx_map (by rw [ht, Int.toNat_natCast] at hs2; rw [ht]; exact hs2)
  obtain ⟨s1, _, _, hb1⟩ := hP.ok _ (List.mem_of_getElem? hs1)
  obtain ⟨s2, _, _, hb2⟩ := hP.ok _ (List.mem_of_getElem? hs2)
  obtain ⟨v1, v2, v3, _, _, _⟩ := h.vals hb1
  obtain ⟨u1, u2, u3, _, _, _⟩ := h.vals hb2
  have g1 := p_r_l19Excited n (stAt P f.from_).values h.fitn v2 v1 (by omega)
  have g2 := p_r_l19Excited n (stAt P f.to).values h.fitn u2 u1 (by omega)
  obtain ⟨X, hX⟩ : ∃ X, pickTo (excitedAt n (stAt P f.from_).values) n.wires.length = X := ⟨_, rfl⟩
  obtain ⟨Y, hY⟩ : ∃ Y, pickTo (excitedAt n (stAt P f.to).values) n.wires.length = Y := ⟨_, rfl⟩
  have hXl : X.length ≤ 24 := by rw [← hX]; have := pickTo_len (excitedAt n (stAt P f.from_).values) n.wires.length; omega
  have hYl : Y.length ≤ 24 := by rw [← hY]; have := pickTo_len (excitedAt n (stAt P f.to).values) n.wires.length; omega
  have hzx : hzF n P f = (X.filter fun w => !decide (w = f.wire) && !decide (w ∈ Y)).map fun w => ⟨(a : Int), w, f.wire⟩ := by
   unfold hzF
   rw [ha, ← hX, ← hY, lost_pick n _ _ f.wire n.wires.length (fun w => ⟨(a : Int), w, f.wire⟩), ← ha]
  rw [hX] at g1
  rw [hY] at g2
  rw [hzx]
  simp only [eNet, ePs, eFl, ha, ht] at g1 g2 hix hi1 hi2
  simp only [lt_d hl, hix, eFl, ha, ht, pv_t2, pv_t3, sp_3, hi1, hi2, g1, g2, List.drop_succ_cons, List.drop_zero, List.length_map, EVS]
  refine (foldLoop (R := PV) X (fun (acc : List Flip) i => [.lst (acc.map eFl), pI (Int.ofNat i)]) (fun j acc' => acc'.length ≤ acc.length + j) (fun (acc : List Flip) _ (w : Int) => .inl (if (!decide (w = f.wire) && !decide (w ∈ Y)) = true then acc ++ [⟨(a : Int), w, f.wire⟩] else acc)) (fun acc => again [.lst (acc.map eFl), pI (Int.ofNat (i + 1))]) _ (by omega) (fun acc j x acc' hi hx he => ?_) (fun again' acc' j x hj hx => ?_) (fun again' acc' hj => ?_) (b := acc) (Nat.le_refl _)).trans (pick_fold (fun w => !decide (w = f.wire) && !decide (w ∈ Y)) (fun w => (⟨(a : Int), w, f.wire⟩ : Flip)) _ _ _ _)
  ·cases he
   split
   ·simp only [List.length_append, List.length_singleton]; omega
   ·omega
  ·have hjl := lt_of_some hx
   have p3 : plcV (X.map pI) (.int .i64 (j : Int)) = some (.int .i64 (j : Int)) := plc_at (by rw [List.length_map]; exact hjl)
   have q3 : (X.map pI)[j]? = some (pI x) := by rw [List.getElem?_map, hx]; rfl
   have g3 := p_r_l1Has Y x (by unfold Fits; omega)
   have hla : acc'.length + [PV.agg [pI (a : Int), pI x, pI f.wire]].length ≤ 4294967296 ∧ [PV.agg [pI (a : Int), pI x, pI f.wire]].all (okEl 3) = true := ⟨by simp; omega, rfl⟩
   have hnx := next_w hjl (show X.length ≤ 9223372036854775807 by omega)
   cases c1 : decide (x = f.wire) <;> cases c2 : decide (x ∈ Y) <;> rw [c2] at g3 <;> simp only [List.length_map, lt_d hjl, p3, q3, Int.toNat_natCast, c1, c2, g3, spl3', if_pos hla, hnx, ha, List.map_append, List.map_cons, List.map_nil, eFl, Bool.false_eq_true, if_false, if_true, EVS]
  ·simp only [List.length_map, ge_d, next_w hl (show P.flips.length ≤ 9223372036854775807 by omega), EVS]
 ·simp only [ge_d, EVS]
def selGo {α : Type} (q : α → Bool) : Nat → List α → List Nat
 | _, [] => []
 | k, b :: r => if q b = true then k :: selGo q (k + 1) r else selGo q (k + 1) r
theorem sel_fold {R α : Type} (q : α → Bool) (e : List Nat → Option R) : ∀ (l : List α) (k : Nat) (acc : List Nat), foldGo (fun (acc : List Nat) (k : Nat) (b : α) => .inl (if q b = true then acc ++ [k] else acc)) e k acc l = e (acc ++ selGo q k l)
 | [], k, acc => by simp [foldGo, selGo]
 | b :: r, k, acc => by
  show foldGo _ e (k + 1) (if q b = true then acc ++ [k] else acc) r = _
  rw [sel_fold q e r]
  show _ = e (acc ++ (if q b = true then k :: selGo q (k + 1) r else selGo q (k + 1) r))
  cases c : q b
  ·simp
  ·simp [List.append_assoc]
def ownP (c : PSG) (s : Nat) : Bool := (List.range c.signals.length).any fun k => !inAt' c k && decide (0 ≤ toC c s k)
where inAt' (c : PSG) (k : Nat) : Bool := match c.signals[k]? with | some x => decide (x.2 = 1) | none => false
def quietV (n : PNet) (v : List UInt8) : Bool := decide (((pickTo (excitedAt n v) n.wires.length).length : Int) = 0)
def stuckP (c : PSG) (n : PNet) (b : PSt) : Bool := quietV n b.values && ownP c b.state.toNat
def arcOwn (c : PSG) (s : Nat) (a : PArc) : Bool := decide (a.from_ = (s : Int)) && !ownP.inAt' c a.sig.toNat
theorem own_arcs {c : PSG} {n : PNet} (h : Go1 c n) {s : Nat} (hs : s < c.codes.length) : (c.arcs.any (arcOwn c s)) = ownP c s := by
 rw [Bool.eq_iff_iff, List.any_eq_true]
 unfold ownP
 rw [List.any_eq_true]
 constructor
 ·rintro ⟨a, ha, hq⟩
  unfold arcOwn at hq
  rw [Bool.and_eq_true, decide_eq_true_eq] at hq
  obtain ⟨b1, b2, b3, b4, b5, b6⟩ := h.arcs a ha
  refine ⟨a.sig.toNat, List.mem_range.2 (by omega), ?_⟩
  rw [hq.2, Bool.true_and, decide_eq_true_eq]
  rcases toC_char h hs (show a.sig.toNat < c.signals.length by omega) with ⟨b, hb, h1, h2⟩ | ⟨h1, h2⟩
  ·have := h.arcs b hb; omega
  ·exact absurd ⟨hq.1, by omega⟩ (h2 a ha)
 ·rintro ⟨k, hk, hq⟩
  rw [Bool.and_eq_true, decide_eq_true_eq] at hq
  have hkl := List.mem_range.1 hk
  rcases toC_char h hs hkl with ⟨b, hb, h1, h2⟩ | ⟨h1, h2⟩
  ·refine ⟨b, hb, ?_⟩
   unfold arcOwn
   rw [h1.1, h1.2, Int.toNat_natCast, hq.1, Bool.and_true, decide_eq_true_eq]
  ·omega
theorem p_r_l21Own (c : PSG) (n : PNet) (h : Go1 c n) (s : Nat) (hs : s < c.codes.length) : s_r_l21Own [eSG c, pI (s : Int)] = some (pB (ownP c s)) := by
 have hl := h.few
 show (fun x0 x1 => s_r_l21Own [x0, x1]) _ _ = _
 rw [sh_r_l21Own]
 simp only [eSG, List.length_map, EVS]
 refine (congrArg (fun m : Option PV => m.bind fun r => if r.sc = true then some r else none) (rangeAll (R := PV) c.arcs (fun _ a => !arcOwn c s a) (some (pB true)) (some (pB false)) _ (by omega) (fun again j a ha => ?_) (fun again => ?_))).trans ?_
 ·have hj := lt_of_some ha
  have hi : idxV (.lst (c.arcs.map eArc)) (.int .i64 (j : Int)) = some (eArc a) := idx_map ha
  obtain ⟨b1, b2, b3, b4, b5, b6⟩ := h.arcs a (List.mem_of_getElem? ha)
  obtain ⟨g, hg⟩ : ∃ g : Nat, a.sig = g := ⟨a.sig.toNat, by omega⟩
  have hgl : g < c.signals.length := by omega
  have hsg : idxV (.lst (c.signals.map eSig)) (.int .i64 (g : Int)) = some (eSig c.signals[g]) := idx_map (List.getElem?_eq_getElem hgl)
  have hin : ownP.inAt' c g = decide (c.signals[g].2 = 1) := by unfold ownP.inAt'; rw [List.getElem?_eq_getElem hgl]
  unfold arcOwn
  rw [hg, Int.toNat_natCast, hin]
  simp only [eArc, hg] at hi
  cases c1 : decide (a.from_ = (s : Int)) <;> cases c2 : decide (c.signals[g].2 = 1) <;> simp only [lt_d hj, next_w hj (show c.arcs.length ≤ 9223372036854775807 by omega), hi, hg, eArc, c1, c2, hsg, List.drop_succ_cons, List.drop_zero, Bool.false_eq_true, if_false, if_true, EVS]
 ·simp only [ge_d, EVS]
 ·rw [allK_all, ← own_arcs h hs, List.any_eq_not_all_not]
  cases (c.arcs.all fun a => !arcOwn c s a) <;> rfl
theorem p_r_l21Stuck (c : PSG) (n : PNet) (h : Go1 c n) (s : Nat) (v : List UInt8) (hs : s < c.codes.length) (hb : bitsP v n.wires.length = true) : s_r_l21Stuck [eSG c, eNet n, ePs ⟨s, v⟩] = some (pB (stuckP c n ⟨s, v⟩)) := by
 obtain ⟨h1, h2, h3, h4, h5, h6⟩ := h.vals hb
 have g1 := p_r_l19Excited n v h.fitn h2 h1 (by omega)
 have g2 := p_r_l21Own c n h s hs
 show (fun x0 x1 x2 => s_r_l21Stuck [x0, x1, x2]) _ _ _ = _
 rw [sh_r_l21Stuck]
 unfold stuckP quietV
 rw [Int.toNat_natCast]
 simp only [eSG, eNet] at g1 g2
 cases c1 : decide (((pickTo (excitedAt n v) n.wires.length).length : Int) = 0) <;> simp only [eSG, eNet, ePs, pv_t2, pv_t3, g1, g2, List.length_map, c1, EVS]
def misL (c : PSG) (n : PNet) (P : ProdG) : List Nat := selGo (stuckP c n) 0 P.states
theorem p_r_l21Missing (c : PSG) (n : PNet) (h : Go1 c n) (P : ProdG) (hP : PrU c n P) : s_r_l21Missing [eSG c, eNet n, ePr P] = some (.lst ((misL c n P).map eNn)) := by
 have hl := hP.len
 show (fun x0 x1 x2 => s_r_l21Missing [x0, x1, x2]) _ _ _ = _
 rw [sh_r_l21Missing]
 simp only [eSG, eNet, ePr, List.length_map, EVS]
 refine (foldLoop (R := PV) P.states (fun (acc : List Nat) i => [.lst (acc.map eNn), pI (Int.ofNat i)]) (fun i acc => acc.length ≤ i) (fun (acc : List Nat) k b => .inl (if stuckP c n b = true then acc ++ [k] else acc)) (fun l => some (.lst (l.map eNn))) _ (by omega) (fun acc i f acc' hi hf he => ?_) (fun again acc i b hi hf => ?_) (fun again acc hi => ?_) (b := []) (by simp)).trans (sel_fold (stuckP c n) _ _ _ _)
 ·cases he
  split
  ·simp only [List.length_append, List.length_singleton]; omega
  ·omega
 ·have hil := lt_of_some hf
  obtain ⟨s, hbe, hs, hbits⟩ := (hP.ok b (List.mem_of_getElem? hf)).mk'
  obtain ⟨v, hv⟩ : ∃ v, b.values = v := ⟨_, rfl⟩
  rw [hv] at hbe hbits
  subst hbe
  have hix : idxV (.lst (P.states.map ePs)) (.int .i64 (i : Int)) = some (ePs ⟨(s : Int), v⟩) := idx_map hf
  have g := p_r_l21Stuck c n h s v hs hbits
  have hlb : acc.length + [pI (i : Int)].length ≤ 4294967296 ∧ [pI (i : Int)].all (okEl 1) = true := ⟨by simp; omega, rfl⟩
  simp only [eSG, eNet, ePs] at g hix
  cases c1 : stuckP c n ⟨(s : Int), v⟩ <;> rw [c1] at g <;> simp only [lt_d hil, hix, pv_t2, pv_t3, sp2, g, if_pos hlb, next_w hil (show P.states.length ≤ 9223372036854775807 by omega), List.map_append, List.map_cons, List.map_nil, eNn, Bool.false_eq_true, if_false, if_true, EVS]
 ·simp only [ge_d, EVS]
def outL (c : PSG) (k : Nat) : List Nat := (List.range k).filter fun k => !ownP.inAt' c k
theorem p_i_outputs (c : PSG) (hl : c.signals.length ≤ 8) : s_i_outputs [eSG c] = some (.lst ((outL c c.signals.length).map eNn)) := by
 show (fun x0 => s_i_outputs [x0]) _ = _
 rw [sh_i_outputs]
 simp only [eSG, List.length_map, EVS]
 refine (gatherLoop (R := PV) 0 c.signals.length (fun k => [.lst ((outL c k).map eNn), pI (Int.ofNat k)]) (some (.lst ((outL c c.signals.length).map eNn))) _ (by omega) (fun again k k1 k2 => ?_) (fun again => ?_) (Nat.zero_le _) _ (by simp [outL]))
 ·have hsg : idxV (.lst (c.signals.map eSig)) (.int .i64 (k : Int)) = some (eSig c.signals[k]) := idx_map (List.getElem?_eq_getElem k2)
  have hin : ownP.inAt' c k = decide (c.signals[k].2 = 1) := by unfold ownP.inAt'; rw [List.getElem?_eq_getElem k2]
  have hcl : (outL c k).length ≤ k := filt_len _ k
  have hlb : (outL c k).length + [pI (k : Int)].length ≤ 4294967296 ∧ [pI (k : Int)].all (okEl 1) = true := ⟨by simp; omega, rfl⟩
  have hm : c.signals.length ≤ 9223372036854775807 := by omega
  cases c1 : decide (c.signals[k].2 = 1) <;> rw [c1] at hin
  ·have e1 : outL c (k + 1) = outL c k ++ [k] := filt_yes (by rw [hin]; rfl)
   simp only [lt_d k2, hsg, sp2, pv_t2, c1, if_pos hlb, next_w k2 hm, e1, List.map_append, List.map_cons, List.map_nil, eNn, EVS]
  ·have e1 : outL c (k + 1) = outL c k := filt_no (by rw [hin]; rfl)
   simp only [lt_d k2, hsg, sp2, pv_t2, c1, next_w k2 hm, e1, EVS]
 ·simp only [ge_d, EVS]
theorem drop5 (a b c d e f : PV) : List.drop 5 [a, b, c, d, e, f] = [f] := rfl
theorem p_i_misses_1 (c : PSG) (n : PNet) (k s : Nat) (v : List UInt8) (hs : s < c.codes.length) (hk : k < c.signals.length) (A : PV) (hA : A = eSys c n) : s_i_system_misses_1 [pI (k : Int), A, ePs ⟨s, v⟩] = some (pB (decide (0 ≤ toC c s k))) := by
 subst hA
 obtain ⟨row, r1, r2⟩ := rows_idx c hs hk
 show (fun x0 x1 x2 => s_i_system_misses_1 [x0, x1, x2]) _ _ _ = _
 rw [sh_i_system_misses_1]
 simp only [eSys, ePs, drop5, List.drop_zero, r1, r2, EVS]
theorem p_g_IndexFunc_misses (c : PSG) (n : PNet) (s : Nat) (v : List UInt8) (hs : s < c.codes.length) (l : List Nat) (hl : ∀ k ∈ l, k < c.signals.length) (h8 : l.length ≤ 8) :
 s_g_slices_IndexFunc_int__i_system_misses_1 [.lst (l.map eNn), .tup [eSys c n, ePs ⟨s, v⟩]] = some (pI (ixf (fun k => decide (0 ≤ toC c s k)) 0 l)) := by
 show (fun x0 x1 => s_g_slices_IndexFunc_int__i_system_misses_1 [x0, x1]) _ _ = _
 rw [sh_g_slices_IndexFunc_int__i_system_misses_1]
 simp only [EVS]
 refine (congrArg (fun m : Option PV => m.bind fun r => if r.sc = true then some r else none) (rangeIx l (fun k => decide (0 ≤ toC c s k)) _ (by omega) (fun again j k hx => ?_) (fun again => ?_))).trans ?_
 ·have hj := lt_of_some hx
  have hi : idxV (.lst (l.map eNn)) (.int .i64 (j : Int)) = some (pI (k : Int)) := idx_map (enc := eNn) hx
  have g := p_i_misses_1 c n k s v hs (hl k (List.mem_of_getElem? hx)) _ rfl
  simp only [eSys, ePs] at g
  cases c1 : decide (0 ≤ toC c s k) <;> rw [c1] at g <;> simp only [eSys, ePs, List.length_map, lt_d hj, next_w hj (show l.length ≤ 9223372036854775807 by omega), hi, capsAB, g, List.append_nil, List.cons_append, List.nil_append, Bool.false_eq_true, if_false, if_true, EVS]
 ·simp only [List.length_map, ge_d, EVS]
  rfl
 ·simp only [EVS]
theorem p_g_ContainsFunc_misses (c : PSG) (n : PNet) (s : Nat) (v : List UInt8) (hs : s < c.codes.length) (l : List Nat) (hl : ∀ k ∈ l, k < c.signals.length) (h8 : l.length ≤ 8) :
 s_g_slices_ContainsFunc_int__i_system_misses_1 [.lst (l.map eNn), .tup [eSys c n, ePs ⟨s, v⟩]] = some (pB (l.any fun k => decide (0 ≤ toC c s k))) := by
 have g := p_g_IndexFunc_misses c n s v hs l hl h8
 show (fun x0 x1 => s_g_slices_ContainsFunc_int__i_system_misses_1 [x0, x1]) _ _ = _
 rw [sh_g_slices_ContainsFunc_int__i_system_misses_1]
 simp only [g, ixf_ge (fun k => decide (0 ≤ toC c s k)) l 0, EVS]
 rw [allK_all, List.any_eq_not_all_not]
theorem p_i_misses (c : PSG) (n : PNet) (h : Go1 c n) (s : Nat) (v : List UInt8) (hs : s < c.codes.length) (hb : bitsP v n.wires.length = true) : s_i_system_misses [eSys c n, ePs ⟨s, v⟩] = some (pB (stuckP c n ⟨s, v⟩)) := by
 obtain ⟨h1, h2, h3, h4, h5, h6⟩ := h.vals hb
 have hsm := h.smany
 have g1 := p_i_excitedWires n v h.fitn h2 h1 (by omega)
 have g2 := p_i_outputs c hsm
 have hol : (outL c c.signals.length).length ≤ 8 := by have := filt_len (fun k => !ownP.inAt' c k) c.signals.length; unfold outL; omega
 have g3 := p_g_ContainsFunc_misses c n s v hs (outL c c.signals.length) (fun k hk => List.mem_range.1 (List.mem_filter.1 hk).1) hol
 have hany : ((outL c c.signals.length).any fun k => decide (0 ≤ toC c s k)) = ownP c s := by
  unfold outL ownP
  rw [List.any_filter]
 rw [hany] at g3
 show (fun x0 x1 => s_i_system_misses [x0, x1]) _ _ = _
 rw [sh_i_system_misses]
 unfold stuckP quietV
 rw [Int.toNat_natCast]
 have hpv : partV true 0 3 [PV.lst (c.signals.map eSig), .lst (c.codes.map PV.str), .lst (c.arcs.map eArc), .lst (n.signals.map eSig), .lst (n.wires.map eWire), .lst ((rowsC c).map pRow)] = some (.agg [.lst (c.signals.map eSig), .lst (c.codes.map PV.str), .lst (c.arcs.map eArc)]) := rfl
 simp only [eSG, eNet, eSys, ePs] at g1 g2 g3
 cases c1 : ownP c s <;> rw [c1] at g3 <;> cases c2 : decide (((pickTo (excitedAt n v) n.wires.length).length : Int) = 0) <;> simp only [eSys, ePs, hpv, pv_3_2, g1, g2, g3, c2, List.drop_zero, List.length_map, EVS]
theorem p_i_missing (c : PSG) (n : PNet) (h : Go1 c n) (P : ProdG) (hP : PrU c n P) : s_i_system_missing [eSys c n, ePr P] = some (.lst ((misL c n P).map eNn)) := by
 have hl := hP.len
 show (fun x0 x1 => s_i_system_missing [x0, x1]) _ _ = _
 rw [sh_i_system_missing]
 simp only [eSys, ePr, List.length_map, EVS]
 refine (foldLoop (R := PV) P.states (fun (acc : List Nat) i => [.lst (acc.map eNn), pI (Int.ofNat i)]) (fun i acc => acc.length ≤ i) (fun (acc : List Nat) k b => .inl (if stuckP c n b = true then acc ++ [k] else acc)) (fun l => some (.lst (l.map eNn))) _ (by omega) (fun acc i f acc' hi hf he => ?_) (fun again acc i b hi hf => ?_) (fun again acc hi => ?_) (b := []) (by simp)).trans (sel_fold (stuckP c n) _ _ _ _)
 ·cases he
  split
  ·simp only [List.length_append, List.length_singleton]; omega
  ·omega
 ·have hil := lt_of_some hf
  obtain ⟨s, hbe, hs, hbits⟩ := (hP.ok b (List.mem_of_getElem? hf)).mk'
  obtain ⟨v, hv⟩ : ∃ v, b.values = v := ⟨_, rfl⟩
  rw [hv] at hbe hbits
  subst hbe
  have hix : idxV (.lst (P.states.map ePs)) (.int .i64 (i : Int)) = some (ePs ⟨(s : Int), v⟩) := idx_map hf
  have g := p_i_misses c n h s v hs hbits
  have hlb : acc.length + [pI (i : Int)].length ≤ 4294967296 ∧ [pI (i : Int)].all (okEl 1) = true := ⟨by simp; omega, rfl⟩
  simp only [eSys, ePs] at g hix
  cases c1 : stuckP c n ⟨(s : Int), v⟩ <;> rw [c1] at g <;> simp only [lt_d hil, hix, pv_t2, pv_6, sp2, g, if_pos hlb, next_w hil (show P.states.length ≤ 9223372036854775807 by omega), List.map_append, List.map_cons, List.map_nil, eNn, Bool.false_eq_true, if_false, if_true, EVS]
 ·simp only [ge_d, EVS]
def compU (c : PSG) (n : PNet) : Option ProdG := if goP c n = true then prodU c n else none
theorem compU_pr {c : PSG} {n : PNet} (hc : SGFit c) (hn : n.Fit) {P : ProdG} (h : compU c n = some P) : goP c n = true ∧ PrU c n P := by
 unfold compU at h
 split at h
 ·rename_i hg; exact ⟨hg, prodU_pr (goP_go hg hc hn) h⟩
 ·cases h
theorem at_r_Compose (c : PSG) (n : PNet) (hc : SGFit c) (hn : n.Fit) : s_r_Compose [eSG c, eNet n] = some (prR (compU c n)) := by
 have g0 := p_r_l20Go c n hc hn
 show (fun x0 x1 => s_r_Compose [x0, x1]) _ _ = _
 rw [sh_r_Compose]
 unfold compU
 cases c0 : goP c n
 ·rw [c0] at g0
  simp only [eSG, eNet] at g0
  simp only [eSG, eNet, pv_t2, pv_t3, g0, sp_3, Bool.false_eq_true, if_false, EVS]
  rfl
 ·rw [c0] at g0
  have g1 := p_r_l20Product c n (goP_go c0 hc hn)
  simp only [eSG, eNet] at g0 g1
  rw [if_pos rfl]
  cases hp : prodU c n with
  | none =>
   rw [hp] at g1
   simp only [prR, zProd] at g1
   simp only [eSG, eNet, pv_t2, pv_t3, g0, g1, sp_3, EVS]
   rfl
  | some P =>
   rw [hp] at g1
   simp only [prR, ePr] at g1
   simp only [eSG, eNet, pv_t2, pv_t3, g0, g1, sp_3, EVS]
   rfl
theorem at_i_productOf (c : PSG) (n : PNet) (hc : SGFit c) (hn : n.Fit) : s_i_productOf [eSG c, eNet n] = some (match compU c n with | some P => .tup [eSys c n, ePr P, pB true] | none => .tup [if goP c n = true then eSys c n else zSys, zProd, pB false]) := by
 have g0 := at_i_systemOf c n hc hn
 show (fun x0 x1 => s_i_productOf [x0, x1]) _ _ = _
 rw [sh_i_productOf]
 unfold compU
 cases c0 : goP c n
 ·rw [c0] at g0
  simp only [eSG, eNet, zSys, Bool.false_eq_true, if_false] at g0
  simp only [eSG, eNet, pv_t2, pv_t3, g0, spl6', pv_6, sp_3, Bool.false_eq_true, if_false, EVS]
  rfl
 ·rw [c0] at g0
  have g1 := p_i_composed c n (goP_go c0 hc hn)
  simp only [eSG, eNet, eSys, if_true] at g0
  simp only [eSys] at g1
  rw [if_pos rfl]
  cases hp : prodU c n with
  | none =>
   rw [hp] at g1
   simp only [prR, zProd] at g1
   simp only [eSG, eNet, pv_t2, pv_t3, g0, g1, spl6', pv_6, sp_3, EVS]
   rfl
  | some P =>
   rw [hp] at g1
   simp only [prR, ePr] at g1
   simp only [eSG, eNet, pv_t2, pv_t3, g0, g1, spl6', pv_6, sp_3, EVS]
   rfl
def hfP (c : PSG) (n : PNet) : Bool := match compU c n with | some P => decide (((hzA n P).length : Int) = 0) | none => false
def okC (c : PSG) (n : PNet) : Bool := (compU c n).isSome
theorem at_r_l22Told (c : PSG) (n : PNet) (hc : SGFit c) (hn : n.Fit) : s_r_l22Told [eSG c, eNet n] = some (match compU c n with | some P => .tup [ePr P, .lst ((hzA n P).map eFl), pB true] | none => .tup [zProd, .lst [], pB false]) := by
 have g0 := at_r_Compose c n hc hn
 show (fun x0 x1 => s_r_l22Told [x0, x1]) _ _ = _
 rw [sh_r_l22Told]
 cases hp : compU c n with
 | none =>
  rw [hp] at g0
  simp only [eSG, eNet, prR, zProd] at g0
  simp only [eSG, eNet, pv_t2, pv_t3, g0, sp_3, EVS]
  rfl
 | some P =>
  obtain ⟨hg, hP⟩ := compU_pr hc hn hp
  have g1 := p_r_l22Hazards c n (goP_go hg hc hn) P hP
  rw [hp] at g0
  simp only [eSG, eNet, prR, ePr] at g0 g1
  simp only [eSG, eNet, pv_t2, pv_t3, g0, g1, sp_3, EVS]
  rfl
theorem at_r_IsHazardFree (c : PSG) (n : PNet) (hc : SGFit c) (hn : n.Fit) : s_r_IsHazardFree [eSG c, eNet n] = some (.tup [pB (hfP c n), pB (okC c n)]) := by
 have g0 := at_r_l22Told c n hc hn
 show (fun x0 x1 => s_r_IsHazardFree [x0, x1]) _ _ = _
 rw [sh_r_IsHazardFree]
 unfold hfP okC
 cases hp : compU c n with
 | none =>
  rw [hp] at g0
  simp only [eSG, eNet, zProd] at g0
  simp only [eSG, eNet, pv_t2, pv_t3, g0, sp_3, EVS]
  rfl
 | some P =>
  rw [hp] at g0
  simp only [eSG, eNet, ePr] at g0
  simp only [eSG, eNet, pv_t2, pv_t3, g0, sp_3, List.length_map, Option.isSome, EVS]
  rfl
def cfP (c : PSG) (n : PNet) : Bool := match compU c n with | some P => decide ((P.extra.length : Int) = 0) && decide (((misL c n P).length : Int) = 0) | none => false
theorem at_r_Conforms (c : PSG) (n : PNet) (hc : SGFit c) (hn : n.Fit) : s_r_Conforms [eSG c, eNet n] = some (.tup [pB (cfP c n), pB (okC c n)]) := by
 have g0 := at_r_Compose c n hc hn
 show (fun x0 x1 => s_r_Conforms [x0, x1]) _ _ = _
 rw [sh_r_Conforms]
 unfold cfP okC
 cases hp : compU c n with
 | none =>
  rw [hp] at g0
  simp only [eSG, eNet, prR, zProd] at g0
  simp only [eSG, eNet, pv_t2, pv_t3, g0, sp_3, EVS]
  rfl
 | some P =>
  obtain ⟨hg, hP⟩ := compU_pr hc hn hp
  have g1 := p_r_l21Missing c n (goP_go hg hc hn) P hP
  rw [hp] at g0
  simp only [eSG, eNet, prR, ePr] at g0 g1
  cases c1 : decide ((P.extra.length : Int) = 0) <;> simp only [eSG, eNet, pv_t2, pv_t3, g0, g1, sp_3, List.length_map, c1, Option.isSome, EVS] <;> rfl
def vfP (c : PSG) (n : PNet) : Bool := cfP c n && hfP c n
theorem at_r_IsVerified (c : PSG) (n : PNet) (hc : SGFit c) (hn : n.Fit) : s_r_IsVerified [eSG c, eNet n] = some (.tup [pB (vfP c n), pB (okC c n)]) := by
 have g0 := at_r_Conforms c n hc hn
 have g1 := at_r_IsHazardFree c n hc hn
 show (fun x0 x1 => s_r_IsVerified [x0, x1]) _ _ = _
 rw [sh_r_IsVerified]
 unfold vfP
 simp only [eSG, eNet] at g0 g1
 cases c1 : cfP c n <;> rw [c1] at g0 <;> simp only [eSG, eNet, pv_t2, pv_t3, g0, g1, EVS] <;> rfl
theorem at_i_IsVerified (c : PSG) (n : PNet) (hc : SGFit c) (hn : n.Fit) : s_i_IsVerified [eSG c, eNet n] = some (.tup [pB (vfP c n), pB (okC c n)]) := by
 have g0 := at_i_productOf c n hc hn
 show (fun x0 x1 => s_i_IsVerified [x0, x1]) _ _ = _
 rw [sh_i_IsVerified]
 unfold vfP cfP hfP okC
 cases hp : compU c n with
 | none =>
  rw [hp] at g0
  cases c0 : goP c n <;> rw [c0] at g0 <;> simp only [eSG, eNet, zProd, zSys, eSys, Bool.false_eq_true, if_false, if_true] at g0 <;> simp only [eSG, eNet, pv_t2, pv_t3, g0, spl6', sp_3, EVS] <;> rfl
 | some P =>
  obtain ⟨hg, hP⟩ := compU_pr hc hn hp
  have g1 := p_i_missing c n (goP_go hg hc hn) P hP
  have g2 := p_i_hazards c n (goP_go hg hc hn) P hP
  rw [hp] at g0
  simp only [eSG, eNet, ePr, eSys] at g0 g1 g2
  cases c1 : decide ((P.extra.length : Int) = 0) <;> cases c2 : decide (((misL c n P).length : Int) = 0) <;> simp only [eSG, eNet, pv_t2, pv_t3, pv_6, g0, g1, g2, spl6', sp_3, List.length_map, c1, c2, Option.isSome, EVS] <;> rfl
theorem to_Arc (a : PArc) : s_w_toArc [eArc a] = some (eArc a) := by
 show (fun x0 => s_w_toArc [x0]) _ = _
 rw [sh_w_toArc]
 simp only [eArc, EVS]
theorem eq_Arc (a : PArc) : s_w_eqArc [eArc a, eArc a] = some (pB true) := by
 show (fun x0 x1 => s_w_eqArc [x0, x1]) _ _ = _
 rw [sh_w_eqArc]
 simp only [eArc, beq_self_eq_true, EVS]
theorem sz_ArcS (xs : List (PArc)) (l : Int) (hb : (xs).length ≤ 9223372036854775807) (h0 : 0 ≤ l) (h1 : l ≤ 1048576) : SzOk (s_w_szArcS [.lst (xs.map eArc), pI l]) l ((xs).length ≤ 1048576) := by
 have hx : xs.length ≤ 9223372036854775807 := hb
 show SzOk ((fun x0 x1 => s_w_szArcS [x0, x1]) _ _) _ _
 rw [sh_w_szArcS]
 have w1 : IntKind.i64.wrap (l - (xs.length : Int)) = l - (xs.length : Int) := wrap_of (by omega) (by omega)
 simp only [w1, List.length_map, EVS]
 by_cases c : l - (xs.length : Int) < 0
 ·simp only [c, EVS]; exact SzOk.neg h0
 ·simp only [c, EVS]; exact SzOk.pos (by omega) (by omega)
theorem to_ArcS (xs : List (PArc)) (hb : (xs).length ≤ 1048576) : s_w_toArcS [.lst (xs.map eArc)] = some (.lst (xs.map eArc)) := by
 have hx : xs.length ≤ 1048576 := hb
 show (fun x0 => s_w_toArcS [x0]) _ = _
 rw [sh_w_toArcS]
 simp only [mk_v _ _ (show xs.length ≤ 4294967296 by omega), List.length_map, EVS]
 refine toLoop xs eArc 4 _ _ (by omega) ?_ (fun _ => ?_) (fun _ => ?_) (fun again k x row el hk hl he hs => ?_) (fun again row => ?_)
 ·rfl
 ·rfl
 ·exact ⟨fun _ => ⟨_, rfl⟩, fun _ => ⟨_, rfl⟩⟩
 ·have hi : idxV (.lst (xs.map eArc)) (.int .i64 (k : Int)) = some ((eArc x)) := idx_map hk
  have hkr : k < row.length := by rw [hl]; exact lt_of_some hk
  have g1 := to_Arc x
  simp only [eArc] at g1 hi hs
  simp only [eArc, lt_d (lt_of_some hk), next_w (lt_of_some hk) (show xs.length ≤ 9223372036854775807 by omega), hi, g1, plc_at hkr, he, hs, EVS]
 ·simp only [ge_d, EVS]
theorem eq_ArcS (xs : List (PArc)) (hb : (xs).length ≤ 9223372036854775807) : s_w_eqArcS [.lst (xs.map eArc), .lst (xs.map eArc)] = some (pB true) := by
 have hx : xs.length ≤ 9223372036854775807 := hb
 show (fun x0 x1 => s_w_eqArcS [x0, x1]) _ _ = _
 rw [sh_w_eqArcS]
 simp only [List.length_map, EVS]
 refine (congrArg (fun m : Option PV => m.bind fun r => if r.sc = true then some r else none) (rangeAll (R := PV) xs (fun _ _ => true) (some (pB false)) (some (pB true)) _ hx (fun again k x hk => ?_) (fun again => ?_))).trans ?_
 ·have hi : idxV (.lst (xs.map eArc)) (.int .i64 (k : Int)) = some ((eArc x)) := idx_map hk
  have g1 := eq_Arc x
  simp only [eArc] at g1 hi
  simp only [lt_d (lt_of_some hk), next_w (lt_of_some hk) hx, hi, g1, EVS]
 ·simp only [ge_d, EVS]
 ·rw [show allK (fun (_ : Nat) (_ : PArc) => true) 0 xs = true from allK_true xs 0]; rfl
def BdStateGraph (m : Nat) (a : PSG) : Prop := ((a.signals).length ≤ m ∧ ∀ x ∈ a.signals, BdSignal m x) ∧ ((a.codes).length ≤ m ∧ ∀ x ∈ a.codes, (x).length ≤ m) ∧ (a.arcs).length ≤ m
theorem sz_StateGraph (a : PSG) (l : Int) (hb : BdStateGraph 9223372036854775807 a) (h0 : 0 ≤ l) (h1 : l ≤ 1048576) : SzOk (s_w_szStateGraph [eSG a, pI l]) l (BdStateGraph 1048576 a) := by
 obtain ⟨b0, b1, b2⟩ := hb
 unfold BdStateGraph
 show SzOk ((fun x0 x1 => s_w_szStateGraph [x0, x1]) _ _) _ _
 rw [sh_w_szStateGraph]
 simp only [eSG, EVS]
 obtain ⟨r0, g0, y0, z0⟩ := sz_SignalS a.signals l b0 (by omega) (by omega)
 try simp only [g0, EVS]
 by_cases c0 : r0 < 0
 ·simp only [g0, c0, EVS]; exact SzOk.neg h0
 try simp only [g0, c0, EVS]
 have q0 : 0 ≤ r0 ∧ r0 ≤ l := by omega
 obtain ⟨r1, g1, y1, z1⟩ := sz_StringS a.codes r0 b1 (by omega) (by omega)
 try simp only [g1, EVS]
 by_cases c1 : r1 < 0
 ·simp only [g1, c1, EVS]; exact SzOk.neg h0
 try simp only [g1, c1, EVS]
 have q1 : 0 ≤ r1 ∧ r1 ≤ l := by omega
 obtain ⟨r2, g2, y2, z2⟩ := sz_ArcS a.arcs r1 b2 (by omega) (by omega)
 try simp only [g2, EVS]
 by_cases c2 : r2 < 0
 ·simp only [g2, c2, EVS]; exact SzOk.neg h0
 try simp only [g2, c2, EVS]
 have q2 : 0 ≤ r2 ∧ r2 ≤ l := by omega
 exact SzOk.pos (by omega) ⟨(z0 (by omega)), (z1 (by omega)), (z2 (by omega))⟩
theorem to_StateGraph (a : PSG) (hb : BdStateGraph 1048576 a) : s_w_toStateGraph [eSG a] = some (eSG a) := by
 obtain ⟨b0, b1, b2⟩ := hb
 have g0 := to_SignalS a.signals b0
 have g1 := to_StringS a.codes b1
 have g2 := to_ArcS a.arcs b2
 show (fun x0 => s_w_toStateGraph [x0]) _ = _
 rw [sh_w_toStateGraph]
 simp only [eSG, g0, g1, g2, EVS]
theorem eq_StateGraph (a : PSG) (hb : BdStateGraph 9223372036854775807 a) : s_w_eqStateGraph [eSG a, eSG a] = some (pB true) := by
 obtain ⟨b0, b1, b2⟩ := hb
 have g0 := eq_SignalS a.signals b0
 have g1 := eq_StringS a.codes b1
 have g2 := eq_ArcS a.arcs b2
 show (fun x0 x1 => s_w_eqStateGraph [x0, x1]) _ _ = _
 rw [sh_w_eqStateGraph]
 simp only [eSG, g0, g1, g2, beq_self_eq_true, EVS]
theorem PSG.fit_of {c : PSG} (h : BdStateGraph 9223372036854775807 c) : SGFit c := by
 obtain ⟨⟨h1, h2⟩, ⟨h3, h4⟩, h5⟩ := h
 exact ⟨h1, fun s hs => h2 s hs, h3, fun x hx => h4 x hx, h5⟩
theorem law_IsVerified (c : PSG) (n : PNet) (hc : BdStateGraph 9223372036854775807 c) (hn : BdNetlist 9223372036854775807 n) : s_w_FnExactIsVerified [eSG c, eNet n] = some (pB true) := by
 have a1 := at_r_IsVerified c n (PSG.fit_of hc) (PNet.fit_of hn)
 have a2 := at_i_IsVerified c n (PSG.fit_of hc) (PNet.fit_of hn)
 have b3 := eq_StateGraph c hc
 have a3 := eq_Netlist n hn
 obtain ⟨r, b4, hr, bz⟩ := sz_StateGraph c 1048576 hc (by omega) (by omega)
 simp only [eSG, eNet] at a1 a2 a3 b3 b4
 show (fun x0 x1 => s_w_FnExactIsVerified [x0, x1]) _ _ = _
 rw [sh_w_FnExactIsVerified]
 simp only [eSG, eNet, pv_t2, pv_t3, b4, EVS]
 by_cases c1 : r < 0 <;> simp only [c1, EVS]
 have b5 := to_StateGraph c (bz (by omega))
 obtain ⟨r2, a4, _, az⟩ := sz_Netlist n r hn (by omega) (by omega)
 simp only [eNet] at a4
 simp only [a4, EVS]
 by_cases c2 : r2 < 0 <;> simp only [c2, EVS]
 have a5 := to_Netlist n (az (by omega))
 simp only [eSG, eNet] at a5 b5
 simp only [pv_t2, pv_t3, a1, a2, a3, b3, a5, b5, beq_self_eq_true, EVS]
 try rfl
end Go.Proofs.YtmfplddmccggkaaGreat
