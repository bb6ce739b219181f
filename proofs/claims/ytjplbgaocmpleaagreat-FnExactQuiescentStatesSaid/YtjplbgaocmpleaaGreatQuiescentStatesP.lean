/-
  PLAIN LAWS of what the functions compute that FnExactQuiescentStates reaches.
-/
import Derived.Test.YtjplbgaocmpleaaGreatQuiescentStatesF
import Derived.Test.YtjplbgaocmpleaaGreatData

namespace Go.Proofs.YtjplbgaocmpleaaGreat
open Go.RowKit
set_option linter.unusedVariables false
set_option linter.unusedSimpArgs false
theorem p_r_l1In (n lo hi : Int) : s_r_l1In [pI n, pI lo, pI hi] = some (pB (decide (lo ≤ n) && decide (n ≤ hi))) := by
  show (fun x0 x1 x2 => s_r_l1In [x0, x1, x2]) _ _ _ = _
  rw [sh_r_l1In]
  by_cases h : lo ≤ n <;> simp only [h, EVS]
/-- A name's byte. -/
def nameB (first : Bool) (b : UInt8) : Bool := (decide ((97 : Int) ≤ b.toNat) && decide ((b.toNat : Int) ≤ 122)) || (!first && (!decide ((b.toNat : Int) < 48) && !decide ((57 : Int) < b.toNat)))
def nameGo : Bool → List UInt8 → Bool
  | _, [] => true
  | f, b :: r => nameB f b && nameGo false r
def isNameP (s : List UInt8) : Bool := nameGo true s && (decide ((1 : Int) ≤ s.length) && decide ((s.length : Int) ≤ 6))
theorem p_r_l2Name (s : List UInt8) (hs : s.length ≤ 9223372036854775807) : s_r_l2Name [.str s] = some (pB (isNameP s)) := by
  show (fun x0 => s_r_l2Name [x0]) _ = _
  rw [sh_r_l2Name]
  refine (congrArg (scOnly true) (loopR_go (R := PV) (fun k : Nat => [pI (Int.ofNat k)]) (fun k => s.length + 1 - k) (fun k => some (pB (nameGo (k == 0) (s.drop k) && (decide ((1 : Int) ≤ s.length) && decide ((s.length : Int) ≤ 6))))) _ (fun again k ih => ?_) _ 0 (by omega))).trans ?_
  · by_cases hk : k < s.length
    · obtain ⟨b, hb⟩ : ∃ b, s[k]? = some b := ⟨s[k], List.getElem?_eq_getElem hk⟩
      have hd : s.drop k = b :: s.drop (k + 1) := by
        obtain ⟨h1, rfl⟩ := List.getElem?_eq_some_iff.1 hb
        exact List.drop_eq_getElem_cons h1
      have hlt : decide ((k : Int) < s.length) = true := by simpa using hk
      have hw : IntKind.i64.wrap ((k : Int) + 1) = ((k + 1 : Nat) : Int) := by rw [wrap_of (by omega) (by omega)]; omega
      have hnext := ih (k + 1) (by omega)
      simp only [Int.ofNat_eq_natCast] at hnext
      have hk0 : decide ((k : Int) = 0) = (k == 0) := by rw [Bool.eq_iff_iff]; simp
      rw [hd]
      have hk1 : (k + 1 == 0) = false := rfl
      rw [hk1] at hnext
      have ev1 := hlt
      have ev2 := byteV_at (k := .i64) hb
      simp only [nameGo, nameB, hlt, byteV_at hb, hk0, hw, hnext, EVS]
      by_cases c1 : (97 : Int) ≤ b.toNat
      all_goals simp only [c1, byteV_at hb, EVS]
      by_cases c2 : (b.toNat : Int) ≤ 122
      all_goals try simp only [c2, byteV_at hb, EVS]
      all_goals try simp only [hk0]
      all_goals try (cases c5 : (k == 0))
      all_goals try simp only [c5, byteV_at hb, EVS]
      all_goals try (by_cases c3 : (b.toNat : Int) < 48)
      all_goals try simp only [c3, byteV_at hb, EVS]
      all_goals try (by_cases c4 : (57 : Int) < b.toNat)
      all_goals try simp only [c4, byteV_at hb, EVS]
    · have hd : s.drop k = [] := List.drop_eq_nil_of_le (by omega)
      have hlt : decide ((k : Int) < s.length) = false := by simpa using hk
      rw [hd]
      simp only [nameGo, hlt, p_r_l1In, EVS]
  · simp only [isNameP, List.drop_zero, beq_self_eq_true, EVS]
end Go.Proofs.YtjplbgaocmpleaaGreat

namespace Go.Proofs.YtjplbgaocmpleaaGreat
open Go.RowKit
set_option linter.unusedVariables false
set_option linter.unusedSimpArgs false
def cubeB (b : UInt8) : Bool := decide ((b.toNat : Int) = 48) || decide ((b.toNat : Int) = 49) || decide ((b.toNat : Int) = 45)
def cubeP (s : List UInt8) : Bool := allK (fun _ b => cubeB b) 0 s && (decide ((1 : Int) ≤ s.length) && decide ((s.length : Int) ≤ 8))
theorem lt_of_some {α : Type} {l : List α} {k : Nat} {x : α} (h : l[k]? = some x) : k < l.length := (List.getElem?_eq_some_iff.1 h).1
theorem next_w {k n : Nat} (h : k < n) (hn : n ≤ 9223372036854775807) : IntKind.i64.wrap ((k : Int) + 1) = ((k + 1 : Nat) : Int) := by rw [wrap_of (by omega) (by omega)]; omega
theorem lt_d {k n : Nat} (h : k < n) : decide ((k : Int) < (n : Int)) = true := by simpa using h
theorem ge_d {n : Nat} : decide ((n : Int) < (n : Int)) = false := by simp
theorem p_r_l13Cube (s : List UInt8) (hs : s.length ≤ 9223372036854775807) : s_r_l13Cube [.str s] = some (pB (cubeP s)) := by
  show (fun x0 => s_r_l13Cube [x0]) _ = _
  rw [sh_r_l13Cube]
  refine (congrArg (scOnly true) (rangeAll (R := PV) s (fun _ b => cubeB b) (some (pB false)) (some (pB (decide ((1 : Int) ≤ s.length) && decide ((s.length : Int) ≤ 8)))) _ hs (fun again k b hb => ?_) (fun again => ?_))).trans ?_
  · have hk := lt_of_some hb
    cases c1 : decide ((b.toNat : Int) = 48) <;> cases c2 : decide ((b.toNat : Int) = 49) <;> cases c3 : decide ((b.toNat : Int) = 45) <;>
      simp only [cubeB, lt_d hk, next_w hk hs, byteV_at hb, c1, c2, c3, EVS]
  · simp only [ge_d, p_r_l1In, EVS]
  · unfold cubeP
    cases allK (fun _ b => cubeB b) 0 s <;> simp only [EVS]
end Go.Proofs.YtjplbgaocmpleaaGreat

namespace Go.Proofs.YtjplbgaocmpleaaGreat
open Go.RowKit
set_option linter.unusedVariables false
set_option linter.unusedSimpArgs false
abbrev eSig (s : List UInt8 × Int) : PV := .agg [.str s.1, pI s.2]
def inR (n lo hi : Int) : Bool := decide (lo ≤ n) && decide (n ≤ hi)
def sigOk (l : List (List UInt8 × Int)) (k : Nat) (s : List UInt8 × Int) : Bool := (isNameP s.1 && inR s.2 1 3) && allK (fun _ y => !decide (s.1 = y.1)) 0 (l.take k)
def sigsP (l : List (List UInt8 × Int)) : Bool := allK (sigOk l) 0 l && inR l.length 1 8
theorem okEl_eSig (x : List UInt8 × Int) : okEl 2 (eSig x) = true := rfl
theorem p_r_l2Signals (l : List (List UInt8 × Int)) (hl : l.length ≤ 9223372036854775807) (hs : ∀ s ∈ l, s.1.length ≤ 9223372036854775807) : s_r_l2Signals [.lst (l.map eSig)] = some (pB (sigsP l)) := by
  show (fun x0 => s_r_l2Signals [x0]) _ = _
  rw [sh_r_l2Signals]
  simp only [EVS]
  refine (congrArg (scOnly true) (rangeAll (R := PV) l (sigOk l) (some (pB false)) (some (pB (inR l.length 1 8))) _ hl (fun again k s hb => ?_) (fun again => ?_))).trans ?_
  · have hk := lt_of_some hb
    have hi : idxV (.lst (l.map eSig)) (.int .i64 (k : Int)) = some (eSig s) := idx_map hb
    have hc : cutL 2 (.lst (l.map eSig)) none (some (.int .i64 (k : Int))) = some (.lst ((l.take k).map eSig)) := cut_map okEl_eSig (by omega)
    have hn := p_r_l2Name s.1 (hs s (List.mem_of_getElem? hb))
    simp only [lt_d hk, next_w hk hl, hi, eSig, hn, p_r_l1In, sigOk, inR, EVS]
    obtain c1 | c1 := (Bool.eq_false_or_eq_true (isNameP s.1)).symm <;> simp only [c1, p_r_l1In, EVS]
    obtain c2 | c2 := (Bool.eq_false_or_eq_true (decide (1 ≤ s.2) && decide (s.2 ≤ 3))).symm <;> simp only [c2, EVS]
    simp only [hc, EVS]
    refine (rangeAll (R := PV) (l.take k) (fun _ y => !decide (s.1 = y.1)) (some (pB false)) (again [pI ((k + 1 : Nat) : Int)]) _ (by simp; omega) (fun again' j y hy => ?_) (fun again' => ?_)).trans ?_
    · have hj := lt_of_some hy
      have hi' : idxV (.lst ((l.take k).map eSig)) (.int .i64 (j : Int)) = some (eSig y) := idx_map hy
      simp only [lt_d hj, next_w hj (by simp; omega), hi', eSig, EVS]
      cases c3 : decide (s.1 = y.1) <;> simp only [c3, EVS]
    · simp only [ge_d, next_w hk hl, EVS]
    · rfl
  · simp only [ge_d, p_r_l1In, inR, EVS]
  · unfold sigsP
    cases allK (sigOk l) 0 l <;> simp only [EVS]
end Go.Proofs.YtjplbgaocmpleaaGreat

namespace Go.Proofs.YtjplbgaocmpleaaGreat
open Go.RowKit
set_option linter.unusedVariables false
set_option linter.unusedSimpArgs false
def coverGo (n : Int) (l : List (List UInt8)) : Bool := allK (fun _ c => cubeP c && decide ((c.length : Int) = n)) 0 l
def goodP (n : Int) (l : List (List UInt8)) : Bool := coverGo n l && (inR n 1 8 && decide ((l.length : Int) ≤ 60))
theorem p_r_l13Good (n : Int) (l : List (List UInt8)) (hl : l.length ≤ 9223372036854775807) (hs : ∀ s ∈ l, s.length ≤ 9223372036854775807) : s_r_l13Good [pI n, .lst (l.map PV.str)] = some (pB (goodP n l)) := by
  show (fun x0 x1 => s_r_l13Good [x0, x1]) _ _ = _
  rw [sh_r_l13Good]
  simp only [EVS]
  refine (congrArg (scOnly true) (rangeAll (R := PV) l (fun _ c => cubeP c && decide ((c.length : Int) = n)) (some (pB false)) (some (pB (inR n 1 8 && decide ((l.length : Int) ≤ 60)))) _ hl (fun again k s hb => ?_) (fun again => ?_))).trans ?_
  · have hk := lt_of_some hb
    have hi : idxV (.lst (l.map PV.str)) (.int .i64 (k : Int)) = some (.str s) := idx_map hb
    have hn := p_r_l13Cube s (hs s (List.mem_of_getElem? hb))
    simp only [lt_d hk, next_w hk hl, hi, hn, EVS]
    obtain c1 | c1 := (Bool.eq_false_or_eq_true (cubeP s)).symm <;> simp only [c1, EVS]
    obtain c2 | c2 := (Bool.eq_false_or_eq_true (decide ((s.length : Int) = n))).symm <;> simp only [c2, EVS]
  · simp only [ge_d, p_r_l1In, inR, EVS]
    obtain c1 | c1 := (Bool.eq_false_or_eq_true (decide (1 ≤ n) && decide (n ≤ 8))).symm <;> simp only [c1, EVS]
  · unfold goodP coverGo
    cases allK (fun _ c => cubeP c && decide ((c.length : Int) = n)) 0 l <;> simp only [EVS]
structure PWire where
  name : List UInt8
  kind : Int
  ins : List (Int × Bool)
  cover : List (List UInt8)
structure PNet where
  signals : List (List UInt8 × Int)
  wires : List PWire
abbrev ePin (p : Int × Bool) : PV := .agg [pI p.1, pB p.2]
abbrev eWire (w : PWire) : PV := .agg [.str w.name, pI w.kind, .lst (w.ins.map ePin), .lst (w.cover.map PV.str)]
abbrev eNet (n : PNet) : PV := .agg [.lst (n.signals.map eSig), .lst (n.wires.map eWire)]
abbrev Fits {α : Type} (l : List α) : Prop := l.length ≤ 9223372036854775807
structure PWire.Fit (w : PWire) : Prop where
  name : Fits w.name
  ins : Fits w.ins
  cover : Fits w.cover
  cubes : ∀ c ∈ w.cover, Fits c
structure PNet.Fit (n : PNet) : Prop where
  signals : Fits n.signals
  names : ∀ s ∈ n.signals, Fits s.1
  wires : Fits n.wires
  wire : ∀ w ∈ n.wires, w.Fit
def pinOk (n : PNet) (k : Nat) (p : Int × Bool) : Bool := inR p.1 0 ((n.wires.length : Int) - 1) && !(decide ((n.signals.length : Int) ≤ k) && decide ((k : Int) ≤ p.1))
def pinForm (k : Nat) (kind : Int) (ins : List (Int × Bool)) : Bool :=
  if decide (kind = 1) = true then decide ((ins.length : Int) = 0)
  else if decide (kind = 4) = true then decide ((ins.length : Int) = 2)
  else if decide (kind = 5) = true then decide ((ins.length : Int) = 0) || (match ins with | [p] => decide (p.1 = k) && !p.2 | _ => false)
  else inR ins.length 1 8
def pinsP (n : PNet) (k : Nat) (w : PWire) : Bool := allK (fun _ p => pinOk n k p) 0 w.ins && pinForm k w.kind w.ins
theorem p_r_l19Pins (n : PNet) (k : Nat) (w : PWire) (hn : n.Fit) (hw : w.Fit) : s_r_l19Pins [eNet n, pI k, eWire w] = some (pB (pinsP n k w)) := by
  show (fun x0 x1 x2 => s_r_l19Pins [x0, x1, x2]) _ _ _ = _
  rw [sh_r_l19Pins]
  simp only [eNet, eWire, EVS]
  have hwl : IntKind.i64.wrap ((n.wires.length : Int) - 1) = (n.wires.length : Int) - 1 := wrap_of (by omega) (by have := hn.wires; unfold Fits at this; omega)
  have hi0 := hw.ins
  unfold Fits at hi0
  refine (congrArg (scOnly true) (rangeAll (R := PV) w.ins (fun _ p => pinOk n k p) (some (pB false)) (some (pB (pinForm k w.kind w.ins))) _ hi0 (fun again j p hb => ?_) (fun again => ?_))).trans ?_
  · have hk := lt_of_some hb
    have hi : idxV (.lst (w.ins.map ePin)) (.int .i64 (j : Int)) = some (ePin p) := idx_map hb
    simp only [lt_d hk, next_w hk hi0, hi, ePin, hwl, p_r_l1In, pinOk, inR, EVS]
    obtain c1 | c1 := (Bool.eq_false_or_eq_true (decide (0 ≤ p.1) && decide (p.1 ≤ (n.wires.length : Int) - 1))).symm <;> simp only [c1, EVS]
    obtain c2 | c2 := (Bool.eq_false_or_eq_true (decide ((n.signals.length : Int) ≤ (k : Int)))).symm <;> simp only [c2, EVS]
    obtain c3 | c3 := (Bool.eq_false_or_eq_true (decide ((k : Int) ≤ p.1))).symm <;> simp only [c3, EVS]
  · simp only [ge_d, pinForm, EVS]
    obtain c1 | c1 := (Bool.eq_false_or_eq_true (decide (w.kind = 1))).symm <;> simp only [c1, EVS]
    obtain c2 | c2 := (Bool.eq_false_or_eq_true (decide (w.kind = 4))).symm <;> simp only [c2, EVS]
    obtain c3 | c3 := (Bool.eq_false_or_eq_true (decide (w.kind = 5))).symm <;> simp only [c3, p_r_l1In, inR, EVS]
    have h01 : decide ((0 : Int) = 1) = false := rfl
    have h00 : decide ((0 : Int) = 0) = true := rfl
    have h11 : decide ((1 : Int) = 1) = true := rfl
    have h10 : decide ((1 : Int) = 0) = false := rfl
    rcases hq : w.ins with _ | ⟨p, _ | ⟨q, r⟩⟩
    · simp only [List.length_nil, h00, EVS]
    · have hi : idxV (.lst ([p].map ePin)) (.int .i64 0) = some (ePin p) := rfl
      simp only [List.length_cons, List.length_nil, Nat.zero_add, h11, h10, hi, ePin, List.drop_zero, List.drop_succ_cons, EVS]
      obtain c4 | c4 := (Bool.eq_false_or_eq_true (decide (p.1 = (k : Int)))).symm <;> simp only [c4, h11, h10, hi, ePin, List.drop_zero, List.drop_succ_cons, EVS]
    · have h2 : decide (((r.length + 1 + 1 : Nat) : Int) = 0) = false := by simp; omega
      have h3 : decide (((r.length + 1 + 1 : Nat) : Int) = 1) = false := by simp; omega
      simp only [List.length_cons, h2, h3, EVS]
  · unfold pinsP
    cases allK (fun _ p => pinOk n k p) 0 w.ins <;> simp only [EVS]
end Go.Proofs.YtjplbgaocmpleaaGreat

namespace Go.Proofs.YtjplbgaocmpleaaGreat
open Go.RowKit
set_option linter.unusedVariables false
set_option linter.unusedSimpArgs false
def wireSeen (n : PNet) (k : Nat) (w : PWire) : Bool := match n.signals[k]? with | some s => decide (w.name = s.1) && (decide (w.kind = 1) == decide (s.2 = 1)) | none => false
def wireP (n : PNet) (k : Nat) (w : PWire) : Bool :=
  let seen := decide ((k : Int) < (n.signals.length : Int))
  (inR w.kind 1 5 && (seen || decide (w.kind = 2) || decide (w.kind = 3))) && (!seen || wireSeen n k w) && (if decide (w.kind = 5) = true then goodP n.signals.length w.cover else !decide ((0 : Int) < w.cover.length)) && (isNameP w.name && pinsP n k w)
theorem p_r_l19Wire (n : PNet) (k : Nat) (w : PWire) (hn : n.Fit) (hw : w.Fit) : s_r_l19Wire [eNet n, pI k, eWire w] = some (pB (wireP n k w)) := by
  have g1 := p_r_l13Good n.signals.length w.cover hw.cover hw.cubes
  have g2 := p_r_l2Name w.name hw.name
  have g3 := p_r_l19Pins n k w hn hw
  have g4 := p_r_l1In w.kind 1 5
  simp only [eNet, eWire] at g3
  show (fun x0 x1 x2 => s_r_l19Wire [x0, x1, x2]) _ _ _ = _
  rw [sh_r_l19Wire]
  simp only [eNet, eWire, g4, EVS]
  have fin : ∀ b : Bool, ((some (pB (isNameP w.name && b)))) = (some (pB (isNameP w.name && b))) := fun _ => rfl
  simp only [wireP, inR]
  obtain c1 | c1 := (Bool.eq_false_or_eq_true (decide (1 ≤ w.kind) && decide (w.kind ≤ 5))).symm <;> simp only [c1, EVS]
  obtain c2 | c2 := (Bool.eq_false_or_eq_true (decide ((k : Int) < (n.signals.length : Int)))).symm <;> simp only [c2, EVS]
  · obtain c3 | c3 := (Bool.eq_false_or_eq_true (decide (w.kind = 2))).symm <;> simp only [c3, EVS]
    · obtain c4 | c4 := (Bool.eq_false_or_eq_true (decide (w.kind = 3))).symm <;> simp only [c4, EVS]
      have c5 : decide (w.kind = 5) = false := by have := of_decide_eq_true c4; simp; omega
      simp only [c5, EVS]
      obtain c6 | c6 := (Bool.eq_false_or_eq_true (decide ((0 : Int) < w.cover.length))).symm <;> simp only [c6, g2, EVS]
      obtain c7 | c7 := (Bool.eq_false_or_eq_true (isNameP w.name)).symm <;> simp only [c7, g3, EVS]
    · have c4 : decide (w.kind = 3) = false := by have := of_decide_eq_true c3; simp; omega
      have c5 : decide (w.kind = 5) = false := by have := of_decide_eq_true c3; simp; omega
      simp only [c4, c5, EVS]
      obtain c6 | c6 := (Bool.eq_false_or_eq_true (decide ((0 : Int) < w.cover.length))).symm <;> simp only [c6, g2, EVS]
      obtain c7 | c7 := (Bool.eq_false_or_eq_true (isNameP w.name)).symm <;> simp only [c7, g3, EVS]
  · have hk : k < n.signals.length := by have := of_decide_eq_true c2; omega
    have hs : n.signals[k]? = some n.signals[k] := List.getElem?_eq_getElem hk
    have hi : idxV (.lst (n.signals.map eSig)) (.int .i64 (k : Int)) = some (eSig n.signals[k]) := idx_map hs
    simp only [wireSeen, hs, hi, eSig, List.drop_zero, List.drop_succ_cons, EVS]
    obtain c3 | c3 := (Bool.eq_false_or_eq_true (decide (w.name = n.signals[k].1))).symm <;> simp only [c3, hi, eSig, List.drop_zero, List.drop_succ_cons, EVS]
    obtain c4 | c4 := (Bool.eq_false_or_eq_true (decide (w.kind = 1) == decide (n.signals[k].2 = 1))).symm <;> simp only [bne, c4, hi, eSig, List.drop_zero, List.drop_succ_cons, EVS]
    obtain c5 | c5 := (Bool.eq_false_or_eq_true (decide (w.kind = 5))).symm <;> simp only [c5, g1, g2, EVS]
    · obtain c6 | c6 := (Bool.eq_false_or_eq_true (decide ((0 : Int) < w.cover.length))).symm <;> simp only [c6, g2, EVS]
      obtain c7 | c7 := (Bool.eq_false_or_eq_true (isNameP w.name)).symm <;> simp only [c7, g3, EVS]
    · obtain c6 | c6 := (Bool.eq_false_or_eq_true (goodP n.signals.length w.cover)).symm <;> simp only [c5, c6, g2, EVS]
      obtain c7 | c7 := (Bool.eq_false_or_eq_true (isNameP w.name)).symm <;> simp only [c5, c7, g3, EVS]
/-- Each wire is right, and no wire ahead has its name. -/
def netWireOk (n : PNet) (k : Nat) (w : PWire) : Bool := wireP n k w && allK (fun _ v => !decide (v.name = w.name)) 0 (n.wires.take k)
def netP (n : PNet) : Bool := sigsP n.signals && (!decide ((n.wires.length : Int) < n.signals.length) && !decide ((24 : Int) < n.wires.length)) && allK (netWireOk n) 0 n.wires
theorem okEl_eWire (x : PWire) : okEl 4 (eWire x) = true := rfl
theorem cells4 (a b c d : PV) : cellsW 4 (.agg [a, b, c, d]) = some [a, b, c, d] := (Eq.refl _).trans (Eq.refl _)
theorem p_r_l19Good (n : PNet) (hn : n.Fit) : s_r_l19Good [eNet n] = some (pB (netP n)) := by
  have g1 := p_r_l2Signals n.signals hn.signals hn.names
  have hwl := hn.wires
  unfold Fits at hwl
  show (fun x0 => s_r_l19Good [x0]) _ = _
  rw [sh_r_l19Good]
  simp only [eNet, g1, EVS]
  unfold netP
  obtain c1 | c1 := (Bool.eq_false_or_eq_true (sigsP n.signals)).symm <;> simp only [c1, EVS]
  obtain c2 | c2 := (Bool.eq_false_or_eq_true (decide ((n.wires.length : Int) < n.signals.length))).symm <;> simp only [c2, EVS]
  obtain c3 | c3 := (Bool.eq_false_or_eq_true (decide ((24 : Int) < n.wires.length))).symm <;> simp only [c3, EVS]
  refine (congrArg (scOnly true) (rangeAll (R := PV) n.wires (netWireOk n) (some (pB false)) (some (pB true)) _ hwl (fun again k w hb => ?_) (fun again => ?_))).trans ?_
  · have hk := lt_of_some hb
    have hi : idxV (.lst (n.wires.map eWire)) (.int .i64 (k : Int)) = some (eWire w) := idx_map hb
    have hc : cutL 4 (.lst (n.wires.map eWire)) none (some (.int .i64 (k : Int))) = some (.lst ((n.wires.take k).map eWire)) := cut_map okEl_eWire (by omega)
    have g3 := p_r_l19Wire n k w hn (hn.wire w (List.mem_of_getElem? hb))
    simp only [eNet, eWire] at g3
    simp only [lt_d hk, next_w hk hwl, hi, eWire, netWireOk, g3, EVS]
    obtain c4 | c4 := (Bool.eq_false_or_eq_true (wireP n k w)).symm <;> simp only [c4, hc, EVS]
    refine (rangeAll (R := PV) (n.wires.take k) (fun _ v => !decide (v.name = w.name)) (some (pB false)) (again [pI ((k + 1 : Nat) : Int)]) _ (by simp; omega) (fun again' j y hy => ?_) (fun again' => ?_)).trans ?_
    · have hj := lt_of_some hy
      have hi' : idxV (.lst ((n.wires.take k).map eWire)) (.int .i64 (j : Int)) = some (eWire y) := idx_map hy
      simp only [lt_d hj, next_w hj (by simp; omega), hi', eWire, EVS]
      obtain c5 | c5 := (Bool.eq_false_or_eq_true (decide (y.name = w.name))).symm <;> simp only [c5, EVS]
    · simp only [ge_d, next_w hk hwl, EVS]
    · rfl
  · simp only [ge_d, EVS]
  · cases allK (netWireOk n) 0 n.wires <;> simp only [EVS]
end Go.Proofs.YtjplbgaocmpleaaGreat

namespace Go.Proofs.YtjplbgaocmpleaaGreat
open Go.RowKit
set_option linter.unusedVariables false
set_option linter.unusedSimpArgs false
theorem p_i_within (n lo hi : Int) : s_i_within [pI n, pI lo, pI hi] = some (pB (inR n lo hi)) := by
  show (fun x0 x1 x2 => s_i_within [x0, x1, x2]) _ _ _ = _
  rw [sh_i_within]
  unfold inR
  by_cases h : lo ≤ n <;> simp only [h, EVS]
def nameB' (k : Nat) (b : UInt8) : Bool := (decide ((97 : Int) ≤ b.toNat) && decide ((b.toNat : Int) ≤ 122)) || (!decide ((k : Int) = 0) && (decide ((48 : Int) ≤ b.toNat) && decide ((b.toNat : Int) ≤ 57)))
def nameP' (s : List UInt8) : Bool := allK nameB' 0 s && inR s.length 1 6
theorem p_i_isName (s : List UInt8) (hs : s.length ≤ 9223372036854775807) : s_i_isName [.str s] = some (pB (nameP' s)) := by
  show (fun x0 => s_i_isName [x0]) _ = _
  rw [sh_i_isName]
  refine (congrArg (scOnly true) (rangeAll (R := PV) s nameB' (some (pB false)) (some (pB (inR s.length 1 6))) _ hs (fun again k b hb => ?_) (fun again => ?_))).trans ?_
  · have hk := lt_of_some hb
    simp only [nameB', lt_d hk, next_w hk hs, byteV_at hb, EVS]
    obtain c1 | c1 := (Bool.eq_false_or_eq_true (decide ((97 : Int) ≤ b.toNat))).symm <;> simp only [c1, byteV_at hb, EVS]
    all_goals (obtain c2 | c2 := (Bool.eq_false_or_eq_true (decide ((b.toNat : Int) ≤ 122))).symm <;> try simp only [c2, byteV_at hb, EVS])
    all_goals (obtain c3 | c3 := (Bool.eq_false_or_eq_true (decide ((48 : Int) ≤ b.toNat))).symm <;> try simp only [c3, byteV_at hb, EVS])
    all_goals (obtain c4 | c4 := (Bool.eq_false_or_eq_true (decide ((b.toNat : Int) ≤ 57))).symm <;> try simp only [c4, byteV_at hb, EVS])
    all_goals (obtain c5 | c5 := (Bool.eq_false_or_eq_true (decide ((k : Int) = 0))).symm <;> try simp only [c5, EVS])
  · simp only [ge_d, p_i_within, EVS]
  · unfold nameP'
    cases allK nameB' 0 s <;> simp only [EVS]
theorem nameGo_all : ∀ (l : List UInt8) (k : Nat), nameGo (k == 0) l = allK nameB' k l
  | [], _ => rfl
  | b :: r, k => by
    have h := nameGo_all r (k + 1)
    have h1 : (k + 1 == 0) = false := rfl
    rw [h1] at h
    unfold nameGo allK
    rw [h]
    congr 1
    unfold nameB nameB'
    have e1 : decide ((48 : Int) ≤ b.toNat) = !decide ((b.toNat : Int) < 48) := by rw [Bool.eq_iff_iff]; simp
    have e2 : decide ((b.toNat : Int) ≤ 57) = !decide ((57 : Int) < b.toNat) := by rw [Bool.eq_iff_iff]; simp
    have e3 : decide ((k : Int) = 0) = (k == 0) := by rw [Bool.eq_iff_iff]; simp
    rw [e1, e2, e3]
theorem name_eq (s : List UInt8) : isNameP s = nameP' s := by
  unfold isNameP nameP' inR
  rw [← nameGo_all s 0]
  rfl
theorem p_i_isName' (s : List UInt8) (hs : s.length ≤ 9223372036854775807) : s_i_isName [.str s] = some (pB (isNameP s)) := (p_i_isName s hs).trans (by rw [name_eq])
def cubeP' (s : List UInt8) (n : Int) : Bool := allK (fun _ b => cubeB b) 0 s && (decide ((s.length : Int) = n) && inR n 1 8)
theorem p_i_isCube (s : List UInt8) (n : Int) (hs : s.length ≤ 9223372036854775807) : s_i_isCube [.str s, pI n] = some (pB (cubeP' s n)) := by
  show (fun x0 x1 => s_i_isCube [x0, x1]) _ _ = _
  rw [sh_i_isCube]
  refine (congrArg (scOnly true) (rangeAll (R := PV) s (fun _ b => cubeB b) (some (pB false)) (some (pB (decide ((s.length : Int) = n) && inR n 1 8))) _ hs (fun again k b hb => ?_) (fun again => ?_))).trans ?_
  · have hk := lt_of_some hb
    simp only [cubeB, lt_d hk, next_w hk hs, byteV_at hb, EVS]
    obtain c1 | c1 := (Bool.eq_false_or_eq_true (decide ((b.toNat : Int) = 48))).symm <;> simp only [c1, byteV_at hb, EVS]
    obtain c2 | c2 := (Bool.eq_false_or_eq_true (decide ((b.toNat : Int) = 49))).symm <;> simp only [c2, byteV_at hb, EVS]
    obtain c3 | c3 := (Bool.eq_false_or_eq_true (decide ((b.toNat : Int) = 45))).symm <;> simp only [c3, byteV_at hb, EVS]
  · simp only [ge_d, EVS]
    obtain c1 | c1 := (Bool.eq_false_or_eq_true (decide ((s.length : Int) = n))).symm <;> simp only [c1, p_i_within, EVS]
  · unfold cubeP'
    cases allK (fun _ b => cubeB b) 0 s <;> simp only [EVS]
end Go.Proofs.YtjplbgaocmpleaaGreat

namespace Go.Proofs.YtjplbgaocmpleaaGreat
open Go.RowKit
set_option linter.unusedVariables false
set_option linter.unusedSimpArgs false
/-- The first index of an element that answers. -/
def ixf {α : Type} (q : α → Bool) : Nat → List α → Int
  | _, [] => -1
  | k, x :: r => if q x = true then (k : Int) else ixf q (k + 1) r
theorem rgo_ixf {α : Type} (q : α → Bool) : ∀ (l : List α) (k : Nat), rgo (fun k x => if q x = true then some (some (pI (k : Int))) else none) (some (pI (-1))) k l = some (pI (ixf q k l))
  | [], k => rfl
  | x :: r, k => by
    unfold rgo ixf
    cases q x
    · simp [rgo_ixf q r (k + 1)]
    · simp
theorem ixf_ge {α : Type} (q : α → Bool) : ∀ (l : List α) (k : Nat), decide ((0 : Int) ≤ ixf q k l) = !allK (fun _ x => !q x) k l
  | [], k => rfl
  | x :: r, k => by
    unfold ixf allK
    cases q x
    · simp [ixf_ge q r (k + 1)]
    · simp
theorem rangeIx {α : Type} (l : List α) (q : α → Bool) (f : (List PV → Option PV) → List PV → Option PV) (hl : l.length ≤ 9223372036854775807)
    (h1 : ∀ again k x, l[k]? = some x → f again [pI (Int.ofNat k)] = if q x = true then some (pI (k : Int)) else again [pI (Int.ofNat (k + 1))])
    (h2 : ∀ again, f again [pI (Int.ofNat l.length)] = some (pI (-1))) : loopR f 18446744073709551616 [pI (Int.ofNat 0)] = some (pI (ixf q 0 l)) := by
  rw [range1 l (fun k x => if q x = true then some (some (pI (k : Int))) else none) (some (pI (-1))) f hl (fun again k x hx => ?_) h2, rgo_ixf]
  rw [h1 again k x hx]
  cases q x <;> simp
theorem caps1 (l : List PV) : capsOf 1 (.tup [.agg l]) = some [.agg l] := by simp [capsOf, PV.parts, PV.isU]
theorem p_i_areSignals_1 (a x : List UInt8 × Int) : s_i_areSignals_1 [eSig a, eSig x] = some (pB (decide (a.1 = x.1))) := by
  show (fun x0 x1 => s_i_areSignals_1 [x0, x1]) _ _ = _
  rw [sh_i_areSignals_1]
  simp only [eSig, List.drop_zero, EVS]
theorem p_g_slices_IndexFunc_Signal__i_areSignals_1 (l : List (List UInt8 × Int)) (x : List UInt8 × Int) (hl : Fits l) : s_g_slices_IndexFunc_Signal__i_areSignals_1 [.lst (l.map eSig), .tup [eSig x]] = some (pI (ixf (fun a => decide (a.1 = x.1)) 0 l)) := by
  show (fun x0 x1 => s_g_slices_IndexFunc_Signal__i_areSignals_1 [x0, x1]) _ _ = _
  rw [sh_g_slices_IndexFunc_Signal__i_areSignals_1]
  unfold Fits at hl
  simp only [EVS]
  refine (congrArg (scOnly true) (rangeIx l (fun a => decide (a.1 = x.1)) _ hl (fun again k a hb => ?_) (fun again => ?_))).trans ?_
  · have hk := lt_of_some hb
    have hi : idxV (.lst (l.map eSig)) (.int .i64 (k : Int)) = some (eSig a) := idx_map hb
    have g := p_i_areSignals_1 a x
    simp only [eSig] at g
    simp only [lt_d hk, next_w hk hl, hi, eSig, caps1, List.cons_append, List.nil_append, g, EVS]
  · simp only [ge_d, EVS]
    rfl
  · simp only [EVS]
theorem p_g_slices_ContainsFunc_Signal__i_areSignals_1 (l : List (List UInt8 × Int)) (x : List UInt8 × Int) (hl : Fits l) : s_g_slices_ContainsFunc_Signal__i_areSignals_1 [.lst (l.map eSig), .tup [eSig x]] = some (pB (!allK (fun _ a => !decide (a.1 = x.1)) 0 l)) := by
  show (fun x0 x1 => s_g_slices_ContainsFunc_Signal__i_areSignals_1 [x0, x1]) _ _ = _
  rw [sh_g_slices_ContainsFunc_Signal__i_areSignals_1]
  simp only [p_g_slices_IndexFunc_Signal__i_areSignals_1 l x hl, ixf_ge (fun a : List UInt8 × Int => decide (a.1 = x.1)) l 0, EVS]
end Go.Proofs.YtjplbgaocmpleaaGreat

namespace Go.Proofs.YtjplbgaocmpleaaGreat
open Go.RowKit
set_option linter.unusedVariables false
set_option linter.unusedSimpArgs false
theorem cut_n (n : Nat) : True := trivial
theorem p_i_arePins_1 (p : Int × Bool) (n : Nat) (hn : n ≤ 9223372036854775807) : s_i_arePins_1 [ePin p, .agg [pI n]] = some (pB (!inR p.1 0 ((n : Int) - 1))) := by
  have hwl : IntKind.i64.wrap ((n : Int) - 1) = (n : Int) - 1 := wrap_of (by omega) (by omega)
  show (fun x0 x1 => s_i_arePins_1 [x0, x1]) _ _ = _
  rw [sh_i_arePins_1]
  simp only [ePin, hwl, p_i_within, EVS]
theorem p_g_slices_IndexFunc_Pin__i_arePins_1 (l : List (Int × Bool)) (n : Nat) (hn : n ≤ 9223372036854775807) (hl : Fits l) : s_g_slices_IndexFunc_Pin__i_arePins_1 [.lst (l.map ePin), .tup [.agg [pI n]]] = some (pI (ixf (fun p => !inR p.1 0 ((n : Int) - 1)) 0 l)) := by
  show (fun x0 x1 => s_g_slices_IndexFunc_Pin__i_arePins_1 [x0, x1]) _ _ = _
  rw [sh_g_slices_IndexFunc_Pin__i_arePins_1]
  unfold Fits at hl
  simp only [EVS]
  refine (congrArg (scOnly true) (rangeIx l (fun p => !inR p.1 0 ((n : Int) - 1)) _ hl (fun again k a hb => ?_) (fun again => ?_))).trans ?_
  · have hk := lt_of_some hb
    have hi : idxV (.lst (l.map ePin)) (.int .i64 (k : Int)) = some (ePin a) := idx_map hb
    have g := p_i_arePins_1 a n hn
    simp only [ePin] at g
    simp only [lt_d hk, next_w hk hl, hi, ePin, caps1, List.cons_append, List.nil_append, g, EVS]
  · simp only [ge_d, EVS]
    rfl
  · simp only [EVS]
def pinsIn (l : List (Int × Bool)) (n : Nat) : Bool := allK (fun _ p => inR p.1 0 ((n : Int) - 1)) 0 l
theorem p_i_arePins (l : List (Int × Bool)) (n : Nat) (hn : n ≤ 9223372036854775807) (hl : Fits l) : s_i_arePins [.lst (l.map ePin), pI n] = some (pB (pinsIn l n)) := by
  have g : s_g_slices_ContainsFunc_Pin__i_arePins_1 [.lst (l.map ePin), .tup [.agg [pI n]]] = some (pB (!allK (fun _ p => inR p.1 0 ((n : Int) - 1)) 0 l)) := by
    show (fun x0 x1 => s_g_slices_ContainsFunc_Pin__i_arePins_1 [x0, x1]) _ _ = _
    rw [sh_g_slices_ContainsFunc_Pin__i_arePins_1]
    simp only [p_g_slices_IndexFunc_Pin__i_arePins_1 l n hn hl, ixf_ge (fun p : Int × Bool => !inR p.1 0 ((n : Int) - 1)) l 0, Bool.not_not, EVS]
  show (fun x0 x1 => s_i_arePins [x0, x1]) _ _ = _
  rw [sh_i_arePins]
  have lt : ∀ {R : Type} (l : List PV) (x : Option R), liveThen [.tup l] x = x := fun l x => (Eq.refl _).trans (Eq.refl _)
  simp only [lt, g, List.drop_zero, Bool.not_not, pinsIn, EVS]
theorem p_i_wireOf_1 (w : PWire) (x : List UInt8) : s_i_wireOf_1 [eWire w, .agg [.str x]] = some (pB (decide (w.name = x))) := by
  show (fun x0 x1 => s_i_wireOf_1 [x0, x1]) _ _ = _
  rw [sh_i_wireOf_1]
  simp only [eWire, List.drop_zero, EVS]
theorem p_i_wireOf (l : List PWire) (x : List UInt8) (hl : Fits l) : s_i_wireOf [.lst (l.map eWire), .str x] = some (pI (ixf (fun w : PWire => decide (w.name = x)) 0 l)) := by
  unfold Fits at hl
  have g : s_g_slices_IndexFunc_Wire__i_wireOf_1 [.lst (l.map eWire), .tup [.agg [.str x]]] = some (pI (ixf (fun w : PWire => decide (w.name = x)) 0 l)) := by
    show (fun x0 x1 => s_g_slices_IndexFunc_Wire__i_wireOf_1 [x0, x1]) _ _ = _
    rw [sh_g_slices_IndexFunc_Wire__i_wireOf_1]
    simp only [EVS]
    refine (congrArg (scOnly true) (rangeIx l (fun w : PWire => decide (w.name = x)) _ hl (fun again k a hb => ?_) (fun again => ?_))).trans ?_
    · have hk := lt_of_some hb
      have hi : idxV (.lst (l.map eWire)) (.int .i64 (k : Int)) = some (eWire a) := idx_map hb
      have g := p_i_wireOf_1 a x
      simp only [eWire] at g
      simp only [lt_d hk, next_w hk hl, hi, eWire, caps1, List.cons_append, List.nil_append, g, EVS]
    · simp only [ge_d, EVS]
      rfl
    · simp only [EVS]
  show (fun x0 x1 => s_i_wireOf [x0, x1]) _ _ = _
  rw [sh_i_wireOf]
  have lt : ∀ {R : Type} (l : List PV) (x : Option R), liveThen [.tup l] x = x := fun l x => (Eq.refl _).trans (Eq.refl _)
  simp only [lt, g, List.drop_zero, Bool.not_not, EVS]
theorem p_i_IsValidCover_1 (c : List UInt8) (n : Int) (hc : Fits c) : s_i_IsValidCover_1 [.str c, .agg [pI n]] = some (pB (!cubeP' c n)) := by
  show (fun x0 x1 => s_i_IsValidCover_1 [x0, x1]) _ _ = _
  rw [sh_i_IsValidCover_1]
  simp only [p_i_isCube c n hc, EVS]
theorem p_g_slices_IndexFunc_string__i_IsValidCover_1 (l : List (List UInt8)) (n : Int) (hl : Fits l) (hc : ∀ c ∈ l, Fits c) : s_g_slices_IndexFunc_string__i_IsValidCover_1 [.lst (l.map PV.str), .tup [.agg [pI n]]] = some (pI (ixf (fun c : List UInt8 => !cubeP' c n) 0 l)) := by
  unfold Fits at hl
  show (fun x0 x1 => s_g_slices_IndexFunc_string__i_IsValidCover_1 [x0, x1]) _ _ = _
  rw [sh_g_slices_IndexFunc_string__i_IsValidCover_1]
  simp only [EVS]
  refine (congrArg (scOnly true) (rangeIx l (fun c : List UInt8 => !cubeP' c n) _ hl (fun again k a hb => ?_) (fun again => ?_))).trans ?_
  · have hk := lt_of_some hb
    have hi : idxV (.lst (l.map PV.str)) (.int .i64 (k : Int)) = some (.str a) := idx_map hb
    have g := p_i_IsValidCover_1 a n (hc a (List.mem_of_getElem? hb))
    simp only [lt_d hk, next_w hk hl, hi, caps1, List.cons_append, List.nil_append, g, EVS]
  · simp only [ge_d, EVS]
    rfl
  · simp only [EVS]
end Go.Proofs.YtjplbgaocmpleaaGreat

namespace Go.Proofs.YtjplbgaocmpleaaGreat
open Go.RowKit
set_option linter.unusedVariables false
set_option linter.unusedSimpArgs false
theorem eqPin (a c : Int) (b d : Bool) : eqV (some [(0, TD.int .i64), (1, TD.bool)]) .struct (.agg [pI a, pB b]) (.agg [pI c, pB d]) = some (decide (a = c) && (b == d)) := by
  simp [eqV, eqAt, scEq, beq_eq_decide]
theorem zp_bool : ZC.bool.pv = pB false := (Eq.refl _).trans (Eq.refl _)
theorem sp12 (a b c : PV) : splice [a, b] 0 [c] = [c, b] := (Eq.refl _).trans (Eq.refl _)
def coverI (n : Int) (l : List (List UInt8)) : Bool := (inR n 1 8 && decide ((l.length : Int) ≤ 60)) && allK (fun _ c => cubeP' c n) 0 l
def wireForm (n : PNet) (k : Nat) (w : PWire) : Bool :=
  if decide (w.kind = 1) = true then decide ((w.ins.length : Int) = 0)
  else if (decide (w.kind = 2) || decide (w.kind = 3)) = true then inR w.ins.length 1 8
  else if decide (w.kind = 4) = true then decide ((w.ins.length : Int) = 2)
  else if decide (w.kind = 5) = true then coverI n.signals.length w.cover && (decide ((w.ins.length : Int) = 0) || (match w.ins with | [p] => decide (p.1 = (k : Int)) && (p.2 == false) | _ => false))
  else false
def wireI (n : PNet) (k : Nat) (w : PWire) : Bool := !((!decide (w.kind = 5) && decide ((0 : Int) < w.cover.length)) || !pinsIn w.ins n.wires.length) && wireForm n k w
theorem p_i_isWire (h160 : ∀ (n : Int) (l : List (List UInt8)), Fits l → (∀ c ∈ l, Fits c) → s_i_IsValidCover [pI n, .lst (l.map PV.str)] = some (pB (coverI n l))) (n : PNet) (k : Nat) (w : PWire) (hn : n.Fit) (hk : n.wires[k]? = some w) : s_i_isWire [eNet n, pI k] = some (pB (wireI n k w)) := by
  have hw := hn.wire w (List.mem_of_getElem? hk)
  have g1 := h160 n.signals.length w.cover hw.cover hw.cubes
  have hwl := hn.wires
  unfold Fits at hwl
  have g2 := p_i_arePins w.ins n.wires.length hwl hw.ins
  have hi : idxV (.lst (n.wires.map eWire)) (.int .i64 (k : Int)) = some (eWire w) := idx_map hk
  show (fun x0 x1 => s_i_isWire [x0, x1]) _ _ = _
  rw [sh_i_isWire]
  simp only [eNet, hi, eWire, EVS]
  unfold wireI
  obtain c1 | c1 := (Bool.eq_false_or_eq_true (!decide (w.kind = 5))).symm <;> simp only [c1, g2, EVS]
  · obtain c2 | c2 := (Bool.eq_false_or_eq_true (pinsIn w.ins n.wires.length)).symm <;> simp only [c1, c2, g2, EVS]
    have c5 : decide (w.kind = 5) = true := by simpa using c1
    have e1 : decide (w.kind = 1) = false := by have := of_decide_eq_true c5; simp; omega
    have e2 : decide (w.kind = 2) = false := by have := of_decide_eq_true c5; simp; omega
    have e3 : decide (w.kind = 3) = false := by have := of_decide_eq_true c5; simp; omega
    have e4 : decide (w.kind = 4) = false := by have := of_decide_eq_true c5; simp; omega
    simp only [joinK_eq, wireForm, e1, e2, e3, e4, c5, g1, EVS]
    obtain c3 | c3 := (Bool.eq_false_or_eq_true (coverI n.signals.length w.cover)).symm <;> simp only [c3, EVS]
    have h01 : decide ((0 : Int) = 1) = false := rfl
    have h00 : decide ((0 : Int) = 0) = true := rfl
    have h11 : decide ((1 : Int) = 1) = true := rfl
    have h10 : decide ((1 : Int) = 0) = false := rfl
    rcases hq : w.ins with _ | ⟨p, _ | ⟨q, r⟩⟩
    · simp only [List.length_nil, h00, EVS]
    · have hi : idxV (.lst ([p].map ePin)) (.int .i64 0) = some (ePin p) := rfl
      simp only [List.length_cons, List.length_nil, Nat.zero_add, h11, h10, hi, ePin, zp_bool, sp12, eqPin, List.drop_zero, List.drop_succ_cons, EVS]
    · have h2 : decide (((r.length + 1 + 1 : Nat) : Int) = 0) = false := by simp; omega
      have h3 : decide (((r.length + 1 + 1 : Nat) : Int) = 1) = false := by simp; omega
      simp only [List.length_cons, h2, h3, EVS]
  · have c5 : decide (w.kind = 5) = false := by simpa using c1
    obtain c2 | c2 := (Bool.eq_false_or_eq_true (decide ((0 : Int) < w.cover.length))).symm <;> simp only [c1, c2, g2, EVS]
    obtain c3 | c3 := (Bool.eq_false_or_eq_true (pinsIn w.ins n.wires.length)).symm <;> simp only [c3, EVS]
    simp only [joinK_eq, wireForm, c5, EVS]
    obtain e1 | e1 := (Bool.eq_false_or_eq_true (decide (w.kind = 1))).symm <;> simp only [e1, EVS]
    obtain e2 | e2 := (Bool.eq_false_or_eq_true (decide (w.kind = 2))).symm <;> simp only [e2, p_i_within, EVS]
    obtain e3 | e3 := (Bool.eq_false_or_eq_true (decide (w.kind = 3))).symm <;> simp only [e3, p_i_within, EVS]
    obtain e4 | e4 := (Bool.eq_false_or_eq_true (decide (w.kind = 4))).symm <;> simp only [e4, EVS]
end Go.Proofs.YtjplbgaocmpleaaGreat

namespace Go.Proofs.YtjplbgaocmpleaaGreat
open Go.RowKit
set_option linter.unusedVariables false
set_option linter.unusedSimpArgs false
theorem p_i_IsValidCover (n : Int) (l : List (List UInt8)) (hl : Fits l) (hc : ∀ c ∈ l, Fits c) : s_i_IsValidCover [pI n, .lst (l.map PV.str)] = some (pB (coverI n l)) := by
  have g : s_g_slices_ContainsFunc_string__i_IsValidCover_1 [.lst (l.map PV.str), .tup [.agg [pI n]]] = some (pB (!allK (fun _ c => cubeP' c n) 0 l)) := by
    show (fun x0 x1 => s_g_slices_ContainsFunc_string__i_IsValidCover_1 [x0, x1]) _ _ = _
    rw [sh_g_slices_ContainsFunc_string__i_IsValidCover_1]
    simp only [p_g_slices_IndexFunc_string__i_IsValidCover_1 l n hl hc, ixf_ge (fun c : List UInt8 => !cubeP' c n) l 0, Bool.not_not, EVS]
  show (fun x0 x1 => s_i_IsValidCover [x0, x1]) _ _ = _
  rw [sh_i_IsValidCover]
  simp only [p_i_within, lt_tup, List.drop_zero, coverI, EVS]
  obtain c1 | c1 := (Bool.eq_false_or_eq_true (inR n 1 8)).symm <;> simp only [c1, EVS]
  obtain c2 | c2 := (Bool.eq_false_or_eq_true (decide ((l.length : Int) ≤ 60))).symm <;> simp only [c2, lt_tup, g, Bool.not_not, EVS]
def sigOkI (l : List (List UInt8 × Int)) (k : Nat) (s : List UInt8 × Int) : Bool := (isNameP s.1 && inR s.2 1 3) && allK (fun _ a => !decide (a.1 = s.1)) 0 (l.take k)
def sigsI (l : List (List UInt8 × Int)) : Bool := allK (sigOkI l) 0 l && inR l.length 1 8
theorem p_i_areSignals (l : List (List UInt8 × Int)) (hl : Fits l) (hs : ∀ s ∈ l, Fits s.1) : s_i_areSignals [.lst (l.map eSig)] = some (pB (sigsI l)) := by
  unfold Fits at hl
  show (fun x0 => s_i_areSignals [x0]) _ = _
  rw [sh_i_areSignals]
  simp only [EVS]
  refine (congrArg (scOnly true) (rangeAll (R := PV) l (sigOkI l) (some (pB false)) (some (pB (inR l.length 1 8))) _ hl (fun again k s hb => ?_) (fun again => ?_))).trans ?_
  · have hk := lt_of_some hb
    have hi : idxV (.lst (l.map eSig)) (.int .i64 (k : Int)) = some (eSig s) := idx_map hb
    have hc : cutL 2 (.lst (l.map eSig)) none (some (.int .i64 (k : Int))) = some (.lst ((l.take k).map eSig)) := cut_map okEl_eSig (by omega)
    have hn := p_i_isName' s.1 (hs s (List.mem_of_getElem? hb))
    have g := p_g_slices_ContainsFunc_Signal__i_areSignals_1 (l.take k) s (by show (l.take k).length ≤ _; simp; omega)
    simp only [eSig] at g
    simp only [lt_d hk, next_w hk hl, hi, eSig, hn, sigOkI, EVS]
    obtain c1 | c1 := (Bool.eq_false_or_eq_true (isNameP s.1)).symm <;> simp only [c1, p_i_within, EVS]
    obtain c2 | c2 := (Bool.eq_false_or_eq_true (inR s.2 1 3)).symm <;> simp only [c2, EVS]
    simp only [hc, List.drop_zero, lt_tup, g, EVS]
    obtain c3 | c3 := (Bool.eq_false_or_eq_true (allK (fun _ (a : List UInt8 × Int) => !decide (a.1 = s.1)) 0 (l.take k))).symm <;> simp only [c3, EVS]
  · simp only [ge_d, p_i_within, EVS]
  · unfold sigsI
    cases allK (sigOkI l) 0 l <;> simp only [EVS]
/-- Each wire is right, in the words of the program. -/
def netWireI (n : PNet) (k : Nat) (w : PWire) : Bool :=
  (wireI n k w && isNameP w.name && allK (fun _ v => !decide (v.name = w.name)) 0 (n.wires.take k)) &&
  (if decide ((k : Int) < (n.signals.length : Int)) = true then wireSeen n k w else (decide (w.kind = 2) || decide (w.kind = 3)) && pinsIn w.ins k)
def netI (n : PNet) : Bool := (sigsI n.signals && inR n.wires.length n.signals.length 24) && allK (netWireI n) 0 n.wires
theorem p_i_IsValidNetlist (n : PNet) (hn : n.Fit) : s_i_IsValidNetlist [eNet n] = some (pB (netI n)) := by
  have g1 := p_i_areSignals n.signals hn.signals hn.names
  have hwl := hn.wires
  unfold Fits at hwl
  show (fun x0 => s_i_IsValidNetlist [x0]) _ = _
  rw [sh_i_IsValidNetlist]
  simp only [eNet, g1, EVS]
  unfold netI
  obtain c1 | c1 := (Bool.eq_false_or_eq_true (sigsI n.signals)).symm <;> simp only [c1, p_i_within, EVS]
  obtain c2 | c2 := (Bool.eq_false_or_eq_true (inR n.wires.length n.signals.length 24)).symm <;> simp only [c2, EVS]
  refine (congrArg (scOnly true) (rangeAll (R := PV) n.wires (netWireI n) (some (pB false)) (some (pB true)) _ hwl (fun again k w hb => ?_) (fun again => ?_))).trans ?_
  · have hk := lt_of_some hb
    have hw := hn.wire w (List.mem_of_getElem? hb)
    have hi : idxV (.lst (n.wires.map eWire)) (.int .i64 (k : Int)) = some (eWire w) := idx_map hb
    have hc : cutL 4 (.lst (n.wires.map eWire)) none (some (.int .i64 (k : Int))) = some (.lst ((n.wires.take k).map eWire)) := cut_map okEl_eWire (by omega)
    have g2 := p_i_isWire p_i_IsValidCover n k w hn hb
    have g3 := p_i_isName' w.name hw.name
    have g4 := p_i_wireOf (n.wires.take k) w.name (by show (n.wires.take k).length ≤ _; simp; omega)
    have g5 := p_i_arePins w.ins k (by omega) hw.ins
    simp only [eNet] at g2
    simp only [lt_d hk, next_w hk hwl, hi, eWire, netWireI, g2, EVS]
    obtain c1 | c1 := (Bool.eq_false_or_eq_true (wireI n k w)).symm <;> simp only [c1, g3, EVS]
    obtain c2 | c2 := (Bool.eq_false_or_eq_true (isNameP w.name)).symm <;> simp only [c2, hc, g4, EVS]
    simp only [ixf_ge (fun v : PWire => decide (v.name = w.name)) (n.wires.take k) 0]
    obtain c3 | c3 := (Bool.eq_false_or_eq_true (allK (fun _ (v : PWire) => !decide (v.name = w.name)) 0 (n.wires.take k))).symm <;> simp only [c3, joinK_eq, EVS]
    obtain c4 | c4 := (Bool.eq_false_or_eq_true (decide ((k : Int) < (n.signals.length : Int)))).symm <;> simp only [c4, EVS]
    · obtain c5 | c5 := (Bool.eq_false_or_eq_true (decide (w.kind = 2))).symm <;> simp only [c5, g5, EVS]
      · obtain c6 | c6 := (Bool.eq_false_or_eq_true (decide (w.kind = 3))).symm <;> simp only [c6, g5, EVS]
        obtain c7 | c7 := (Bool.eq_false_or_eq_true (pinsIn w.ins k)).symm <;> simp only [c7, next_w hk hwl, EVS]
      · obtain c7 | c7 := (Bool.eq_false_or_eq_true (pinsIn w.ins k)).symm <;> simp only [c7, next_w hk hwl, EVS]
    · have hks : k < n.signals.length := by have := of_decide_eq_true c4; omega
      have hs : n.signals[k]? = some n.signals[k] := List.getElem?_eq_getElem hks
      have hi2 : idxV (.lst (n.signals.map eSig)) (.int .i64 (k : Int)) = some (eSig n.signals[k]) := idx_map hs
      simp only [wireSeen, hs, hi2, eSig, List.drop_zero, List.drop_succ_cons, EVS]
      obtain c5 | c5 := (Bool.eq_false_or_eq_true (decide (w.name = n.signals[k].1))).symm <;> simp only [c5, hi2, eSig, List.drop_zero, List.drop_succ_cons, EVS]
      obtain c6 | c6 := (Bool.eq_false_or_eq_true (decide (w.kind = 1) == decide (n.signals[k].2 = 1))).symm <;> simp only [bne, c6, next_w hk hwl, EVS]
  · simp only [ge_d, EVS]
  · cases allK (netWireI n) 0 n.wires <;> simp only [EVS]
end Go.Proofs.YtjplbgaocmpleaaGreat

namespace Go.Proofs.YtjplbgaocmpleaaGreat
open Go.RowKit
set_option linter.unusedVariables false
set_option linter.unusedSimpArgs false
theorem allK_all {α : Type} (q : α → Bool) : ∀ (l : List α) (k : Nat), allK (fun _ x => q x) k l = l.all q
  | [], _ => rfl
  | x :: r, k => by unfold allK; rw [allK_all q r (k + 1), List.all_cons]
theorem allK_congr {α : Type} (f g : Nat → α → Bool) (h : ∀ k x, f k x = g k x) : ∀ (l : List α) (k : Nat), allK f k l = allK g k l
  | [], _ => rfl
  | x :: r, k => by unfold allK; rw [h k x, allK_congr f g h r (k + 1)]
theorem sigs_eq (l : List (List UInt8 × Int)) : sigsP l = sigsI l := by
  unfold sigsP sigsI
  rw [allK_congr (sigOk l) (sigOkI l) (fun k x => ?_) l 0]
  unfold sigOk sigOkI
  rw [allK_congr (fun _ (y : List UInt8 × Int) => !decide (x.1 = y.1)) (fun _ (y : List UInt8 × Int) => !decide (y.1 = x.1)) (fun _ y => by simp [eq_comm]) _ 0]
theorem cover_eq (n : Int) (l : List (List UInt8)) : goodP n l = coverI n l := by
  unfold goodP coverI coverGo
  rw [Bool.and_comm, Bool.eq_iff_iff]
  simp only [Bool.and_eq_true]
  refine and_congr_right fun h => ?_
  rw [allK_congr (fun _ c => cubeP c && decide ((c.length : Int) = n)) (fun _ c => cubeP' c n) (fun _ c => ?_) l 0]
  unfold cubeP cubeP' inR
  rw [Bool.eq_iff_iff]
  simp only [Bool.and_eq_true, decide_eq_true_eq]
  constructor
  · rintro ⟨⟨h1, h2, h3⟩, h4⟩
    exact ⟨h1, h4, by omega, by omega⟩
  · rintro ⟨h1, h2, h3, h4⟩
    exact ⟨⟨h1, by omega, by omega⟩, h2⟩
theorem pins_seen (n : PNet) (k : Nat) (l : List (Int × Bool)) (h : k < n.signals.length) : allK (fun _ p => pinOk n k p) 0 l = pinsIn l n.wires.length := by
  unfold pinsIn
  refine allK_congr _ _ (fun _ p => ?_) l 0
  unfold pinOk
  have : decide ((n.signals.length : Int) ≤ k) = false := by simp; omega
  rw [this]
  simp
theorem pins_late (n : PNet) (k : Nat) (l : List (Int × Bool)) (h : ¬ k < n.signals.length) : allK (fun _ p => pinOk n k p) 0 l = (pinsIn l n.wires.length && pinsIn l k) := by
  unfold pinsIn
  rw [allK_all, allK_all, allK_all, Bool.eq_iff_iff]
  have : decide ((n.signals.length : Int) ≤ k) = true := by simp; omega
  simp only [Bool.and_eq_true, List.all_eq_true, pinOk, inR, this, Bool.true_and, Bool.not_eq_true', decide_eq_true_eq, decide_eq_false_iff_not]
  constructor
  · intro h
    exact ⟨fun p hp => (h p hp).1, fun p hp => ⟨(h p hp).1.1, by have := (h p hp).2; omega⟩⟩
  · rintro ⟨h1, h2⟩ p hp
    exact ⟨h1 p hp, by have := (h2 p hp).2; omega⟩
theorem form_eq (n : PNet) (k : Nat) (w : PWire) : (inR w.kind 1 5 && ((if decide (w.kind = 5) = true then coverI n.signals.length w.cover else !decide ((0 : Int) < w.cover.length)) && pinForm k w.kind w.ins)) = (!(!decide (w.kind = 5) && decide ((0 : Int) < w.cover.length)) && wireForm n k w) := by
  unfold pinForm wireForm
  by_cases h1 : w.kind = 1
  · simp [h1, inR]
  by_cases h2 : w.kind = 2
  · simp [h2, inR]
  by_cases h3 : w.kind = 3
  · simp [h3, inR]
  by_cases h4 : w.kind = 4
  · simp [h4, inR]
  by_cases h5 : w.kind = 5
  · obtain ⟨nm, kd, ins, cov⟩ := w
    simp only at h5
    rcases ins with _ | ⟨p, _ | ⟨q, r⟩⟩ <;> simp [h5, inR]
  · have : inR w.kind 1 5 = false := by
      unfold inR
      simp only [Bool.and_eq_false_iff, decide_eq_false_iff_not]
      omega
    simp [this, h1, h2, h3, h4, h5]
theorem wire_eq (n : PNet) (k : Nat) (w : PWire) : netWireOk n k w = netWireI n k w := by
  unfold netWireOk netWireI wireP wireI pinsP
  have hf := form_eq n k w
  rw [cover_eq]
  by_cases hk : k < n.signals.length
  · have hd : decide ((k : Int) < (n.signals.length : Int)) = true := by simpa using hk
    rw [pins_seen n k w.ins hk]
    simp only [hd, if_true, Bool.true_or, Bool.not_true, Bool.false_or, Bool.not_false, Bool.false_eq_true, if_false, Bool.true_and]
    revert hf
    generalize inR w.kind 1 5 = a1
    generalize (if decide (w.kind = 5) = true then coverI (↑n.signals.length) w.cover else !decide ((0 : Int) < ↑w.cover.length)) = a2
    generalize pinForm k w.kind w.ins = a3
    generalize (!decide (w.kind = 5) && decide ((0 : Int) < w.cover.length)) = a4
    generalize wireForm n k w = a5
    generalize pinsIn w.ins n.wires.length = a6
    generalize wireSeen n k w = a7
    generalize isNameP w.name = a8
    generalize allK (fun _ (v : PWire) => !decide (v.name = w.name)) 0 (n.wires.take k) = a9
    cases a1 <;> cases a2 <;> cases a3 <;> cases a4 <;> cases a5 <;> cases a6 <;> cases a7 <;> cases a8 <;> cases a9 <;> decide
  · have hd : decide ((k : Int) < (n.signals.length : Int)) = false := by simpa using hk
    rw [pins_late n k w.ins hk]
    simp only [hd, if_true, Bool.true_or, Bool.not_true, Bool.false_or, Bool.not_false, Bool.false_eq_true, if_false, Bool.true_and]
    revert hf
    generalize inR w.kind 1 5 = a1
    generalize (if decide (w.kind = 5) = true then coverI (↑n.signals.length) w.cover else !decide ((0 : Int) < ↑w.cover.length)) = a2
    generalize pinForm k w.kind w.ins = a3
    generalize (!decide (w.kind = 5) && decide ((0 : Int) < w.cover.length)) = a4
    generalize wireForm n k w = a5
    generalize pinsIn w.ins n.wires.length = a6
    generalize isNameP w.name = a8
    generalize pinsIn w.ins k = a7
    generalize decide (w.kind = 2) = b2
    generalize decide (w.kind = 3) = b3
    generalize allK (fun _ (v : PWire) => !decide (v.name = w.name)) 0 (n.wires.take k) = a9
    cases a1 <;> cases a2 <;> cases a3 <;> cases a4 <;> cases a5 <;> cases a6 <;> cases a7 <;> cases a8 <;> cases a9 <;> cases b2 <;> cases b3 <;> decide
theorem net_eq (n : PNet) : netP n = netI n := by
  unfold netP netI
  rw [sigs_eq, allK_congr (netWireOk n) (netWireI n) (fun k x => wire_eq n k x) n.wires 0]
  congr 2
  unfold inR
  rw [Bool.eq_iff_iff]
  simp
end Go.Proofs.YtjplbgaocmpleaaGreat

namespace Go.Proofs.YtjplbgaocmpleaaGreat
open Go.RowKit
set_option linter.unusedVariables false
set_option linter.unusedSimpArgs false
def bitB (b : UInt8) : Bool := decide ((b.toNat : Int) = 48) || decide ((b.toNat : Int) = 49)
def bitsP (s : List UInt8) (n : Int) : Bool := allK (fun _ b => bitB b) 0 s && decide ((s.length : Int) = n)
theorem p_r_l5Code (s : List UInt8) (n : Int) (hs : Fits s) : s_r_l5Code [.str s, pI n] = some (pB (bitsP s n)) := by
  unfold Fits at hs
  show (fun x0 x1 => s_r_l5Code [x0, x1]) _ _ = _
  rw [sh_r_l5Code]
  refine (congrArg (scOnly true) (rangeAll (R := PV) s (fun _ b => bitB b) (some (pB false)) (some (pB (decide ((s.length : Int) = n)))) _ hs (fun again k b hb => ?_) (fun again => ?_))).trans ?_
  · have hk := lt_of_some hb
    simp only [bitB, lt_d hk, next_w hk hs, byteV_at hb, EVS]
    obtain c1 | c1 := (Bool.eq_false_or_eq_true (decide ((b.toNat : Int) = 48))).symm <;> simp only [c1, byteV_at hb, EVS]
    obtain c2 | c2 := (Bool.eq_false_or_eq_true (decide ((b.toNat : Int) = 49))).symm <;> simp only [c2, byteV_at hb, EVS]
  · simp only [ge_d, EVS]
  · unfold bitsP
    cases allK (fun _ b => bitB b) 0 s <;> simp only [EVS]
theorem p_i_isBits (s : List UInt8) (n : Int) (hs : Fits s) : s_i_isBits [.str s, pI n] = some (pB (bitsP s n)) := by
  unfold Fits at hs
  show (fun x0 x1 => s_i_isBits [x0, x1]) _ _ = _
  rw [sh_i_isBits]
  refine (congrArg (scOnly true) (rangeAll (R := PV) s (fun _ b => bitB b) (some (pB false)) (some (pB (decide ((s.length : Int) = n)))) _ hs (fun again k b hb => ?_) (fun again => ?_))).trans ?_
  · have hk := lt_of_some hb
    simp only [bitB, lt_d hk, next_w hk hs, byteV_at hb, EVS]
    obtain c1 | c1 := (Bool.eq_false_or_eq_true (decide ((b.toNat : Int) = 48))).symm <;> simp only [c1, byteV_at hb, EVS]
    obtain c2 | c2 := (Bool.eq_false_or_eq_true (decide ((b.toNat : Int) = 49))).symm <;> simp only [c2, byteV_at hb, EVS]
  · simp only [ge_d, EVS]
  · unfold bitsP
    cases allK (fun _ b => bitB b) 0 s <;> simp only [EVS]
def valuesP (n : PNet) (s : List UInt8) : Bool := netP n && bitsP s n.wires.length
/-- What a pin reads. -/
def pinV (p : Int × Bool) (s : List UInt8) : Bool := match s[p.1.toNat]? with | some b => decide ((b.toNat : Int) = 49) != p.2 | none => false
theorem pin_at {p : Int × Bool} {s : List UInt8} (h0 : 0 ≤ p.1) (h1 : p.1 < s.length) : ∃ b : UInt8, s[p.1.toNat]? = some b ∧ byteV (.str s) (pI p.1) = some (pU b) := by
  have h2 : p.1.toNat < s.length := by omega
  refine ⟨s[p.1.toNat], List.getElem?_eq_getElem h2, ?_⟩
  have := byteV_at (k := .i64) (List.getElem?_eq_getElem h2)
  rw [Int.toNat_of_nonneg h0] at this
  exact this
theorem p_r_l19Pin (p : Int × Bool) (s : List UInt8) (h0 : 0 ≤ p.1) (h1 : p.1 < s.length) : s_r_l19Pin [ePin p, .str s] = some (pB (pinV p s)) := by
  obtain ⟨b, hb, hv⟩ := pin_at h0 h1
  show (fun x0 x1 => s_r_l19Pin [x0, x1]) _ _ = _
  rw [sh_r_l19Pin]
  simp only [ePin, hv, pinV, hb, bne, EVS]
theorem p_i_pinValue (p : Int × Bool) (s : List UInt8) (h0 : 0 ≤ p.1) (h1 : p.1 < s.length) : s_i_pinValue [ePin p, .str s] = some (pB (pinV p s)) := by
  obtain ⟨b, hb, hv⟩ := pin_at h0 h1
  show (fun x0 x1 => s_i_pinValue [x0, x1]) _ _ = _
  rw [sh_i_pinValue]
  simp only [ePin, hv, pinV, hb, bne, EVS]
/-- A cube holds a code. -/
def hasB (code : List UInt8) (k : Nat) (b : UInt8) : Bool := decide ((b.toNat : Int) = 45) || (match code[k]? with | some c => decide ((b.toNat : Int) = c.toNat) | none => false)
def hasP (cube code : List UInt8) : Bool := allK (hasB code) 0 cube
theorem p_r_l13Has (cube code : List UInt8) (hs : Fits cube) (hl : cube.length ≤ code.length) : s_r_l13Has [.str cube, .str code] = some (pB (hasP cube code)) := by
  unfold Fits at hs
  show (fun x0 x1 => s_r_l13Has [x0, x1]) _ _ = _
  rw [sh_r_l13Has]
  refine (congrArg (scOnly true) (rangeAll (R := PV) cube (hasB code) (some (pB false)) (some (pB true)) _ hs (fun again k b hb => ?_) (fun again => ?_))).trans ?_
  · have hk := lt_of_some hb
    have hc : code[k]? = some code[k] := List.getElem?_eq_getElem (by omega)
    simp only [hasB, hc, lt_d hk, next_w hk hs, byteV_at hb, byteV_at hc, EVS]
    obtain c1 | c1 := (Bool.eq_false_or_eq_true (decide ((b.toNat : Int) = 45))).symm <;> simp only [c1, byteV_at hb, byteV_at hc, EVS]
    obtain c2 | c2 := (Bool.eq_false_or_eq_true (decide ((b.toNat : Int) = (code[k].toNat : Int)))).symm <;> simp only [c2, EVS]
  · simp only [ge_d, EVS]
  · unfold hasP
    cases allK (hasB code) 0 cube <;> simp only [EVS]
theorem p_i_contains (cube code : List UInt8) (hs : Fits cube) (hl : cube.length ≤ code.length) : s_i_contains [.str cube, .str code] = some (pB (hasP cube code)) := by
  unfold Fits at hs
  show (fun x0 x1 => s_i_contains [x0, x1]) _ _ = _
  rw [sh_i_contains]
  simp only [EVS]
  refine (congrArg (scOnly true) (rangeAll (R := PV) cube (hasB code) (some (pB false)) (some (pB true)) _ hs (fun again k b hb => ?_) (fun again => ?_))).trans ?_
  · have hk := lt_of_some hb
    have hc : code[k]? = some code[k] := List.getElem?_eq_getElem (by omega)
    simp only [hasB, hc, lt_d hk, next_w hk hs, byteV_at hb, byteV_at hc, EVS]
    obtain c1 | c1 := (Bool.eq_false_or_eq_true (decide ((b.toNat : Int) = 45))).symm <;> simp only [c1, byteV_at hb, byteV_at hc, EVS]
    obtain c2 | c2 := (Bool.eq_false_or_eq_true (decide ((b.toNat : Int) = (code[k].toNat : Int)))).symm <;> simp only [c2, EVS]
  · simp only [ge_d, EVS]
  · unfold hasP
    cases allK (hasB code) 0 cube <;> simp only [EVS]
end Go.Proofs.YtjplbgaocmpleaaGreat

namespace Go.Proofs.YtjplbgaocmpleaaGreat
open Go.RowKit
set_option linter.unusedVariables false
set_option linter.unusedSimpArgs false
def inP (l : List (List UInt8)) (code : List UInt8) : Bool := !allK (fun _ c => !hasP c code) 0 l
theorem p_r_l13In (l : List (List UInt8)) (code : List UInt8) (hl : Fits l) (hc : ∀ c ∈ l, Fits c ∧ c.length ≤ code.length) : s_r_l13In [.lst (l.map PV.str), .str code] = some (pB (inP l code)) := by
  unfold Fits at hl
  show (fun x0 x1 => s_r_l13In [x0, x1]) _ _ = _
  rw [sh_r_l13In]
  simp only [EVS]
  refine (congrArg (scOnly true) (rangeAll (R := PV) l (fun _ c => !hasP c code) (some (pB true)) (some (pB false)) _ hl (fun again k s hb => ?_) (fun again => ?_))).trans ?_
  · have hk := lt_of_some hb
    have hi : idxV (.lst (l.map PV.str)) (.int .i64 (k : Int)) = some (.str s) := idx_map hb
    have hh := hc s (List.mem_of_getElem? hb)
    have g := p_r_l13Has s code hh.1 hh.2
    simp only [lt_d hk, next_w hk hl, hi, g, EVS]
    obtain c1 | c1 := (Bool.eq_false_or_eq_true (hasP s code)).symm <;> simp only [c1, EVS]
  · simp only [ge_d, EVS]
  · unfold inP
    cases allK (fun _ c => !hasP c code) 0 l <;> simp only [EVS]
theorem p_i_covers (l : List (List UInt8)) (code : List UInt8) (hl : Fits l) (hc : ∀ c ∈ l, Fits c ∧ c.length ≤ code.length) : s_i_covers [.lst (l.map PV.str), .str code] = some (pB (inP l code)) := by
  have g0 : s_g_slices_IndexFunc_string__i_covers_1 [.lst (l.map PV.str), .tup [.agg [.str code]]] = some (pI (ixf (fun c : List UInt8 => hasP c code) 0 l)) := by
    unfold Fits at hl
    show (fun x0 x1 => s_g_slices_IndexFunc_string__i_covers_1 [x0, x1]) _ _ = _
    rw [sh_g_slices_IndexFunc_string__i_covers_1]
    simp only [EVS]
    refine (congrArg (scOnly true) (rangeIx l (fun c : List UInt8 => hasP c code) _ hl (fun again k a hb => ?_) (fun again => ?_))).trans ?_
    · have hk := lt_of_some hb
      have hi : idxV (.lst (l.map PV.str)) (.int .i64 (k : Int)) = some (.str a) := idx_map hb
      have hh := hc a (List.mem_of_getElem? hb)
      have g : s_i_covers_1 [.str a, .agg [.str code]] = some (pB (hasP a code)) := by
        show (fun x0 x1 => s_i_covers_1 [x0, x1]) _ _ = _
        rw [sh_i_covers_1]
        simp only [p_i_contains a code hh.1 hh.2, EVS]
      simp only [lt_d hk, next_w hk hl, hi, caps1, List.cons_append, List.nil_append, g, EVS]
    · simp only [ge_d, EVS]
      rfl
    · simp only [EVS]
  have g1 : s_g_slices_ContainsFunc_string__i_covers_1 [.lst (l.map PV.str), .tup [.agg [.str code]]] = some (pB (inP l code)) := by
    show (fun x0 x1 => s_g_slices_ContainsFunc_string__i_covers_1 [x0, x1]) _ _ = _
    rw [sh_g_slices_ContainsFunc_string__i_covers_1]
    simp only [g0, inP, ixf_ge (fun c : List UInt8 => hasP c code) l 0, EVS]
  show (fun x0 x1 => s_i_covers [x0, x1]) _ _ = _
  rw [sh_i_covers]
  simp only [lt_tup, List.drop_zero, g1, EVS]
/-- The pins read what is there. -/
def PinsAt (l : List (Int × Bool)) (s : List UInt8) : Prop := ∀ p ∈ l, 0 ≤ p.1 ∧ p.1 < s.length
theorem p_g_slices_ContainsFunc_Pin__i_nextWire_1 (l : List (Int × Bool)) (s : List UInt8) (hl : Fits l) (hp : PinsAt l s) : s_g_slices_ContainsFunc_Pin__i_nextWire_1 [.lst (l.map ePin), .tup [.agg [.str s]]] = some (pB (!allK (fun _ p => pinV p s) 0 l)) := by
  have g0 : s_g_slices_IndexFunc_Pin__i_nextWire_1 [.lst (l.map ePin), .tup [.agg [.str s]]] = some (pI (ixf (fun p : Int × Bool => !pinV p s) 0 l)) := by
    unfold Fits at hl
    show (fun x0 x1 => s_g_slices_IndexFunc_Pin__i_nextWire_1 [x0, x1]) _ _ = _
    rw [sh_g_slices_IndexFunc_Pin__i_nextWire_1]
    simp only [EVS]
    refine (congrArg (scOnly true) (rangeIx l (fun p : Int × Bool => !pinV p s) _ hl (fun again k a hb => ?_) (fun again => ?_))).trans ?_
    · have hk := lt_of_some hb
      have hi : idxV (.lst (l.map ePin)) (.int .i64 (k : Int)) = some (ePin a) := idx_map hb
      have hh := hp a (List.mem_of_getElem? hb)
      have g := p_i_pinValue a s hh.1 hh.2
      simp only [ePin] at g
      have g' : s_i_nextWire_1 [ePin a, .agg [.str s]] = some (pB (!pinV a s)) := by
        show (fun x0 x1 => s_i_nextWire_1 [x0, x1]) _ _ = _
        rw [sh_i_nextWire_1]
        simp only [ePin, g, EVS]
      simp only [ePin] at g'
      simp only [lt_d hk, next_w hk hl, hi, ePin, caps1, List.cons_append, List.nil_append, g', EVS]
    · simp only [ge_d, EVS]
      rfl
    · simp only [EVS]
  show (fun x0 x1 => s_g_slices_ContainsFunc_Pin__i_nextWire_1 [x0, x1]) _ _ = _
  rw [sh_g_slices_ContainsFunc_Pin__i_nextWire_1]
  simp only [g0, ixf_ge (fun p : Int × Bool => !pinV p s) l 0, Bool.not_not, EVS]
theorem p_g_slices_ContainsFunc_Pin__i_nextWire_2 (l : List (Int × Bool)) (s : List UInt8) (hl : Fits l) (hp : PinsAt l s) : s_g_slices_ContainsFunc_Pin__i_nextWire_2 [.lst (l.map ePin), .tup [.agg [.str s]]] = some (pB (!allK (fun _ p => !pinV p s) 0 l)) := by
  have g0 : s_g_slices_IndexFunc_Pin__i_nextWire_2 [.lst (l.map ePin), .tup [.agg [.str s]]] = some (pI (ixf (fun p : Int × Bool => pinV p s) 0 l)) := by
    unfold Fits at hl
    show (fun x0 x1 => s_g_slices_IndexFunc_Pin__i_nextWire_2 [x0, x1]) _ _ = _
    rw [sh_g_slices_IndexFunc_Pin__i_nextWire_2]
    simp only [EVS]
    refine (congrArg (scOnly true) (rangeIx l (fun p : Int × Bool => pinV p s) _ hl (fun again k a hb => ?_) (fun again => ?_))).trans ?_
    · have hk := lt_of_some hb
      have hi : idxV (.lst (l.map ePin)) (.int .i64 (k : Int)) = some (ePin a) := idx_map hb
      have hh := hp a (List.mem_of_getElem? hb)
      have g := p_i_pinValue a s hh.1 hh.2
      simp only [ePin] at g
      have g' : s_i_nextWire_2 [ePin a, .agg [.str s]] = some (pB (pinV a s)) := by
        show (fun x0 x1 => s_i_nextWire_2 [x0, x1]) _ _ = _
        rw [sh_i_nextWire_2]
        simp only [ePin, g, EVS]
      simp only [ePin] at g'
      simp only [lt_d hk, next_w hk hl, hi, ePin, caps1, List.cons_append, List.nil_append, g', EVS]
    · simp only [ge_d, EVS]
      rfl
    · simp only [EVS]
  show (fun x0 x1 => s_g_slices_ContainsFunc_Pin__i_nextWire_2 [x0, x1]) _ _ = _
  rw [sh_g_slices_ContainsFunc_Pin__i_nextWire_2]
  simp only [g0, ixf_ge (fun p : Int × Bool => pinV p s) l 0, EVS]
end Go.Proofs.YtjplbgaocmpleaaGreat

namespace Go.Proofs.YtjplbgaocmpleaaGreat
open Go.RowKit
set_option linter.unusedVariables false
set_option linter.unusedSimpArgs false
def oneV (s : List UInt8) (k : Nat) : Bool := match s[k]? with | some b => decide ((b.toNat : Int) = 49) | none => false
def restP (n : PNet) (s : List UInt8) (k : Nat) (w : PWire) : Bool :=
  if decide (w.kind = 5) = true then inP w.cover (s.take n.signals.length)
  else if decide (w.kind = 4) = true then (match w.ins with | [p, q] => if (pinV p s != pinV q s) = true then pinV p s else oneV s k | _ => oneV s k)
  else oneV s k
def nextP (n : PNet) (s : List UInt8) (k : Nat) (w : PWire) : Bool :=
  if decide (w.kind = 2) = true then allK (fun _ p => pinV p s) 0 w.ins
  else if decide (w.kind = 3) = true then !allK (fun _ p => !pinV p s) 0 w.ins
  else restP n s k w
theorem cutS_take0 (s : List UInt8) (k : Nat) (h : k ≤ s.length) : cutS (.str s) none (some (pI (k : Int))) = some (.str (s.take k)) := by
  have : (0 : Int) ≤ (k : Int) ∧ (k : Int) ≤ (s.length : Int) := by omega
  simp [cutS, bndV, bnd0, this]
/-- What a good wire at a place offers. -/
structure At (n : PNet) (s : List UInt8) (k : Nat) (w : PWire) : Prop where
  fit : n.Fit
  here : n.wires[k]? = some w
  wire : w.Fit
  fits : Fits s
  lt : k < s.length
  sig : n.signals.length ≤ s.length
  pins : PinsAt w.ins s
  cubes : w.kind = 5 → ∀ c ∈ w.cover, c.length ≤ n.signals.length
  two : w.kind = 4 → w.ins.length = 2
theorem loop3 {l : List (Int × Bool)} (s : List UInt8) (E : Bool → Bool → Bool) (f : (List PV → Option PV) → List PV → Option PV) (hl : l.length ≤ 9223372036854775807)
    (h1 : ∀ again (a b : Bool) (k : Nat) x, l[k]? = some x → f again [pB a, pB b, pI (k : Int)] = again [pB (a && pinV x s), pB (b || pinV x s), pI ((k + 1 : Nat) : Int)])
    (h2 : ∀ again (a b : Bool) (k : Nat), ¬ k < l.length → f again [pB a, pB b, pI (k : Int)] = some (pB (E a b))) :
    loopR f 18446744073709551616 [pB true, pB false, pI (0 : Int)] = some (pB (E (allK (fun _ p => pinV p s) 0 l) (!allK (fun _ p => !pinV p s) 0 l))) := by
  have key := loopR_go (R := PV) (fun t : Bool × Bool × Nat => [pB t.1, pB t.2.1, pI (t.2.2 : Int)]) (fun t => l.length + 1 - t.2.2) (fun t => some (pB (E (t.1 && (l.drop t.2.2).all fun p => pinV p s) (t.2.1 || !(l.drop t.2.2).all fun p => !pinV p s)))) f (fun again t ih => ?_) 18446744073709551616 (true, false, 0) (by simp only; omega)
  · simp only [Bool.true_and, Bool.false_or, List.drop_zero] at key
    rw [allK_all, allK_all]
    exact key
  · obtain ⟨a, b, k⟩ := t
    dsimp only at ih ⊢
    by_cases hk : k < l.length
    · have hx : l[k]? = some l[k] := List.getElem?_eq_getElem hk
      rw [h1 again a b k _ hx, ih (_, _, k + 1) (by simp only; omega), List.drop_eq_getElem_cons hk]
      simp only [List.all_cons, Bool.and_assoc]
      cases pinV l[k] s <;> simp
    · rw [h2 again a b k hk, List.drop_eq_nil_of_le (by omega)]
      simp
theorem p_r_l19Next (n : PNet) (s : List UInt8) (k : Nat) (w : PWire) (h : At n s k w) : s_r_l19Next [eNet n, .str s, pI k] = some (pB (nextP n s k w)) := by
  have hi : idxV (.lst (n.wires.map eWire)) (.int .i64 (k : Int)) = some (eWire w) := idx_map h.here
  have hil := h.wire.ins
  unfold Fits at hil
  show (fun x0 x1 x2 => s_r_l19Next [x0, x1, x2]) _ _ _ = _
  rw [sh_r_l19Next]
  simp only [eNet, hi, eWire, EVS]
  refine (congrArg (scOnly true) (loop3 (l := w.ins) s (fun a b => if decide (w.kind = 2) = true then a else if decide (w.kind = 3) = true then b else restP n s k w) _ hil (fun again a b j p hb => ?_) (fun again a b j hj => ?_))).trans ?_
  · have hk := lt_of_some hb
    have hi2 : idxV (.lst (w.ins.map ePin)) (.int .i64 (j : Int)) = some (ePin p) := idx_map hb
    have hp := h.pins p (List.mem_of_getElem? hb)
    have g := p_r_l19Pin p s hp.1 hp.2
    simp only [ePin] at g
    simp only [lt_d hk, next_w hk hil, hi2, ePin, g, EVS]
    cases a <;> cases b <;> simp only [EVS]
  · have hlt : decide ((j : Int) < (w.ins.length : Int)) = false := by simp; omega
    simp only [hlt, EVS]
    obtain c1 | c1 := (Bool.eq_false_or_eq_true (decide (w.kind = 2))).symm <;> simp only [c1, EVS]
    obtain c2 | c2 := (Bool.eq_false_or_eq_true (decide (w.kind = 3))).symm <;> simp only [c2, EVS]
    have hone : oneV s k = decide ((s[k]'h.lt).toNat = (49 : Int)) := by unfold oneV; rw [List.getElem?_eq_getElem h.lt]
    have hbv : byteV (.str s) (.int .i64 (k : Int)) = some (pU (s[k]'h.lt)) := byteV_at (List.getElem?_eq_getElem h.lt)
    unfold restP
    obtain c5 | c5 := (Bool.eq_false_or_eq_true (decide (w.kind = 5))).symm <;> simp only [c5, EVS]
    · obtain c4 | c4 := (Bool.eq_false_or_eq_true (decide (w.kind = 4))).symm <;> simp only [c4, joinK_eq, hbv, hone, EVS]
      have h2 := h.two (of_decide_eq_true c4)
      have hpins := h.pins
      revert h2 hpins
      rcases w.ins with _ | ⟨p, _ | ⟨q, _ | ⟨r, t⟩⟩⟩
      · intro h2; simp at h2
      · intro h2; simp at h2
      · intro _ hpins
        have i0 : idxV (.lst ([p, q].map ePin)) (.int .i64 0) = some (ePin p) := rfl
        have i1 : idxV (.lst ([p, q].map ePin)) (.int .i64 1) = some (ePin q) := rfl
        have hp := hpins p (by simp)
        have hq := hpins q (by simp)
        have g1 := p_r_l19Pin p s hp.1 hp.2
        have g2 := p_r_l19Pin q s hq.1 hq.2
        simp only [ePin] at g1 g2
        simp only [i0, i1, ePin, g1, g2, EVS]
        cases pinV p s <;> cases pinV q s <;> simp [bne, hbv, b_eql]
      · intro h2; simp at h2
    · have hc := p_r_l13In w.cover (s.take n.signals.length) h.wire.cover (fun c hc => ⟨h.wire.cubes c hc, by have := h.cubes (of_decide_eq_true c5) c hc; have := h.sig; simp; omega⟩)
      simp only [cutS_take0 s _ h.sig, hc, EVS]
  · simp only [nextP, EVS]
end Go.Proofs.YtjplbgaocmpleaaGreat

namespace Go.Proofs.YtjplbgaocmpleaaGreat
open Go.RowKit
set_option linter.unusedVariables false
set_option linter.unusedSimpArgs false
theorem p_i_nextWire (n : PNet) (s : List UInt8) (k : Nat) (w : PWire) (h : At n s k w) : s_i_nextWire [eNet n, .str s, pI k] = some (pB (nextP n s k w)) := by
  have hi : idxV (.lst (n.wires.map eWire)) (.int .i64 (k : Int)) = some (eWire w) := idx_map h.here
  have g2 := p_g_slices_ContainsFunc_Pin__i_nextWire_1 w.ins s h.wire.ins h.pins
  have g3 := p_g_slices_ContainsFunc_Pin__i_nextWire_2 w.ins s h.wire.ins h.pins
  have hone : oneV s k = decide ((s[k]'h.lt).toNat = (49 : Int)) := by unfold oneV; rw [List.getElem?_eq_getElem h.lt]
  have hbv : byteV (.str s) (.int .i64 (k : Int)) = some (pU (s[k]'h.lt)) := byteV_at (List.getElem?_eq_getElem h.lt)
  show (fun x0 x1 x2 => s_i_nextWire [x0, x1, x2]) _ _ _ = _
  rw [sh_i_nextWire]
  simp only [eNet, hi, eWire, EVS]
  unfold nextP
  obtain c2 | c2 := (Bool.eq_false_or_eq_true (decide (w.kind = 2))).symm <;> simp only [c2, lt_tup, List.drop_zero, g2, Bool.not_not, EVS]
  obtain c3 | c3 := (Bool.eq_false_or_eq_true (decide (w.kind = 3))).symm <;> simp only [c3, lt_tup, List.drop_zero, g3, Bool.not_not, EVS]
  unfold restP
  obtain c4 | c4 := (Bool.eq_false_or_eq_true (decide (w.kind = 4))).symm <;> simp only [c4, joinK_eq, EVS]
  · obtain c5 | c5 := (Bool.eq_false_or_eq_true (decide (w.kind = 5))).symm <;> simp only [c5, hbv, hone, EVS]
    have hc := p_i_covers w.cover (s.take n.signals.length) h.wire.cover (fun c hc => ⟨h.wire.cubes c hc, by have := h.cubes (of_decide_eq_true c5) c hc; have := h.sig; simp; omega⟩)
    simp only [cutS_take0 s _ h.sig, hc, EVS]
  · have c5 : decide (w.kind = 5) = false := by have := of_decide_eq_true c4; simp; omega
    have h2 := h.two (of_decide_eq_true c4)
    have hpins := h.pins
    simp only [c5, hone, EVS]
    revert h2 hpins
    rcases w.ins with _ | ⟨p, _ | ⟨q, _ | ⟨r, t⟩⟩⟩
    · intro h2; simp at h2
    · intro h2; simp at h2
    · intro _ hpins
      have i0 : idxV (.lst ([p, q].map ePin)) (.int .i64 0) = some (ePin p) := rfl
      have i1 : idxV (.lst ([p, q].map ePin)) (.int .i64 1) = some (ePin q) := rfl
      have hp := hpins p (by simp)
      have hq := hpins q (by simp)
      have g1 := p_i_pinValue p s hp.1 hp.2
      have g2 := p_i_pinValue q s hq.1 hq.2
      simp only [ePin] at g1 g2
      simp only [i0, i1, ePin, g1, g2, EVS]
      cases pinV p s <;> cases pinV q s <;> simp [bne, hbv, b_eql, sc_bool]
    · intro h2; simp at h2
end Go.Proofs.YtjplbgaocmpleaaGreat

namespace Go.Proofs.YtjplbgaocmpleaaGreat
open Go.RowKit
set_option linter.unusedVariables false
set_option linter.unusedSimpArgs false
theorem allK_at {α : Type} (q : Nat → α → Bool) : ∀ (l : List α) (j : Nat), allK q j l = true → ∀ (i : Nat) (x : α), l[i]? = some x → q (j + i) x = true
  | [], j, _, i, x, hx => by simp at hx
  | y :: r, j, h, i, x, hx => by
    unfold allK at h
    rw [Bool.and_eq_true] at h
    cases i with
    | zero => simp at hx; subst hx; simpa using h.1
    | succ i =>
      have := allK_at q r (j + 1) h.2 i x (by simpa using hx)
      rw [show j + (i + 1) = j + 1 + i by omega]
      exact this
theorem allK_mem {α : Type} (q : α → Bool) {l : List α} (h : allK (fun _ x => q x) 0 l = true) {x : α} (hx : x ∈ l) : q x = true := by
  rw [allK_all] at h
  exact List.all_eq_true.1 h x hx
def bitU (u : Bool) : UInt8 := if u = true then 49 else 48
theorem bitB_bitU (u : Bool) : bitB (bitU u) = true := by cases u <;> decide
theorem p_r_l5Bit (u : Bool) : s_r_l5Bit [pB u] = some (.str [bitU u]) := by
  show (fun x0 => s_r_l5Bit [x0]) _ = _
  rw [sh_r_l5Bit]
  cases u <;> simp only [EVS] <;> rfl
theorem p_i_bit (u : Bool) : s_i_bit [pB u] = some (pU (bitU u)) := by
  show (fun x0 => s_i_bit [x0]) _ = _
  rw [sh_i_bit]
  cases u <;> simp only [EVS] <;> rfl
theorem set_cut {α : Type} (c : List α) (i : Nat) (b : α) (h : i < c.length) : c.take i ++ [b] ++ c.drop (i + 1) = c.set i b := by
  rw [List.set_eq_take_append_cons_drop, if_pos h, List.append_assoc]
  rfl
theorem p_r_l5Set (c : List UInt8) (i : Nat) (b : UInt8) (h : i < c.length) (hc : Fits c) : s_r_l5Set [.str c, pI i, .str [b]] = some (.str (c.set i b)) := by
  unfold Fits at hc
  have h1 : cutS (.str c) none (some (.int .i64 (i : Int))) = some (.str (c.take i)) := cutS_take (by omega)
  have h2 : cutS (.str c) (some (.int .i64 ((i + 1 : Nat) : Int))) none = some (.str (c.drop (i + 1))) := cutS_drop (by omega)
  show (fun x0 x1 x2 => s_r_l5Set [x0, x1, x2]) _ _ _ = _
  rw [sh_r_l5Set]
  have h3 : binV .add TD.str (.str (c.take i)) (.str [b]) = some (.str (c.take i ++ [b])) := bs_add (by simp; omega)
  have h4 : binV .add TD.str (.str (c.take i ++ [b])) (.str (c.drop (i + 1))) = some (.str (c.take i ++ [b] ++ c.drop (i + 1))) := bs_add (by simp; omega)
  simp only [h1, next_w h hc, h2, h3, h4, set_cut c i b h, EVS]
theorem bitsP_iff {s : List UInt8} {n : Nat} : bitsP s n = true ↔ (∀ b ∈ s, bitB b = true) ∧ s.length = n := by
  unfold bitsP
  rw [allK_all, Bool.and_eq_true, List.all_eq_true, decide_eq_true_eq]
  constructor
  · rintro ⟨h1, h2⟩; exact ⟨h1, by omega⟩
  · rintro ⟨h1, h2⟩; exact ⟨h1, by omega⟩
theorem bits_set {v : List UInt8} {N k : Nat} (h : bitsP v N = true) (u : Bool) : bitsP (v.set k (bitU u)) N = true := by
  rw [bitsP_iff] at h ⊢
  refine ⟨fun b hb => ?_, by simpa using h.2⟩
  rcases List.mem_or_eq_of_mem_set hb with hb | rfl
  · exact h.1 b hb
  · exact bitB_bitU u
theorem bits_pad {c : List UInt8} {m N : Nat} (h : bitsP c m = true) (hm : m ≤ N) : bitsP (c ++ List.replicate (N - m) 48) N = true := by
  rw [bitsP_iff] at h ⊢
  refine ⟨fun b hb => ?_, by simp [h.2]; omega⟩
  rcases List.mem_append.1 hb with hb | hb
  · exact h.1 b hb
  · obtain ⟨_, rfl⟩ := List.mem_replicate.1 hb; decide
theorem bitB_iff (b : UInt8) : bitB b = true ↔ b = 48 ∨ b = 49 := by
  unfold bitB
  rw [Bool.or_eq_true, decide_eq_true_eq, decide_eq_true_eq]
  have h48 : (48 : UInt8).toNat = 48 := rfl
  have h49 : (49 : UInt8).toNat = 49 := rfl
  constructor
  · rintro (h | h)
    · exact .inl (UInt8.toNat_inj.1 (by omega))
    · exact .inr (UInt8.toNat_inj.1 (by omega))
  · rintro (rfl | rfl)
    · exact .inl rfl
    · exact .inr rfl
end Go.Proofs.YtjplbgaocmpleaaGreat

namespace Go.Proofs.YtjplbgaocmpleaaGreat
open Go.RowKit
set_option linter.unusedVariables false
set_option linter.unusedSimpArgs false
/-- In a good netlist with good values each wire is at its place. -/
theorem at_of (n : PNet) (s : List UInt8) (k : Nat) (hn : n.Fit) (hs : Fits s) (hv : valuesP n s = true) (hk : k < n.wires.length) : At n s k n.wires[k] := by
  unfold valuesP netP bitsP at hv
  simp only [Bool.and_eq_true, decide_eq_true_eq, Bool.not_eq_true', decide_eq_false_iff_not] at hv
  obtain ⟨⟨⟨h1, h2, h3⟩, h4⟩, h5, h6⟩ := hv
  have hx : n.wires[k]? = some n.wires[k] := List.getElem?_eq_getElem hk
  have hw := allK_at _ _ _ h4 k _ hx
  rw [Nat.zero_add] at hw
  unfold netWireOk wireP pinsP at hw
  simp only [Bool.and_eq_true] at hw
  obtain ⟨⟨⟨⟨hkd, _⟩, hcov⟩, _, hpins, hform⟩, _⟩ := hw
  refine ⟨hn, hx, hn.wire _ (List.getElem_mem hk), hs, by omega, by omega, fun p hp => ?_, fun hk5 c hc => ?_, fun hk4 => ?_⟩
  · have := allK_mem (fun p => pinOk n k p) hpins hp
    unfold pinOk inR at this
    simp only [Bool.and_eq_true, decide_eq_true_eq] at this
    omega
  · rw [if_pos (by simp [hk5])] at hcov
    unfold goodP coverGo at hcov
    simp only [Bool.and_eq_true] at hcov
    have := allK_mem (fun c => cubeP c && decide ((c.length : Int) = n.signals.length)) hcov.1 hc
    simp only [Bool.and_eq_true, decide_eq_true_eq] at this
    omega
  · unfold pinForm at hform
    rw [if_neg (by simp [hk4]), if_pos (by simp [hk4])] at hform
    simp only [decide_eq_true_eq] at hform
    omega
/-- The answer. -/
def nextAns (n : PNet) (s : List UInt8) (k : Int) : Bool × Bool :=
  if valuesP n s = true then (match (if 0 ≤ k then n.wires[k.toNat]? else none) with | some w => (nextP n s k.toNat w, true) | none => (false, false)) else (false, false)
end Go.Proofs.YtjplbgaocmpleaaGreat

namespace Go.Proofs.YtjplbgaocmpleaaGreat
open Go.RowKit
set_option linter.unusedVariables false
set_option linter.unusedSimpArgs false
/-- The numbers from a to below b. -/
def fromTo (a b : Nat) : List Int := (List.range (b - a)).map fun i => ((a + i : Nat) : Int)
theorem fromTo_len (a b : Nat) : (fromTo a b).length = b - a := by simp [fromTo]
theorem fromTo_snoc {a b : Nat} (h : a ≤ b) : fromTo a (b + 1) = fromTo a b ++ [(b : Int)] := by
  unfold fromTo
  rw [show b + 1 - a = (b - a) + 1 by omega, List.range_succ, List.map_append]
  simp only [List.map_cons, List.map_nil]
  rw [show a + (b - a) = b by omega]
/-- A loop over numbers from a to below b, with what was gathered. -/
theorem gatherLoop {R : Type} (a b : Nat) (st : Nat → List PV) (e : Option R) (f : (List PV → Option R) → List PV → Option R) (hm : b ≤ 9223372036854775807)
    (h1 : ∀ again k, a ≤ k → k < b → f again (st k) = again (st (k + 1)))
    (h2 : ∀ again, f again (st b) = e) (hab : a ≤ b) (J : List PV) (hJ : st a = J) : loopR f 18446744073709551616 J = e := by
  subst hJ
  have key := loopR_go (R := R) (fun k : {k : Nat // a ≤ k ∧ k ≤ b} => st k.1) (fun k => b + 1 - k.1) (fun _ => e) f (fun again k ih => ?_) 18446744073709551616 ⟨a, Nat.le_refl _, hab⟩ (by simp only; omega)
  · exact key
  · obtain ⟨k, hk, hk2⟩ := k
    dsimp only at ih ⊢
    by_cases c : k < b
    · rw [h1 again k hk c]
      exact ih ⟨k + 1, by omega, c⟩ (by simp only; omega)
    · obtain rfl : k = b := by omega
      exact h2 again
def hiddenP (n : PNet) : List Int := if netP n = true then fromTo n.signals.length n.wires.length else []
end Go.Proofs.YtjplbgaocmpleaaGreat

namespace Go.Proofs.YtjplbgaocmpleaaGreat
open Go.RowKit
set_option linter.unusedVariables false
set_option linter.unusedSimpArgs false
/-- The numbers below k that are good. -/
def pickTo (good : Nat → Bool) (k : Nat) : List Int := ((List.range k).filter good).map fun (i : Nat) => Int.ofNat i
theorem pickTo_len (good : Nat → Bool) (k : Nat) : (pickTo good k).length ≤ k := by
  unfold pickTo
  rw [List.length_map]
  exact Nat.le_trans (List.length_filter_le _ _) (by simp)
theorem pickTo_yes {good : Nat → Bool} {k : Nat} (h : good k = true) : pickTo good (k + 1) = pickTo good k ++ [(k : Int)] := by
  unfold pickTo
  rw [List.range_succ, List.filter_append]
  simp [h]
theorem pickTo_no {good : Nat → Bool} {k : Nat} (h : good k = false) : pickTo good (k + 1) = pickTo good k := by
  unfold pickTo
  rw [List.range_succ, List.filter_append]
  simp [h]
def excitedAt (n : PNet) (s : List UInt8) (k : Nat) : Bool := match n.wires[k]? with | some w => nextP n s k w != oneV s k | none => false
def excitedP (n : PNet) (s : List UInt8) : List Int := if valuesP n s = true then pickTo (excitedAt n s) n.wires.length else []
theorem values_len {n : PNet} {s : List UInt8} (hv : valuesP n s = true) : s.length = n.wires.length := by
  unfold valuesP bitsP at hv
  simp only [Bool.and_eq_true, decide_eq_true_eq] at hv
  omega
theorem p_r_l19Excited (n : PNet) (s : List UInt8) (hn : n.Fit) (hs : Fits s) (hv : valuesP n s = true) (hb : n.wires.length ≤ 1048576) : s_r_l19Excited [eNet n, .str s] = some (.lst ((pickTo (excitedAt n s) n.wires.length).map pI)) := by
  show (fun x0 x1 => s_r_l19Excited [x0, x1]) _ _ = _
  rw [sh_r_l19Excited]
  simp only [eNet, EVS]
  refine (congrArg (fun m : Option PV => m) (gatherLoop (R := PV) 0 n.wires.length (fun k => [.lst ((pickTo (excitedAt n s) k).map pI), pI (Int.ofNat k)]) (some (.lst ((pickTo (excitedAt n s) n.wires.length).map pI))) _ (by omega) (fun again k h1 h2 => ?_) (fun again => ?_) (Nat.zero_le _) _ (by simp [pickTo]))).trans ?_
  · have ha := at_of n s k hn hs hv h2
    have a1 := p_r_l19Next n s k _ ha
    simp only [eNet] at a1
    have hk : k < s.length := ha.lt
    have hby := byteV_at (k := .i64) (List.getElem?_eq_getElem hk)
    have ho : oneV s k = decide ((s[k].toNat : Int) = 49) := by unfold oneV; rw [List.getElem?_eq_getElem hk]
    have he : excitedAt n s k = (nextP n s k n.wires[k] != oneV s k) := by unfold excitedAt; rw [List.getElem?_eq_getElem h2]
    have hl : (pickTo (excitedAt n s) k).length + [pI (k : Int)].length ≤ 4294967296 ∧ [pI (k : Int)].all (okEl 1) = true := ⟨by have := pickTo_len (excitedAt n s) k; simp; omega, rfl⟩
    have he' : (!nextP n s k n.wires[k] == decide ((s[k].toNat : Int) = 49)) = excitedAt n s k := by rw [he, ho]; rfl
    have hm : n.wires.length ≤ 9223372036854775807 := by omega
    simp only [lt_d h2, hby, a1, he', EVS]
    cases hE : excitedAt n s k
    · simp only [next_w h2 hm, pickTo_no hE, EVS]
    · simp only [if_pos hl, next_w h2 hm, pickTo_yes hE, List.map_append, List.map_cons, List.map_nil, EVS]
  · simp only [ge_d, EVS]
  · rfl
theorem p_i_isExcitedWire (n : PNet) (s : List UInt8) (k : Nat) (hn : n.Fit) (hs : Fits s) (hv : valuesP n s = true) (h2 : k < n.wires.length) : s_i_isExcitedWire [eNet n, .str s, pI k] = some (pB (excitedAt n s k)) := by
  have ha := at_of n s k hn hs hv h2
  have a1 := p_i_nextWire n s k _ ha
  simp only [eNet] at a1
  have hk : k < s.length := ha.lt
  have hby := byteV_at (k := .i64) (List.getElem?_eq_getElem hk)
  have he : excitedAt n s k = (nextP n s k n.wires[k] != decide ((s[k].toNat : Int) = 49)) := by unfold excitedAt oneV; rw [List.getElem?_eq_getElem h2, List.getElem?_eq_getElem hk]
  have hbit : bitB s[k] = true := by
    unfold valuesP bitsP at hv
    simp only [Bool.and_eq_true] at hv
    exact allK_at _ _ _ hv.2.1 k _ (List.getElem?_eq_getElem hk)
  unfold bitB at hbit
  simp only [Bool.or_eq_true, decide_eq_true_eq] at hbit
  show (fun x0 x1 x2 => s_i_isExcitedWire [x0, x1, x2]) _ _ _ = _
  rw [sh_i_isExcitedWire]
  simp only [eNet, a1, hby, p_i_bit, he, EVS]
  cases nextP n s k n.wires[k] <;> rcases hbit with h | h <;> rw [h] <;> rfl
theorem p_i_excitedWires (n : PNet) (s : List UInt8) (hn : n.Fit) (hs : Fits s) (hv : valuesP n s = true) (hb : n.wires.length ≤ 1048576) : s_i_excitedWires [eNet n, .str s] = some (.lst ((pickTo (excitedAt n s) n.wires.length).map pI)) := by
  show (fun x0 x1 => s_i_excitedWires [x0, x1]) _ _ = _
  rw [sh_i_excitedWires]
  simp only [eNet, EVS]
  refine (congrArg (fun m : Option PV => m) (gatherLoop (R := PV) 0 n.wires.length (fun k => [.lst ((pickTo (excitedAt n s) k).map pI), pI (Int.ofNat k)]) (some (.lst ((pickTo (excitedAt n s) n.wires.length).map pI))) _ (by omega) (fun again k h1 h2 => ?_) (fun again => ?_) (Nat.zero_le _) _ (by simp [pickTo]))).trans ?_
  · have a1 := p_i_isExcitedWire n s k hn hs hv h2
    simp only [eNet] at a1
    have hl : (pickTo (excitedAt n s) k).length + [pI (k : Int)].length ≤ 4294967296 ∧ [pI (k : Int)].all (okEl 1) = true := ⟨by have := pickTo_len (excitedAt n s) k; simp; omega, rfl⟩
    have hm : n.wires.length ≤ 9223372036854775807 := by omega
    simp only [lt_d h2, a1, EVS]
    cases hE : excitedAt n s k
    · simp only [next_w h2 hm, pickTo_no hE, EVS]
    · simp only [if_pos hl, next_w h2 hm, pickTo_yes hE, List.map_append, List.map_cons, List.map_nil, EVS]
  · simp only [ge_d, EVS]
  · rfl
end Go.Proofs.YtjplbgaocmpleaaGreat

namespace Go.Proofs.YtjplbgaocmpleaaGreat
open Go.RowKit
set_option linter.unusedVariables false
set_option linter.unusedSimpArgs false
/-! PRODUCTS: validity; the states at rest. -/
def ePs (b : PSt) : PV := .agg [pI b.state, .str b.values]
def eFl (f : Flip) : PV := .agg [pI f.from_, pI f.wire, pI f.to]
def ePr (p : ProdG) : PV := .agg [.lst (p.states.map ePs), .lst (p.flips.map eFl), .lst (p.extra.map eFl)]
structure PrFit (p : ProdG) : Prop where
  states : Fits p.states
  each : ∀ b ∈ p.states, Fits b.values
  flips : Fits p.flips
def flipP (last : Int) (f : Flip) : Bool := (inR f.from_ 0 last && inR f.to 0 last) && inR f.wire 0 23
def prodP (p : ProdG) : Bool := (inR p.states.length 1 600 && decide ((p.flips.length : Int) ≤ 6000)) && p.flips.all (flipP ((p.states.length : Int) - 1))
theorem p_r_l20Good (p : ProdG) (hp : PrFit p) : s_r_l20Good [ePr p] = some (pB (prodP p)) := by
  have hl := hp.flips
  have hs := hp.states
  unfold Fits at hl hs
  have hw : IntKind.i64.wrap ((p.states.length : Int) - 1) = (p.states.length : Int) - 1 := wrap_of (by omega) (by omega)
  show (fun x0 => s_r_l20Good [x0]) _ = _
  rw [sh_r_l20Good]
  simp only [ePr, EVS]
  refine (congrArg (fun m : Option PV => m.bind fun r => if r.sc = true then some r else none) (rangeAll (R := PV) p.flips (fun _ f => flipP ((p.states.length : Int) - 1) f) (some (pB false)) (some (pB (inR p.states.length 1 600 && decide ((p.flips.length : Int) ≤ 6000)))) _ hl (fun again k f hx => ?_) (fun again => ?_))).trans ?_
  · have hk := lt_of_some hx
    have hi : idxV (.lst (p.flips.map eFl)) (.int .i64 (k : Int)) = some (eFl f) := idx_map hx
    have g1 : s_r_l1In [pI f.from_, pI 0, pI ((p.states.length : Int) - 1)] = some (pB (inR f.from_ 0 ((p.states.length : Int) - 1))) := p_r_l1In _ _ _
    have g2 : s_r_l1In [pI f.to, pI 0, pI ((p.states.length : Int) - 1)] = some (pB (inR f.to 0 ((p.states.length : Int) - 1))) := p_r_l1In _ _ _
    have g3 : s_r_l1In [pI f.wire, pI 0, pI 23] = some (pB (inR f.wire 0 23)) := p_r_l1In _ _ _
    unfold flipP
    simp only [lt_d hk, next_w hk hl, hi, eFl, hw, g1, EVS]
    cases c1 : inR f.from_ 0 ((p.states.length : Int) - 1) <;> cases c2 : inR f.to 0 ((p.states.length : Int) - 1) <;> cases c3 : inR f.wire 0 23 <;> simp only [c1, c2, c3, hw, g1, g2, g3, EVS]
  · have g : s_r_l1In [pI (p.states.length : Int), pI 1, pI 600] = some (pB (inR p.states.length 1 600)) := p_r_l1In _ _ _
    simp only [ge_d, g, EVS]
    cases inR p.states.length 1 600 <;> simp only [EVS]
  · rw [allK_all]
    unfold prodP
    cases p.flips.all (flipP ((p.states.length : Int) - 1)) <;> simp only [EVS] <;> rfl
theorem p_i_isProduct_1 (f : Flip) (last : Int) : s_i_isProduct_1 [eFl f, .agg [pI last]] = some (pB (!flipP last f)) := by
  have g1 := p_i_within f.from_ 0 last
  have g2 := p_i_within f.to 0 last
  have g3 := p_i_within f.wire 0 23
  show (fun x0 x1 => s_i_isProduct_1 [x0, x1]) _ _ = _
  rw [sh_i_isProduct_1]
  unfold flipP
  simp only [eFl, g1, EVS]
  cases c1 : inR f.from_ 0 last <;> cases c2 : inR f.to 0 last <;> cases c3 : inR f.wire 0 23 <;> simp only [c1, c2, c3, g1, g2, g3, EVS]
theorem p_g_slices_IndexFunc_WireFlip__i_isProduct_1 (l : List Flip) (last : Int) (hl : Fits l) : s_g_slices_IndexFunc_WireFlip__i_isProduct_1 [.lst (l.map eFl), .tup [.agg [pI last]]] = some (pI (ixf (fun f => !flipP last f) 0 l)) := by
  show (fun x0 x1 => s_g_slices_IndexFunc_WireFlip__i_isProduct_1 [x0, x1]) _ _ = _
  rw [sh_g_slices_IndexFunc_WireFlip__i_isProduct_1]
  unfold Fits at hl
  simp only [EVS]
  refine (congrArg (fun m : Option PV => m.bind fun r => if r.sc = true then some r else none) (rangeIx l (fun f => !flipP last f) _ hl (fun again i a hb => ?_) (fun again => ?_))).trans ?_
  · have hk := lt_of_some hb
    have hi : idxV (.lst (l.map eFl)) (.int .i64 (i : Int)) = some (eFl a) := idx_map hb
    have g := p_i_isProduct_1 a last
    simp only [eFl] at g
    simp only [lt_d hk, next_w hk hl, hi, eFl, caps1, List.cons_append, List.nil_append, g, EVS]
  · simp only [ge_d, EVS]
    rfl
  · simp only [EVS]
theorem p_g_slices_ContainsFunc_WireFlip__i_isProduct_1 (l : List Flip) (last : Int) (hl : Fits l) : s_g_slices_ContainsFunc_WireFlip__i_isProduct_1 [.lst (l.map eFl), .tup [.agg [pI last]]] = some (pB (!l.all (flipP last))) := by
  show (fun x0 x1 => s_g_slices_ContainsFunc_WireFlip__i_isProduct_1 [x0, x1]) _ _ = _
  rw [sh_g_slices_ContainsFunc_WireFlip__i_isProduct_1]
  simp only [p_g_slices_IndexFunc_WireFlip__i_isProduct_1 l last hl, ixf_ge (fun f => !flipP last f) l 0, Bool.not_not, allK_all, EVS]
theorem spl_1 (a c : PV) : splice [a] 0 [c] = [c] := rfl
theorem p_i_isProduct (p : ProdG) (hp : PrFit p) : s_i_isProduct [ePr p] = some (pB (prodP p)) := by
  have hs := hp.states
  unfold Fits at hs
  have hw : IntKind.i64.wrap ((p.states.length : Int) - 1) = (p.states.length : Int) - 1 := wrap_of (by omega) (by omega)
  have g1 := p_i_within (p.states.length : Int) 1 600
  have g2 := p_g_slices_ContainsFunc_WireFlip__i_isProduct_1 p.flips ((p.states.length : Int) - 1) hp.flips
  show (fun x0 => s_i_isProduct [x0]) _ = _
  rw [sh_i_isProduct]
  unfold prodP
  simp only [ePr, hw, spl_1, g1, EVS]
  cases c1 : inR p.states.length 1 600 <;> cases c2 : decide ((p.flips.length : Int) ≤ 6000) <;> simp only [c1, c2, hw, spl_1, g1, g2, List.drop_zero, Bool.not_not, EVS]
end Go.Proofs.YtjplbgaocmpleaaGreat

namespace Go.Proofs.YtjplbgaocmpleaaGreat
open Go.RowKit
set_option linter.unusedVariables false
set_option linter.unusedSimpArgs false
def quietAt (n : PNet) (b : PSt) : Bool := decide (((pickTo (excitedAt n b.values) n.wires.length).length : Int) = 0)
/-- The indices of the states at rest, from k on. -/
def quietGo (n : PNet) : Nat → List PSt → List Int
  | _, [] => []
  | k, b :: r => if quietAt n b = true then (k : Int) :: quietGo n (k + 1) r else quietGo n (k + 1) r
theorem quietGo_len (n : PNet) : ∀ (l : List PSt) (k : Nat), (quietGo n k l).length ≤ l.length
  | [], k => by simp [quietGo]
  | b :: r, k => by
    unfold quietGo
    have := quietGo_len n r (k + 1)
    split <;> simp <;> omega
theorem quietGo_in (n : PNet) : ∀ (l : List PSt) (k : Nat), ∀ x ∈ quietGo n k l, 0 ≤ x ∧ x < (k + l.length : Nat)
  | [], k, x, h => by cases h
  | b :: r, k, x, h => by
    unfold quietGo at h
    have ih := quietGo_in n r (k + 1)
    split at h
    · rcases List.mem_cons.1 h with rfl | h
      · simp; omega
      · have := ih x h; simp at this ⊢; omega
    · have := ih x h; simp at this ⊢; omega
def bitsAll (n : PNet) (p : ProdG) : Bool := p.states.all fun b => bitsP b.values n.wires.length
def quietP (n : PNet) (p : ProdG) : List Int × Bool := if ((netP n && prodP p) && bitsAll n p) = true then (quietGo n 0 p.states, true) else ([], false)
theorem fold_quiet (n : PNet) : ∀ (l : List PSt) (k : Nat) (acc : List Int), foldGo (R := PV) (fun (acc : List Int) k b => if bitsP b.values n.wires.length = true then .inl (if quietAt n b = true then acc ++ [(k : Int)] else acc) else .inr (some (.tup [.lst [], pB false]))) (fun acc => some (.tup [.lst (acc.map pI), pB true])) k acc l = if (l.all fun b => bitsP b.values n.wires.length) = true then some (.tup [.lst ((acc ++ quietGo n k l).map pI), pB true]) else some (.tup [.lst [], pB false])
  | [], k, acc => by simp [foldGo, quietGo]
  | b :: r, k, acc => by
    unfold foldGo quietGo
    cases c : bitsP b.values n.wires.length
    · simp [c]
    · simp only [c, if_true, List.all_cons, Bool.true_and]
      refine (fold_quiet n r (k + 1) _).trans ?_
      cases quietAt n b <;> simp
theorem at_r_QuiescentStates (n : PNet) (p : ProdG) (hn : n.Fit) (hp : PrFit p) (hb : n.wires.length ≤ 1048576) : s_r_QuiescentStates [eNet n, ePr p] = some (.tup [.lst ((quietP n p).1.map pI), pB (quietP n p).2]) := by
  have g1 := p_r_l19Good n hn
  have g2 := p_r_l20Good p hp
  simp only [eNet] at g1
  simp only [ePr] at g2
  show (fun x0 x1 => s_r_QuiescentStates [x0, x1]) _ _ = _
  rw [sh_r_QuiescentStates]
  unfold quietP
  cases c1 : netP n
  · simp only [c1, eNet, ePr, g1, EVS]; rfl
  cases c2 : prodP p
  · simp only [c1, c2, eNet, ePr, g1, g2, pv_t3, EVS]; rfl
  have hs : p.states.length ≤ 600 := by unfold prodP inR at c2; simp only [Bool.and_eq_true, decide_eq_true_eq] at c2; omega
  simp only [c1, c2, eNet, ePr, g1, g2, pv_t3, EVS]
  refine (foldLoop (R := PV) p.states (fun (acc : List Int) k => [.lst (acc.map pI), pI (Int.ofNat k)]) (fun k acc => acc.length ≤ k) (fun (acc : List Int) k b => if bitsP b.values n.wires.length = true then .inl (if quietAt n b = true then acc ++ [(k : Int)] else acc) else .inr (some (.tup [.lst [], pB false]))) (fun acc => some (.tup [.lst (acc.map pI), pB true])) _ (by omega) (fun acc k b acc' hi hx he => ?_) (fun again acc k b hi hx => ?_) (fun again acc hi => ?_) (b := []) (Nat.zero_le _)).trans ?_
  · split at he
    · cases he; split <;> first | (simp; omega) | omega
    · cases he
  · have hk := lt_of_some hx
    have hbm := List.mem_of_getElem? hx
    have hv := hp.each b hbm
    have hi' : idxV (.lst (p.states.map ePs)) (.int .i64 (k : Int)) = some (ePs b) := idx_map hx
    have g3 := p_r_l5Code b.values n.wires.length hv
    have hla : acc.length + [pI (k : Int)].length ≤ 4294967296 ∧ [pI (k : Int)].all (okEl 1) = true := ⟨by simp; omega, rfl⟩
    cases c3 : bitsP b.values n.wires.length
    · simp only [lt_d hk, hi', ePs, g3, c3, List.length_map, EVS]
    · have g4 := p_r_l19Excited n b.values hn hv (by unfold valuesP; rw [c1, c3]; rfl) hb
      simp only [eNet] at g4
      cases c4 : quietAt n b
      · unfold quietAt at c4
        simp only [lt_d hk, hi', ePs, g3, c3, g4, c4, List.length_map, next_w hk (show p.states.length ≤ 9223372036854775807 by omega), EVS]
      · unfold quietAt at c4
        simp only [lt_d hk, hi', ePs, g3, c3, g4, c4, List.length_map, if_pos hla, next_w hk (show p.states.length ≤ 9223372036854775807 by omega), List.map_append, List.map_cons, List.map_nil, EVS]
  · simp only [ge_d, EVS]
  · rw [fold_quiet]
    unfold bitsAll
    cases p.states.all fun b => bitsP b.values n.wires.length <;> rfl
theorem p_i_QuiescentStates_1 (b : PSt) (n : PNet) (hv : Fits b.values) : s_i_QuiescentStates_1 [ePs b, eNet n] = some (pB (!bitsP b.values n.wires.length)) := by
  have g := p_i_isBits b.values n.wires.length hv
  show (fun x0 x1 => s_i_QuiescentStates_1 [x0, x1]) _ _ = _
  rw [sh_i_QuiescentStates_1]
  simp only [ePs, eNet, List.drop_succ_cons, List.drop_zero, List.length_map, g, EVS]
theorem p_g_slices_IndexFunc_ProductState__i_QuiescentStates_1 (l : List PSt) (n : PNet) (hl : Fits l) (he : ∀ b ∈ l, Fits b.values) : s_g_slices_IndexFunc_ProductState__i_QuiescentStates_1 [.lst (l.map ePs), .tup [eNet n]] = some (pI (ixf (fun b => !bitsP b.values n.wires.length) 0 l)) := by
  show (fun x0 x1 => s_g_slices_IndexFunc_ProductState__i_QuiescentStates_1 [x0, x1]) _ _ = _
  rw [sh_g_slices_IndexFunc_ProductState__i_QuiescentStates_1]
  unfold Fits at hl
  simp only [EVS]
  refine (congrArg (fun m : Option PV => m.bind fun r => if r.sc = true then some r else none) (rangeIx l (fun b => !bitsP b.values n.wires.length) _ hl (fun again i a hb => ?_) (fun again => ?_))).trans ?_
  · have hk := lt_of_some hb
    have hi : idxV (.lst (l.map ePs)) (.int .i64 (i : Int)) = some (ePs a) := idx_map hb
    have g := p_i_QuiescentStates_1 a n (he a (List.mem_of_getElem? hb))
    simp only [ePs, eNet] at g
    simp only [lt_d hk, next_w hk hl, hi, ePs, eNet, caps1, List.cons_append, List.nil_append, g, EVS]
  · simp only [ge_d, EVS]
    rfl
  · simp only [EVS]
theorem p_g_slices_ContainsFunc_ProductState__i_QuiescentStates_1 (l : List PSt) (n : PNet) (hl : Fits l) (he : ∀ b ∈ l, Fits b.values) : s_g_slices_ContainsFunc_ProductState__i_QuiescentStates_1 [.lst (l.map ePs), .tup [eNet n]] = some (pB (!l.all fun b => bitsP b.values n.wires.length)) := by
  show (fun x0 x1 => s_g_slices_ContainsFunc_ProductState__i_QuiescentStates_1 [x0, x1]) _ _ = _
  rw [sh_g_slices_ContainsFunc_ProductState__i_QuiescentStates_1]
  simp only [p_g_slices_IndexFunc_ProductState__i_QuiescentStates_1 l n hl he, ixf_ge (fun b : PSt => !bitsP b.values n.wires.length) l 0, Bool.not_not, allK_all, EVS]
theorem fold_quiet2 (n : PNet) : ∀ (l : List PSt) (k : Nat) (acc : List Int), foldGo (R := PV) (fun (acc : List Int) k b => .inl (if quietAt n b = true then acc ++ [(k : Int)] else acc)) (fun acc => some (.tup [.lst (acc.map pI), pB true])) k acc l = some (.tup [.lst ((acc ++ quietGo n k l).map pI), pB true])
  | [], k, acc => by simp [foldGo, quietGo]
  | b :: r, k, acc => by
    unfold foldGo quietGo
    refine (fold_quiet2 n r (k + 1) _).trans ?_
    cases quietAt n b <;> simp
theorem at_i_QuiescentStates (n : PNet) (p : ProdG) (hn : n.Fit) (hp : PrFit p) (hb : n.wires.length ≤ 1048576) : s_i_QuiescentStates [eNet n, ePr p] = some (.tup [.lst ((quietP n p).1.map pI), pB (quietP n p).2]) := by
  have g1 := p_i_IsValidNetlist n hn
  rw [← net_eq n] at g1
  have g2 := p_i_isProduct p hp
  have g3 := p_g_slices_ContainsFunc_ProductState__i_QuiescentStates_1 p.states n hp.states hp.each
  simp only [eNet] at g1 g3
  simp only [ePr] at g2
  show (fun x0 x1 => s_i_QuiescentStates [x0, x1]) _ _ = _
  rw [sh_i_QuiescentStates]
  unfold quietP
  cases c1 : netP n
  · simp only [c1, eNet, ePr, g1, EVS]; rfl
  cases c2 : prodP p
  · simp only [c1, c2, eNet, ePr, g1, g2, pv_t3, EVS]; rfl
  have hs : p.states.length ≤ 600 := by unfold prodP inR at c2; simp only [Bool.and_eq_true, decide_eq_true_eq] at c2; omega
  cases c5 : bitsAll n p
  · unfold bitsAll at c5
    simp only [c1, c2, c5, eNet, ePr, g1, g2, g3, pv_t3, List.drop_zero, EVS]; rfl
  have c6 := c5
  unfold bitsAll at c5
  simp only [c1, c2, c5, eNet, ePr, g1, g2, g3, pv_t3, List.drop_zero, EVS]
  refine (foldLoop (R := PV) p.states (fun (acc : List Int) k => [.lst (acc.map pI), pI (Int.ofNat k)]) (fun k acc => acc.length ≤ k) (fun (acc : List Int) k b => .inl (if quietAt n b = true then acc ++ [(k : Int)] else acc)) (fun acc => some (.tup [.lst (acc.map pI), pB true])) _ (by omega) (fun acc k b acc' hi hx he => ?_) (fun again acc k b hi hx => ?_) (fun again acc hi => ?_) (b := []) (Nat.zero_le _)).trans ?_
  · cases he; split <;> first | (simp; omega) | omega
  · have hk := lt_of_some hx
    have hbm := List.mem_of_getElem? hx
    have hv := hp.each b hbm
    have hi' : idxV (.lst (p.states.map ePs)) (.int .i64 (k : Int)) = some (ePs b) := idx_map hx
    have hla : acc.length + [pI (k : Int)].length ≤ 4294967296 ∧ [pI (k : Int)].all (okEl 1) = true := ⟨by simp; omega, rfl⟩
    have c3 : bitsP b.values n.wires.length = true := List.all_eq_true.1 c5 b hbm
    have g4 := p_i_excitedWires n b.values hn hv (by unfold valuesP; rw [c1, c3]; rfl) hb
    simp only [eNet] at g4
    cases c4 : quietAt n b
    · unfold quietAt at c4
      simp only [lt_d hk, hi', ePs, g4, c4, List.length_map, next_w hk (show p.states.length ≤ 9223372036854775807 by omega), EVS]
    · unfold quietAt at c4
      simp only [lt_d hk, hi', ePs, g4, c4, List.length_map, if_pos hla, next_w hk (show p.states.length ≤ 9223372036854775807 by omega), List.map_append, List.map_cons, List.map_nil, EVS]
  · simp only [ge_d, EVS]
  · rw [fold_quiet2]; rfl
end Go.Proofs.YtjplbgaocmpleaaGreat
