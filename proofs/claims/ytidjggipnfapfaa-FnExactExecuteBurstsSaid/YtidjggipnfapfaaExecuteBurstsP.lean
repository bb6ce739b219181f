/-
  PLAIN LAWS of what the functions compute that FnExactExecuteBursts reaches.
-/
import Derived.Test.YtidjggipnfapfaaExecuteBurstsF

namespace Go.Proofs.Ytidjggipnfapfaa
open Go.RowKit
set_option linter.unusedVariables false
set_option linter.unusedSimpArgs false
theorem p_r_l1In (n lo hi : Int) : s_r_l1In [pI n, pI lo, pI hi] = some (pB (decide (lo ≤ n) && decide (n ≤ hi))) := by
  show (fun x0 x1 x2 => s_r_l1In [x0, x1, x2]) _ _ _ = _
  rw [sh_r_l1In]
  by_cases h : lo ≤ n <;> simp only [h, EVS]
/-- A name's byte. -/
def nameB (first : Bool) (b : UInt8) : Bool := (decide ((97 : Int) ≤ b.toNat) && decide ((b.toNat : Int) ≤ 122)) || (!first && (!decide ((b.toNat : Int) < 48) && !decide ((57 : Int) < b.toNat)))
def nameGo : Bool → List UInt8 → Bool
  | _, [] => true
  | f, b :: r => nameB f b && nameGo false r
def isNameP (s : List UInt8) : Bool := nameGo true s && (decide ((1 : Int) ≤ s.length) && decide ((s.length : Int) ≤ 6))
theorem p_r_l2Name (s : List UInt8) (hs : s.length ≤ 9223372036854775807) : s_r_l2Name [.str s] = some (pB (isNameP s)) := by
  show (fun x0 => s_r_l2Name [x0]) _ = _
  rw [sh_r_l2Name]
  refine (congrArg (scOnly true) (loopR_go (R := PV) (fun k : Nat => [pI (Int.ofNat k)]) (fun k => s.length + 1 - k) (fun k => some (pB (nameGo (k == 0) (s.drop k) && (decide ((1 : Int) ≤ s.length) && decide ((s.length : Int) ≤ 6))))) _ (fun again k ih => ?_) _ 0 (by omega))).trans ?_
  · by_cases hk : k < s.length
    · obtain ⟨b, hb⟩ : ∃ b, s[k]? = some b := ⟨s[k], List.getElem?_eq_getElem hk⟩
      have hd : s.drop k = b :: s.drop (k + 1) := by
        obtain ⟨h1, rfl⟩ := List.getElem?_eq_some_iff.1 hb
        exact List.drop_eq_getElem_cons h1
      have hlt : decide ((k : Int) < s.length) = true := by simpa using hk
      have hw : IntKind.i64.wrap ((k : Int) + 1) = ((k + 1 : Nat) : Int) := by rw [wrap_of (by omega) (by omega)]; omega
      have hnext := ih (k + 1) (by omega)
      simp only [Int.ofNat_eq_natCast] at hnext
      have hk0 : decide ((k : Int) = 0) = (k == 0) := by rw [Bool.eq_iff_iff]; simp
      rw [hd]
      have hk1 : (k + 1 == 0) = false := rfl
      rw [hk1] at hnext
      have ev1 := hlt
      have ev2 := byteV_at (k := .i64) hb
      simp only [nameGo, nameB, hlt, byteV_at hb, hk0, hw, hnext, EVS]
      by_cases c1 : (97 : Int) ≤ b.toNat
      all_goals simp only [c1, byteV_at hb, EVS]
      by_cases c2 : (b.toNat : Int) ≤ 122
      all_goals try simp only [c2, byteV_at hb, EVS]
      all_goals try simp only [hk0]
      all_goals try (cases c5 : (k == 0))
      all_goals try simp only [c5, byteV_at hb, EVS]
      all_goals try (by_cases c3 : (b.toNat : Int) < 48)
      all_goals try simp only [c3, byteV_at hb, EVS]
      all_goals try (by_cases c4 : (57 : Int) < b.toNat)
      all_goals try simp only [c4, byteV_at hb, EVS]
    · have hd : s.drop k = [] := List.drop_eq_nil_of_le (by omega)
      have hlt : decide ((k : Int) < s.length) = false := by simpa using hk
      rw [hd]
      simp only [nameGo, hlt, p_r_l1In, EVS]
  · simp only [isNameP, List.drop_zero, beq_self_eq_true, EVS]
end Go.Proofs.Ytidjggipnfapfaa

namespace Go.Proofs.Ytidjggipnfapfaa
open Go.RowKit
set_option linter.unusedVariables false
set_option linter.unusedSimpArgs false
def cubeB (b : UInt8) : Bool := decide ((b.toNat : Int) = 48) || decide ((b.toNat : Int) = 49) || decide ((b.toNat : Int) = 45)
def cubeP (s : List UInt8) : Bool := allK (fun _ b => cubeB b) 0 s && (decide ((1 : Int) ≤ s.length) && decide ((s.length : Int) ≤ 8))
theorem lt_of_some {α : Type} {l : List α} {k : Nat} {x : α} (h : l[k]? = some x) : k < l.length := (List.getElem?_eq_some_iff.1 h).1
theorem next_w {k n : Nat} (h : k < n) (hn : n ≤ 9223372036854775807) : IntKind.i64.wrap ((k : Int) + 1) = ((k + 1 : Nat) : Int) := by rw [wrap_of (by omega) (by omega)]; omega
theorem lt_d {k n : Nat} (h : k < n) : decide ((k : Int) < (n : Int)) = true := by simpa using h
theorem ge_d {n : Nat} : decide ((n : Int) < (n : Int)) = false := by simp
theorem p_r_l13Cube (s : List UInt8) (hs : s.length ≤ 9223372036854775807) : s_r_l13Cube [.str s] = some (pB (cubeP s)) := by
  show (fun x0 => s_r_l13Cube [x0]) _ = _
  rw [sh_r_l13Cube]
  refine (congrArg (scOnly true) (rangeAll (R := PV) s (fun _ b => cubeB b) (some (pB false)) (some (pB (decide ((1 : Int) ≤ s.length) && decide ((s.length : Int) ≤ 8)))) _ hs (fun again k b hb => ?_) (fun again => ?_))).trans ?_
  · have hk := lt_of_some hb
    cases c1 : decide ((b.toNat : Int) = 48) <;> cases c2 : decide ((b.toNat : Int) = 49) <;> cases c3 : decide ((b.toNat : Int) = 45) <;>
      simp only [cubeB, lt_d hk, next_w hk hs, byteV_at hb, c1, c2, c3, EVS]
  · simp only [ge_d, p_r_l1In, EVS]
  · unfold cubeP
    cases allK (fun _ b => cubeB b) 0 s <;> simp only [EVS]
end Go.Proofs.Ytidjggipnfapfaa

namespace Go.Proofs.Ytidjggipnfapfaa
open Go.RowKit
set_option linter.unusedVariables false
set_option linter.unusedSimpArgs false
abbrev eSig (s : List UInt8 × Int) : PV := .agg [.str s.1, pI s.2]
def inR (n lo hi : Int) : Bool := decide (lo ≤ n) && decide (n ≤ hi)
def sigOk (l : List (List UInt8 × Int)) (k : Nat) (s : List UInt8 × Int) : Bool := (isNameP s.1 && inR s.2 1 3) && allK (fun _ y => !decide (s.1 = y.1)) 0 (l.take k)
def sigsP (l : List (List UInt8 × Int)) : Bool := allK (sigOk l) 0 l && inR l.length 1 8
theorem okEl_eSig (x : List UInt8 × Int) : okEl 2 (eSig x) = true := rfl
theorem p_r_l2Signals (l : List (List UInt8 × Int)) (hl : l.length ≤ 9223372036854775807) (hs : ∀ s ∈ l, s.1.length ≤ 9223372036854775807) : s_r_l2Signals [.lst (l.map eSig)] = some (pB (sigsP l)) := by
  show (fun x0 => s_r_l2Signals [x0]) _ = _
  rw [sh_r_l2Signals]
  simp only [EVS]
  refine (congrArg (scOnly true) (rangeAll (R := PV) l (sigOk l) (some (pB false)) (some (pB (inR l.length 1 8))) _ hl (fun again k s hb => ?_) (fun again => ?_))).trans ?_
  · have hk := lt_of_some hb
    have hi : idxV (.lst (l.map eSig)) (.int .i64 (k : Int)) = some (eSig s) := idx_map hb
    have hc : cutL 2 (.lst (l.map eSig)) none (some (.int .i64 (k : Int))) = some (.lst ((l.take k).map eSig)) := cut_map okEl_eSig (by omega)
    have hn := p_r_l2Name s.1 (hs s (List.mem_of_getElem? hb))
    simp only [lt_d hk, next_w hk hl, hi, eSig, hn, p_r_l1In, sigOk, inR, EVS]
    obtain c1 | c1 := (Bool.eq_false_or_eq_true (isNameP s.1)).symm <;> simp only [c1, p_r_l1In, EVS]
    obtain c2 | c2 := (Bool.eq_false_or_eq_true (decide (1 ≤ s.2) && decide (s.2 ≤ 3))).symm <;> simp only [c2, EVS]
    simp only [hc, EVS]
    refine (rangeAll (R := PV) (l.take k) (fun _ y => !decide (s.1 = y.1)) (some (pB false)) (again [pI ((k + 1 : Nat) : Int)]) _ (by simp; omega) (fun again' j y hy => ?_) (fun again' => ?_)).trans ?_
    · have hj := lt_of_some hy
      have hi' : idxV (.lst ((l.take k).map eSig)) (.int .i64 (j : Int)) = some (eSig y) := idx_map hy
      simp only [lt_d hj, next_w hj (by simp; omega), hi', eSig, EVS]
      cases c3 : decide (s.1 = y.1) <;> simp only [c3, EVS]
    · simp only [ge_d, next_w hk hl, EVS]
    · rfl
  · simp only [ge_d, p_r_l1In, inR, EVS]
  · unfold sigsP
    cases allK (sigOk l) 0 l <;> simp only [EVS]
end Go.Proofs.Ytidjggipnfapfaa

namespace Go.Proofs.Ytidjggipnfapfaa
open Go.RowKit
set_option linter.unusedVariables false
set_option linter.unusedSimpArgs false
def coverGo (n : Int) (l : List (List UInt8)) : Bool := allK (fun _ c => cubeP c && decide ((c.length : Int) = n)) 0 l
def goodP (n : Int) (l : List (List UInt8)) : Bool := coverGo n l && (inR n 1 8 && decide ((l.length : Int) ≤ 60))
theorem p_r_l13Good (n : Int) (l : List (List UInt8)) (hl : l.length ≤ 9223372036854775807) (hs : ∀ s ∈ l, s.length ≤ 9223372036854775807) : s_r_l13Good [pI n, .lst (l.map PV.str)] = some (pB (goodP n l)) := by
  show (fun x0 x1 => s_r_l13Good [x0, x1]) _ _ = _
  rw [sh_r_l13Good]
  simp only [EVS]
  refine (congrArg (scOnly true) (rangeAll (R := PV) l (fun _ c => cubeP c && decide ((c.length : Int) = n)) (some (pB false)) (some (pB (inR n 1 8 && decide ((l.length : Int) ≤ 60)))) _ hl (fun again k s hb => ?_) (fun again => ?_))).trans ?_
  · have hk := lt_of_some hb
    have hi : idxV (.lst (l.map PV.str)) (.int .i64 (k : Int)) = some (.str s) := idx_map hb
    have hn := p_r_l13Cube s (hs s (List.mem_of_getElem? hb))
    simp only [lt_d hk, next_w hk hl, hi, hn, EVS]
    obtain c1 | c1 := (Bool.eq_false_or_eq_true (cubeP s)).symm <;> simp only [c1, EVS]
    obtain c2 | c2 := (Bool.eq_false_or_eq_true (decide ((s.length : Int) = n))).symm <;> simp only [c2, EVS]
  · simp only [ge_d, p_r_l1In, inR, EVS]
    obtain c1 | c1 := (Bool.eq_false_or_eq_true (decide (1 ≤ n) && decide (n ≤ 8))).symm <;> simp only [c1, EVS]
  · unfold goodP coverGo
    cases allK (fun _ c => cubeP c && decide ((c.length : Int) = n)) 0 l <;> simp only [EVS]
structure PWire where
  name : List UInt8
  kind : Int
  ins : List (Int × Bool)
  cover : List (List UInt8)
structure PNet where
  signals : List (List UInt8 × Int)
  wires : List PWire
abbrev ePin (p : Int × Bool) : PV := .agg [pI p.1, pB p.2]
abbrev eWire (w : PWire) : PV := .agg [.str w.name, pI w.kind, .lst (w.ins.map ePin), .lst (w.cover.map PV.str)]
abbrev eNet (n : PNet) : PV := .agg [.lst (n.signals.map eSig), .lst (n.wires.map eWire)]
abbrev Fits {α : Type} (l : List α) : Prop := l.length ≤ 9223372036854775807
structure PWire.Fit (w : PWire) : Prop where
  name : Fits w.name
  ins : Fits w.ins
  cover : Fits w.cover
  cubes : ∀ c ∈ w.cover, Fits c
structure PNet.Fit (n : PNet) : Prop where
  signals : Fits n.signals
  names : ∀ s ∈ n.signals, Fits s.1
  wires : Fits n.wires
  wire : ∀ w ∈ n.wires, w.Fit
def pinOk (n : PNet) (k : Nat) (p : Int × Bool) : Bool := inR p.1 0 ((n.wires.length : Int) - 1) && !(decide ((n.signals.length : Int) ≤ k) && decide ((k : Int) ≤ p.1))
def pinForm (k : Nat) (kind : Int) (ins : List (Int × Bool)) : Bool :=
  if decide (kind = 1) = true then decide ((ins.length : Int) = 0)
  else if decide (kind = 4) = true then decide ((ins.length : Int) = 2)
  else if decide (kind = 5) = true then decide ((ins.length : Int) = 0) || (match ins with | [p] => decide (p.1 = k) && !p.2 | _ => false)
  else inR ins.length 1 8
def pinsP (n : PNet) (k : Nat) (w : PWire) : Bool := allK (fun _ p => pinOk n k p) 0 w.ins && pinForm k w.kind w.ins
theorem p_r_l19Pins (n : PNet) (k : Nat) (w : PWire) (hn : n.Fit) (hw : w.Fit) : s_r_l19Pins [eNet n, pI k, eWire w] = some (pB (pinsP n k w)) := by
  show (fun x0 x1 x2 => s_r_l19Pins [x0, x1, x2]) _ _ _ = _
  rw [sh_r_l19Pins]
  simp only [eNet, eWire, EVS]
  have hwl : IntKind.i64.wrap ((n.wires.length : Int) - 1) = (n.wires.length : Int) - 1 := wrap_of (by omega) (by have := hn.wires; unfold Fits at this; omega)
  have hi0 := hw.ins
  unfold Fits at hi0
  refine (congrArg (scOnly true) (rangeAll (R := PV) w.ins (fun _ p => pinOk n k p) (some (pB false)) (some (pB (pinForm k w.kind w.ins))) _ hi0 (fun again j p hb => ?_) (fun again => ?_))).trans ?_
  · have hk := lt_of_some hb
    have hi : idxV (.lst (w.ins.map ePin)) (.int .i64 (j : Int)) = some (ePin p) := idx_map hb
    simp only [lt_d hk, next_w hk hi0, hi, ePin, hwl, p_r_l1In, pinOk, inR, EVS]
    obtain c1 | c1 := (Bool.eq_false_or_eq_true (decide (0 ≤ p.1) && decide (p.1 ≤ (n.wires.length : Int) - 1))).symm <;> simp only [c1, EVS]
    obtain c2 | c2 := (Bool.eq_false_or_eq_true (decide ((n.signals.length : Int) ≤ (k : Int)))).symm <;> simp only [c2, EVS]
    obtain c3 | c3 := (Bool.eq_false_or_eq_true (decide ((k : Int) ≤ p.1))).symm <;> simp only [c3, EVS]
  · simp only [ge_d, pinForm, EVS]
    obtain c1 | c1 := (Bool.eq_false_or_eq_true (decide (w.kind = 1))).symm <;> simp only [c1, EVS]
    obtain c2 | c2 := (Bool.eq_false_or_eq_true (decide (w.kind = 4))).symm <;> simp only [c2, EVS]
    obtain c3 | c3 := (Bool.eq_false_or_eq_true (decide (w.kind = 5))).symm <;> simp only [c3, p_r_l1In, inR, EVS]
    have h01 : decide ((0 : Int) = 1) = false := rfl
    have h00 : decide ((0 : Int) = 0) = true := rfl
    have h11 : decide ((1 : Int) = 1) = true := rfl
    have h10 : decide ((1 : Int) = 0) = false := rfl
    rcases hq : w.ins with _ | ⟨p, _ | ⟨q, r⟩⟩
    · simp only [List.length_nil, h00, EVS]
    · have hi : idxV (.lst ([p].map ePin)) (.int .i64 0) = some (ePin p) := rfl
      simp only [List.length_cons, List.length_nil, Nat.zero_add, h11, h10, hi, ePin, List.drop_zero, List.drop_succ_cons, EVS]
      obtain c4 | c4 := (Bool.eq_false_or_eq_true (decide (p.1 = (k : Int)))).symm <;> simp only [c4, h11, h10, hi, ePin, List.drop_zero, List.drop_succ_cons, EVS]
    · have h2 : decide (((r.length + 1 + 1 : Nat) : Int) = 0) = false := by simp; omega
      have h3 : decide (((r.length + 1 + 1 : Nat) : Int) = 1) = false := by simp; omega
      simp only [List.length_cons, h2, h3, EVS]
  · unfold pinsP
    cases allK (fun _ p => pinOk n k p) 0 w.ins <;> simp only [EVS]
end Go.Proofs.Ytidjggipnfapfaa

namespace Go.Proofs.Ytidjggipnfapfaa
open Go.RowKit
set_option linter.unusedVariables false
set_option linter.unusedSimpArgs false
def wireSeen (n : PNet) (k : Nat) (w : PWire) : Bool := match n.signals[k]? with | some s => decide (w.name = s.1) && (decide (w.kind = 1) == decide (s.2 = 1)) | none => false
def wireP (n : PNet) (k : Nat) (w : PWire) : Bool :=
  let seen := decide ((k : Int) < (n.signals.length : Int))
  (inR w.kind 1 5 && (seen || decide (w.kind = 2) || decide (w.kind = 3))) && (!seen || wireSeen n k w) && (if decide (w.kind = 5) = true then goodP n.signals.length w.cover else !decide ((0 : Int) < w.cover.length)) && (isNameP w.name && pinsP n k w)
theorem p_r_l19Wire (n : PNet) (k : Nat) (w : PWire) (hn : n.Fit) (hw : w.Fit) : s_r_l19Wire [eNet n, pI k, eWire w] = some (pB (wireP n k w)) := by
  have g1 := p_r_l13Good n.signals.length w.cover hw.cover hw.cubes
  have g2 := p_r_l2Name w.name hw.name
  have g3 := p_r_l19Pins n k w hn hw
  have g4 := p_r_l1In w.kind 1 5
  simp only [eNet, eWire] at g3
  show (fun x0 x1 x2 => s_r_l19Wire [x0, x1, x2]) _ _ _ = _
  rw [sh_r_l19Wire]
  simp only [eNet, eWire, g4, EVS]
  have fin : ∀ b : Bool, ((some (pB (isNameP w.name && b)))) = (some (pB (isNameP w.name && b))) := fun _ => rfl
  simp only [wireP, inR]
  obtain c1 | c1 := (Bool.eq_false_or_eq_true (decide (1 ≤ w.kind) && decide (w.kind ≤ 5))).symm <;> simp only [c1, EVS]
  obtain c2 | c2 := (Bool.eq_false_or_eq_true (decide ((k : Int) < (n.signals.length : Int)))).symm <;> simp only [c2, EVS]
  · obtain c3 | c3 := (Bool.eq_false_or_eq_true (decide (w.kind = 2))).symm <;> simp only [c3, EVS]
    · obtain c4 | c4 := (Bool.eq_false_or_eq_true (decide (w.kind = 3))).symm <;> simp only [c4, EVS]
      have c5 : decide (w.kind = 5) = false := by have := of_decide_eq_true c4; simp; omega
      simp only [c5, EVS]
      obtain c6 | c6 := (Bool.eq_false_or_eq_true (decide ((0 : Int) < w.cover.length))).symm <;> simp only [c6, g2, EVS]
      obtain c7 | c7 := (Bool.eq_false_or_eq_true (isNameP w.name)).symm <;> simp only [c7, g3, EVS]
    · have c4 : decide (w.kind = 3) = false := by have := of_decide_eq_true c3; simp; omega
      have c5 : decide (w.kind = 5) = false := by have := of_decide_eq_true c3; simp; omega
      simp only [c4, c5, EVS]
      obtain c6 | c6 := (Bool.eq_false_or_eq_true (decide ((0 : Int) < w.cover.length))).symm <;> simp only [c6, g2, EVS]
      obtain c7 | c7 := (Bool.eq_false_or_eq_true (isNameP w.name)).symm <;> simp only [c7, g3, EVS]
  · have hk : k < n.signals.length := by have := of_decide_eq_true c2; omega
    have hs : n.signals[k]? = some n.signals[k] := List.getElem?_eq_getElem hk
    have hi : idxV (.lst (n.signals.map eSig)) (.int .i64 (k : Int)) = some (eSig n.signals[k]) := idx_map hs
    simp only [wireSeen, hs, hi, eSig, List.drop_zero, List.drop_succ_cons, EVS]
    obtain c3 | c3 := (Bool.eq_false_or_eq_true (decide (w.name = n.signals[k].1))).symm <;> simp only [c3, hi, eSig, List.drop_zero, List.drop_succ_cons, EVS]
    obtain c4 | c4 := (Bool.eq_false_or_eq_true (decide (w.kind = 1) == decide (n.signals[k].2 = 1))).symm <;> simp only [bne, c4, hi, eSig, List.drop_zero, List.drop_succ_cons, EVS]
    obtain c5 | c5 := (Bool.eq_false_or_eq_true (decide (w.kind = 5))).symm <;> simp only [c5, g1, g2, EVS]
    · obtain c6 | c6 := (Bool.eq_false_or_eq_true (decide ((0 : Int) < w.cover.length))).symm <;> simp only [c6, g2, EVS]
      obtain c7 | c7 := (Bool.eq_false_or_eq_true (isNameP w.name)).symm <;> simp only [c7, g3, EVS]
    · obtain c6 | c6 := (Bool.eq_false_or_eq_true (goodP n.signals.length w.cover)).symm <;> simp only [c5, c6, g2, EVS]
      obtain c7 | c7 := (Bool.eq_false_or_eq_true (isNameP w.name)).symm <;> simp only [c5, c7, g3, EVS]
/-- Each wire is right, and no wire ahead has its name. -/
def netWireOk (n : PNet) (k : Nat) (w : PWire) : Bool := wireP n k w && allK (fun _ v => !decide (v.name = w.name)) 0 (n.wires.take k)
def netP (n : PNet) : Bool := sigsP n.signals && (!decide ((n.wires.length : Int) < n.signals.length) && !decide ((24 : Int) < n.wires.length)) && allK (netWireOk n) 0 n.wires
theorem okEl_eWire (x : PWire) : okEl 4 (eWire x) = true := rfl
theorem cells4 (a b c d : PV) : cellsW 4 (.agg [a, b, c, d]) = some [a, b, c, d] := (Eq.refl _).trans (Eq.refl _)
theorem p_r_l19Good (n : PNet) (hn : n.Fit) : s_r_l19Good [eNet n] = some (pB (netP n)) := by
  have g1 := p_r_l2Signals n.signals hn.signals hn.names
  have hwl := hn.wires
  unfold Fits at hwl
  show (fun x0 => s_r_l19Good [x0]) _ = _
  rw [sh_r_l19Good]
  simp only [eNet, g1, EVS]
  unfold netP
  obtain c1 | c1 := (Bool.eq_false_or_eq_true (sigsP n.signals)).symm <;> simp only [c1, EVS]
  obtain c2 | c2 := (Bool.eq_false_or_eq_true (decide ((n.wires.length : Int) < n.signals.length))).symm <;> simp only [c2, EVS]
  obtain c3 | c3 := (Bool.eq_false_or_eq_true (decide ((24 : Int) < n.wires.length))).symm <;> simp only [c3, EVS]
  refine (congrArg (scOnly true) (rangeAll (R := PV) n.wires (netWireOk n) (some (pB false)) (some (pB true)) _ hwl (fun again k w hb => ?_) (fun again => ?_))).trans ?_
  · have hk := lt_of_some hb
    have hi : idxV (.lst (n.wires.map eWire)) (.int .i64 (k : Int)) = some (eWire w) := idx_map hb
    have hc : cutL 4 (.lst (n.wires.map eWire)) none (some (.int .i64 (k : Int))) = some (.lst ((n.wires.take k).map eWire)) := cut_map okEl_eWire (by omega)
    have g3 := p_r_l19Wire n k w hn (hn.wire w (List.mem_of_getElem? hb))
    simp only [eNet, eWire] at g3
    simp only [lt_d hk, next_w hk hwl, hi, eWire, netWireOk, g3, EVS]
    obtain c4 | c4 := (Bool.eq_false_or_eq_true (wireP n k w)).symm <;> simp only [c4, hc, EVS]
    refine (rangeAll (R := PV) (n.wires.take k) (fun _ v => !decide (v.name = w.name)) (some (pB false)) (again [pI ((k + 1 : Nat) : Int)]) _ (by simp; omega) (fun again' j y hy => ?_) (fun again' => ?_)).trans ?_
    · have hj := lt_of_some hy
      have hi' : idxV (.lst ((n.wires.take k).map eWire)) (.int .i64 (j : Int)) = some (eWire y) := idx_map hy
      simp only [lt_d hj, next_w hj (by simp; omega), hi', eWire, EVS]
      obtain c5 | c5 := (Bool.eq_false_or_eq_true (decide (y.name = w.name))).symm <;> simp only [c5, EVS]
    · simp only [ge_d, next_w hk hwl, EVS]
    · rfl
  · simp only [ge_d, EVS]
  · cases allK (netWireOk n) 0 n.wires <;> simp only [EVS]
end Go.Proofs.Ytidjggipnfapfaa

namespace Go.Proofs.Ytidjggipnfapfaa
open Go.RowKit
set_option linter.unusedVariables false
set_option linter.unusedSimpArgs false
theorem p_i_within (n lo hi : Int) : s_i_within [pI n, pI lo, pI hi] = some (pB (inR n lo hi)) := by
  show (fun x0 x1 x2 => s_i_within [x0, x1, x2]) _ _ _ = _
  rw [sh_i_within]
  unfold inR
  by_cases h : lo ≤ n <;> simp only [h, EVS]
def nameB' (k : Nat) (b : UInt8) : Bool := (decide ((97 : Int) ≤ b.toNat) && decide ((b.toNat : Int) ≤ 122)) || (!decide ((k : Int) = 0) && (decide ((48 : Int) ≤ b.toNat) && decide ((b.toNat : Int) ≤ 57)))
def nameP' (s : List UInt8) : Bool := allK nameB' 0 s && inR s.length 1 6
theorem p_i_isName (s : List UInt8) (hs : s.length ≤ 9223372036854775807) : s_i_isName [.str s] = some (pB (nameP' s)) := by
  show (fun x0 => s_i_isName [x0]) _ = _
  rw [sh_i_isName]
  refine (congrArg (scOnly true) (rangeAll (R := PV) s nameB' (some (pB false)) (some (pB (inR s.length 1 6))) _ hs (fun again k b hb => ?_) (fun again => ?_))).trans ?_
  · have hk := lt_of_some hb
    simp only [nameB', lt_d hk, next_w hk hs, byteV_at hb, EVS]
    obtain c1 | c1 := (Bool.eq_false_or_eq_true (decide ((97 : Int) ≤ b.toNat))).symm <;> simp only [c1, byteV_at hb, EVS]
    all_goals (obtain c2 | c2 := (Bool.eq_false_or_eq_true (decide ((b.toNat : Int) ≤ 122))).symm <;> try simp only [c2, byteV_at hb, EVS])
    all_goals (obtain c3 | c3 := (Bool.eq_false_or_eq_true (decide ((48 : Int) ≤ b.toNat))).symm <;> try simp only [c3, byteV_at hb, EVS])
    all_goals (obtain c4 | c4 := (Bool.eq_false_or_eq_true (decide ((b.toNat : Int) ≤ 57))).symm <;> try simp only [c4, byteV_at hb, EVS])
    all_goals (obtain c5 | c5 := (Bool.eq_false_or_eq_true (decide ((k : Int) = 0))).symm <;> try simp only [c5, EVS])
  · simp only [ge_d, p_i_within, EVS]
  · unfold nameP'
    cases allK nameB' 0 s <;> simp only [EVS]
theorem nameGo_all : ∀ (l : List UInt8) (k : Nat), nameGo (k == 0) l = allK nameB' k l
  | [], _ => rfl
  | b :: r, k => by
    have h := nameGo_all r (k + 1)
    have h1 : (k + 1 == 0) = false := rfl
    rw [h1] at h
    unfold nameGo allK
    rw [h]
    congr 1
    unfold nameB nameB'
    have e1 : decide ((48 : Int) ≤ b.toNat) = !decide ((b.toNat : Int) < 48) := by rw [Bool.eq_iff_iff]; simp
    have e2 : decide ((b.toNat : Int) ≤ 57) = !decide ((57 : Int) < b.toNat) := by rw [Bool.eq_iff_iff]; simp
    have e3 : decide ((k : Int) = 0) = (k == 0) := by rw [Bool.eq_iff_iff]; simp
    rw [e1, e2, e3]
theorem name_eq (s : List UInt8) : isNameP s = nameP' s := by
  unfold isNameP nameP' inR
  rw [← nameGo_all s 0]
  rfl
theorem p_i_isName' (s : List UInt8) (hs : s.length ≤ 9223372036854775807) : s_i_isName [.str s] = some (pB (isNameP s)) := (p_i_isName s hs).trans (by rw [name_eq])
def cubeP' (s : List UInt8) (n : Int) : Bool := allK (fun _ b => cubeB b) 0 s && (decide ((s.length : Int) = n) && inR n 1 8)
theorem p_i_isCube (s : List UInt8) (n : Int) (hs : s.length ≤ 9223372036854775807) : s_i_isCube [.str s, pI n] = some (pB (cubeP' s n)) := by
  show (fun x0 x1 => s_i_isCube [x0, x1]) _ _ = _
  rw [sh_i_isCube]
  refine (congrArg (scOnly true) (rangeAll (R := PV) s (fun _ b => cubeB b) (some (pB false)) (some (pB (decide ((s.length : Int) = n) && inR n 1 8))) _ hs (fun again k b hb => ?_) (fun again => ?_))).trans ?_
  · have hk := lt_of_some hb
    simp only [cubeB, lt_d hk, next_w hk hs, byteV_at hb, EVS]
    obtain c1 | c1 := (Bool.eq_false_or_eq_true (decide ((b.toNat : Int) = 48))).symm <;> simp only [c1, byteV_at hb, EVS]
    obtain c2 | c2 := (Bool.eq_false_or_eq_true (decide ((b.toNat : Int) = 49))).symm <;> simp only [c2, byteV_at hb, EVS]
    obtain c3 | c3 := (Bool.eq_false_or_eq_true (decide ((b.toNat : Int) = 45))).symm <;> simp only [c3, byteV_at hb, EVS]
  · simp only [ge_d, EVS]
    obtain c1 | c1 := (Bool.eq_false_or_eq_true (decide ((s.length : Int) = n))).symm <;> simp only [c1, p_i_within, EVS]
  · unfold cubeP'
    cases allK (fun _ b => cubeB b) 0 s <;> simp only [EVS]
end Go.Proofs.Ytidjggipnfapfaa

namespace Go.Proofs.Ytidjggipnfapfaa
open Go.RowKit
set_option linter.unusedVariables false
set_option linter.unusedSimpArgs false
/-- The first index of an element that answers. -/
def ixf {α : Type} (q : α → Bool) : Nat → List α → Int
  | _, [] => -1
  | k, x :: r => if q x = true then (k : Int) else ixf q (k + 1) r
theorem rgo_ixf {α : Type} (q : α → Bool) : ∀ (l : List α) (k : Nat), rgo (fun k x => if q x = true then some (some (pI (k : Int))) else none) (some (pI (-1))) k l = some (pI (ixf q k l))
  | [], k => rfl
  | x :: r, k => by
    unfold rgo ixf
    cases q x
    · simp [rgo_ixf q r (k + 1)]
    · simp
theorem ixf_ge {α : Type} (q : α → Bool) : ∀ (l : List α) (k : Nat), decide ((0 : Int) ≤ ixf q k l) = !allK (fun _ x => !q x) k l
  | [], k => rfl
  | x :: r, k => by
    unfold ixf allK
    cases q x
    · simp [ixf_ge q r (k + 1)]
    · simp
theorem rangeIx {α : Type} (l : List α) (q : α → Bool) (f : (List PV → Option PV) → List PV → Option PV) (hl : l.length ≤ 9223372036854775807)
    (h1 : ∀ again k x, l[k]? = some x → f again [pI (Int.ofNat k)] = if q x = true then some (pI (k : Int)) else again [pI (Int.ofNat (k + 1))])
    (h2 : ∀ again, f again [pI (Int.ofNat l.length)] = some (pI (-1))) : loopR f 18446744073709551616 [pI (Int.ofNat 0)] = some (pI (ixf q 0 l)) := by
  rw [range1 l (fun k x => if q x = true then some (some (pI (k : Int))) else none) (some (pI (-1))) f hl (fun again k x hx => ?_) h2, rgo_ixf]
  rw [h1 again k x hx]
  cases q x <;> simp
theorem caps1 (l : List PV) : capsOf 1 (.tup [.agg l]) = some [.agg l] := by simp [capsOf, PV.parts, PV.isU]
theorem p_i_areSignals_1 (a x : List UInt8 × Int) : s_i_areSignals_1 [eSig a, eSig x] = some (pB (decide (a.1 = x.1))) := by
  show (fun x0 x1 => s_i_areSignals_1 [x0, x1]) _ _ = _
  rw [sh_i_areSignals_1]
  simp only [eSig, List.drop_zero, EVS]
theorem p_g_slices_IndexFunc_Signal__i_areSignals_1 (l : List (List UInt8 × Int)) (x : List UInt8 × Int) (hl : Fits l) : s_g_slices_IndexFunc_Signal__i_areSignals_1 [.lst (l.map eSig), .tup [eSig x]] = some (pI (ixf (fun a => decide (a.1 = x.1)) 0 l)) := by
  show (fun x0 x1 => s_g_slices_IndexFunc_Signal__i_areSignals_1 [x0, x1]) _ _ = _
  rw [sh_g_slices_IndexFunc_Signal__i_areSignals_1]
  unfold Fits at hl
  simp only [EVS]
  refine (congrArg (scOnly true) (rangeIx l (fun a => decide (a.1 = x.1)) _ hl (fun again k a hb => ?_) (fun again => ?_))).trans ?_
  · have hk := lt_of_some hb
    have hi : idxV (.lst (l.map eSig)) (.int .i64 (k : Int)) = some (eSig a) := idx_map hb
    have g := p_i_areSignals_1 a x
    simp only [eSig] at g
    simp only [lt_d hk, next_w hk hl, hi, eSig, caps1, List.cons_append, List.nil_append, g, EVS]
  · simp only [ge_d, EVS]
    rfl
  · simp only [EVS]
theorem p_g_slices_ContainsFunc_Signal__i_areSignals_1 (l : List (List UInt8 × Int)) (x : List UInt8 × Int) (hl : Fits l) : s_g_slices_ContainsFunc_Signal__i_areSignals_1 [.lst (l.map eSig), .tup [eSig x]] = some (pB (!allK (fun _ a => !decide (a.1 = x.1)) 0 l)) := by
  show (fun x0 x1 => s_g_slices_ContainsFunc_Signal__i_areSignals_1 [x0, x1]) _ _ = _
  rw [sh_g_slices_ContainsFunc_Signal__i_areSignals_1]
  simp only [p_g_slices_IndexFunc_Signal__i_areSignals_1 l x hl, ixf_ge (fun a : List UInt8 × Int => decide (a.1 = x.1)) l 0, EVS]
end Go.Proofs.Ytidjggipnfapfaa

namespace Go.Proofs.Ytidjggipnfapfaa
open Go.RowKit
set_option linter.unusedVariables false
set_option linter.unusedSimpArgs false
theorem cut_n (n : Nat) : True := trivial
theorem p_i_arePins_1 (p : Int × Bool) (n : Nat) (hn : n ≤ 9223372036854775807) : s_i_arePins_1 [ePin p, .agg [pI n]] = some (pB (!inR p.1 0 ((n : Int) - 1))) := by
  have hwl : IntKind.i64.wrap ((n : Int) - 1) = (n : Int) - 1 := wrap_of (by omega) (by omega)
  show (fun x0 x1 => s_i_arePins_1 [x0, x1]) _ _ = _
  rw [sh_i_arePins_1]
  simp only [ePin, hwl, p_i_within, EVS]
theorem p_g_slices_IndexFunc_Pin__i_arePins_1 (l : List (Int × Bool)) (n : Nat) (hn : n ≤ 9223372036854775807) (hl : Fits l) : s_g_slices_IndexFunc_Pin__i_arePins_1 [.lst (l.map ePin), .tup [.agg [pI n]]] = some (pI (ixf (fun p => !inR p.1 0 ((n : Int) - 1)) 0 l)) := by
  show (fun x0 x1 => s_g_slices_IndexFunc_Pin__i_arePins_1 [x0, x1]) _ _ = _
  rw [sh_g_slices_IndexFunc_Pin__i_arePins_1]
  unfold Fits at hl
  simp only [EVS]
  refine (congrArg (scOnly true) (rangeIx l (fun p => !inR p.1 0 ((n : Int) - 1)) _ hl (fun again k a hb => ?_) (fun again => ?_))).trans ?_
  · have hk := lt_of_some hb
    have hi : idxV (.lst (l.map ePin)) (.int .i64 (k : Int)) = some (ePin a) := idx_map hb
    have g := p_i_arePins_1 a n hn
    simp only [ePin] at g
    simp only [lt_d hk, next_w hk hl, hi, ePin, caps1, List.cons_append, List.nil_append, g, EVS]
  · simp only [ge_d, EVS]
    rfl
  · simp only [EVS]
def pinsIn (l : List (Int × Bool)) (n : Nat) : Bool := allK (fun _ p => inR p.1 0 ((n : Int) - 1)) 0 l
theorem p_i_arePins (l : List (Int × Bool)) (n : Nat) (hn : n ≤ 9223372036854775807) (hl : Fits l) : s_i_arePins [.lst (l.map ePin), pI n] = some (pB (pinsIn l n)) := by
  have g : s_g_slices_ContainsFunc_Pin__i_arePins_1 [.lst (l.map ePin), .tup [.agg [pI n]]] = some (pB (!allK (fun _ p => inR p.1 0 ((n : Int) - 1)) 0 l)) := by
    show (fun x0 x1 => s_g_slices_ContainsFunc_Pin__i_arePins_1 [x0, x1]) _ _ = _
    rw [sh_g_slices_ContainsFunc_Pin__i_arePins_1]
    simp only [p_g_slices_IndexFunc_Pin__i_arePins_1 l n hn hl, ixf_ge (fun p : Int × Bool => !inR p.1 0 ((n : Int) - 1)) l 0, Bool.not_not, EVS]
  show (fun x0 x1 => s_i_arePins [x0, x1]) _ _ = _
  rw [sh_i_arePins]
  have lt : ∀ {R : Type} (l : List PV) (x : Option R), liveThen [.tup l] x = x := fun l x => (Eq.refl _).trans (Eq.refl _)
  simp only [lt, g, List.drop_zero, Bool.not_not, pinsIn, EVS]
theorem p_i_wireOf_1 (w : PWire) (x : List UInt8) : s_i_wireOf_1 [eWire w, .agg [.str x]] = some (pB (decide (w.name = x))) := by
  show (fun x0 x1 => s_i_wireOf_1 [x0, x1]) _ _ = _
  rw [sh_i_wireOf_1]
  simp only [eWire, List.drop_zero, EVS]
theorem p_i_wireOf (l : List PWire) (x : List UInt8) (hl : Fits l) : s_i_wireOf [.lst (l.map eWire), .str x] = some (pI (ixf (fun w : PWire => decide (w.name = x)) 0 l)) := by
  unfold Fits at hl
  have g : s_g_slices_IndexFunc_Wire__i_wireOf_1 [.lst (l.map eWire), .tup [.agg [.str x]]] = some (pI (ixf (fun w : PWire => decide (w.name = x)) 0 l)) := by
    show (fun x0 x1 => s_g_slices_IndexFunc_Wire__i_wireOf_1 [x0, x1]) _ _ = _
    rw [sh_g_slices_IndexFunc_Wire__i_wireOf_1]
    simp only [EVS]
    refine (congrArg (scOnly true) (rangeIx l (fun w : PWire => decide (w.name = x)) _ hl (fun again k a hb => ?_) (fun again => ?_))).trans ?_
    · have hk := lt_of_some hb
      have hi : idxV (.lst (l.map eWire)) (.int .i64 (k : Int)) = some (eWire a) := idx_map hb
      have g := p_i_wireOf_1 a x
      simp only [eWire] at g
      simp only [lt_d hk, next_w hk hl, hi, eWire, caps1, List.cons_append, List.nil_append, g, EVS]
    · simp only [ge_d, EVS]
      rfl
    · simp only [EVS]
  show (fun x0 x1 => s_i_wireOf [x0, x1]) _ _ = _
  rw [sh_i_wireOf]
  have lt : ∀ {R : Type} (l : List PV) (x : Option R), liveThen [.tup l] x = x := fun l x => (Eq.refl _).trans (Eq.refl _)
  simp only [lt, g, List.drop_zero, Bool.not_not, EVS]
theorem p_i_IsValidCover_1 (c : List UInt8) (n : Int) (hc : Fits c) : s_i_IsValidCover_1 [.str c, .agg [pI n]] = some (pB (!cubeP' c n)) := by
  show (fun x0 x1 => s_i_IsValidCover_1 [x0, x1]) _ _ = _
  rw [sh_i_IsValidCover_1]
  simp only [p_i_isCube c n hc, EVS]
theorem p_g_slices_IndexFunc_string__i_IsValidCover_1 (l : List (List UInt8)) (n : Int) (hl : Fits l) (hc : ∀ c ∈ l, Fits c) : s_g_slices_IndexFunc_string__i_IsValidCover_1 [.lst (l.map PV.str), .tup [.agg [pI n]]] = some (pI (ixf (fun c : List UInt8 => !cubeP' c n) 0 l)) := by
  unfold Fits at hl
  show (fun x0 x1 => s_g_slices_IndexFunc_string__i_IsValidCover_1 [x0, x1]) _ _ = _
  rw [sh_g_slices_IndexFunc_string__i_IsValidCover_1]
  simp only [EVS]
  refine (congrArg (scOnly true) (rangeIx l (fun c : List UInt8 => !cubeP' c n) _ hl (fun again k a hb => ?_) (fun again => ?_))).trans ?_
  · have hk := lt_of_some hb
    have hi : idxV (.lst (l.map PV.str)) (.int .i64 (k : Int)) = some (.str a) := idx_map hb
    have g := p_i_IsValidCover_1 a n (hc a (List.mem_of_getElem? hb))
    simp only [lt_d hk, next_w hk hl, hi, caps1, List.cons_append, List.nil_append, g, EVS]
  · simp only [ge_d, EVS]
    rfl
  · simp only [EVS]
end Go.Proofs.Ytidjggipnfapfaa

namespace Go.Proofs.Ytidjggipnfapfaa
open Go.RowKit
set_option linter.unusedVariables false
set_option linter.unusedSimpArgs false
theorem eqPin (a c : Int) (b d : Bool) : eqV (some [(0, TD.int .i64), (1, TD.bool)]) .struct (.agg [pI a, pB b]) (.agg [pI c, pB d]) = some (decide (a = c) && (b == d)) := by
  simp [eqV, eqAt, scEq, beq_eq_decide]
theorem zp_bool : ZC.bool.pv = pB false := (Eq.refl _).trans (Eq.refl _)
theorem sp12 (a b c : PV) : splice [a, b] 0 [c] = [c, b] := (Eq.refl _).trans (Eq.refl _)
def coverI (n : Int) (l : List (List UInt8)) : Bool := (inR n 1 8 && decide ((l.length : Int) ≤ 60)) && allK (fun _ c => cubeP' c n) 0 l
def wireForm (n : PNet) (k : Nat) (w : PWire) : Bool :=
  if decide (w.kind = 1) = true then decide ((w.ins.length : Int) = 0)
  else if (decide (w.kind = 2) || decide (w.kind = 3)) = true then inR w.ins.length 1 8
  else if decide (w.kind = 4) = true then decide ((w.ins.length : Int) = 2)
  else if decide (w.kind = 5) = true then coverI n.signals.length w.cover && (decide ((w.ins.length : Int) = 0) || (match w.ins with | [p] => decide (p.1 = (k : Int)) && (p.2 == false) | _ => false))
  else false
def wireI (n : PNet) (k : Nat) (w : PWire) : Bool := !((!decide (w.kind = 5) && decide ((0 : Int) < w.cover.length)) || !pinsIn w.ins n.wires.length) && wireForm n k w
theorem p_i_isWire (h160 : ∀ (n : Int) (l : List (List UInt8)), Fits l → (∀ c ∈ l, Fits c) → s_i_IsValidCover [pI n, .lst (l.map PV.str)] = some (pB (coverI n l))) (n : PNet) (k : Nat) (w : PWire) (hn : n.Fit) (hk : n.wires[k]? = some w) : s_i_isWire [eNet n, pI k] = some (pB (wireI n k w)) := by
  have hw := hn.wire w (List.mem_of_getElem? hk)
  have g1 := h160 n.signals.length w.cover hw.cover hw.cubes
  have hwl := hn.wires
  unfold Fits at hwl
  have g2 := p_i_arePins w.ins n.wires.length hwl hw.ins
  have hi : idxV (.lst (n.wires.map eWire)) (.int .i64 (k : Int)) = some (eWire w) := idx_map hk
  show (fun x0 x1 => s_i_isWire [x0, x1]) _ _ = _
  rw [sh_i_isWire]
  simp only [eNet, hi, eWire, EVS]
  unfold wireI
  obtain c1 | c1 := (Bool.eq_false_or_eq_true (!decide (w.kind = 5))).symm <;> simp only [c1, g2, EVS]
  · obtain c2 | c2 := (Bool.eq_false_or_eq_true (pinsIn w.ins n.wires.length)).symm <;> simp only [c1, c2, g2, EVS]
    have c5 : decide (w.kind = 5) = true := by simpa using c1
    have e1 : decide (w.kind = 1) = false := by have := of_decide_eq_true c5; simp; omega
    have e2 : decide (w.kind = 2) = false := by have := of_decide_eq_true c5; simp; omega
    have e3 : decide (w.kind = 3) = false := by have := of_decide_eq_true c5; simp; omega
    have e4 : decide (w.kind = 4) = false := by have := of_decide_eq_true c5; simp; omega
    simp only [joinK_eq, wireForm, e1, e2, e3, e4, c5, g1, EVS]
    obtain c3 | c3 := (Bool.eq_false_or_eq_true (coverI n.signals.length w.cover)).symm <;> simp only [c3, EVS]
    have h01 : decide ((0 : Int) = 1) = false := rfl
    have h00 : decide ((0 : Int) = 0) = true := rfl
    have h11 : decide ((1 : Int) = 1) = true := rfl
    have h10 : decide ((1 : Int) = 0) = false := rfl
    rcases hq : w.ins with _ | ⟨p, _ | ⟨q, r⟩⟩
    · simp only [List.length_nil, h00, EVS]
    · have hi : idxV (.lst ([p].map ePin)) (.int .i64 0) = some (ePin p) := rfl
      simp only [List.length_cons, List.length_nil, Nat.zero_add, h11, h10, hi, ePin, zp_bool, sp12, eqPin, List.drop_zero, List.drop_succ_cons, EVS]
    · have h2 : decide (((r.length + 1 + 1 : Nat) : Int) = 0) = false := by simp; omega
      have h3 : decide (((r.length + 1 + 1 : Nat) : Int) = 1) = false := by simp; omega
      simp only [List.length_cons, h2, h3, EVS]
  · have c5 : decide (w.kind = 5) = false := by simpa using c1
    obtain c2 | c2 := (Bool.eq_false_or_eq_true (decide ((0 : Int) < w.cover.length))).symm <;> simp only [c1, c2, g2, EVS]
    obtain c3 | c3 := (Bool.eq_false_or_eq_true (pinsIn w.ins n.wires.length)).symm <;> simp only [c3, EVS]
    simp only [joinK_eq, wireForm, c5, EVS]
    obtain e1 | e1 := (Bool.eq_false_or_eq_true (decide (w.kind = 1))).symm <;> simp only [e1, EVS]
    obtain e2 | e2 := (Bool.eq_false_or_eq_true (decide (w.kind = 2))).symm <;> simp only [e2, p_i_within, EVS]
    obtain e3 | e3 := (Bool.eq_false_or_eq_true (decide (w.kind = 3))).symm <;> simp only [e3, p_i_within, EVS]
    obtain e4 | e4 := (Bool.eq_false_or_eq_true (decide (w.kind = 4))).symm <;> simp only [e4, EVS]
end Go.Proofs.Ytidjggipnfapfaa

namespace Go.Proofs.Ytidjggipnfapfaa
open Go.RowKit
set_option linter.unusedVariables false
set_option linter.unusedSimpArgs false
theorem p_i_IsValidCover (n : Int) (l : List (List UInt8)) (hl : Fits l) (hc : ∀ c ∈ l, Fits c) : s_i_IsValidCover [pI n, .lst (l.map PV.str)] = some (pB (coverI n l)) := by
  have g : s_g_slices_ContainsFunc_string__i_IsValidCover_1 [.lst (l.map PV.str), .tup [.agg [pI n]]] = some (pB (!allK (fun _ c => cubeP' c n) 0 l)) := by
    show (fun x0 x1 => s_g_slices_ContainsFunc_string__i_IsValidCover_1 [x0, x1]) _ _ = _
    rw [sh_g_slices_ContainsFunc_string__i_IsValidCover_1]
    simp only [p_g_slices_IndexFunc_string__i_IsValidCover_1 l n hl hc, ixf_ge (fun c : List UInt8 => !cubeP' c n) l 0, Bool.not_not, EVS]
  show (fun x0 x1 => s_i_IsValidCover [x0, x1]) _ _ = _
  rw [sh_i_IsValidCover]
  simp only [p_i_within, lt_tup, List.drop_zero, coverI, EVS]
  obtain c1 | c1 := (Bool.eq_false_or_eq_true (inR n 1 8)).symm <;> simp only [c1, EVS]
  obtain c2 | c2 := (Bool.eq_false_or_eq_true (decide ((l.length : Int) ≤ 60))).symm <;> simp only [c2, lt_tup, g, Bool.not_not, EVS]
def sigOkI (l : List (List UInt8 × Int)) (k : Nat) (s : List UInt8 × Int) : Bool := (isNameP s.1 && inR s.2 1 3) && allK (fun _ a => !decide (a.1 = s.1)) 0 (l.take k)
def sigsI (l : List (List UInt8 × Int)) : Bool := allK (sigOkI l) 0 l && inR l.length 1 8
theorem p_i_areSignals (l : List (List UInt8 × Int)) (hl : Fits l) (hs : ∀ s ∈ l, Fits s.1) : s_i_areSignals [.lst (l.map eSig)] = some (pB (sigsI l)) := by
  unfold Fits at hl
  show (fun x0 => s_i_areSignals [x0]) _ = _
  rw [sh_i_areSignals]
  simp only [EVS]
  refine (congrArg (scOnly true) (rangeAll (R := PV) l (sigOkI l) (some (pB false)) (some (pB (inR l.length 1 8))) _ hl (fun again k s hb => ?_) (fun again => ?_))).trans ?_
  · have hk := lt_of_some hb
    have hi : idxV (.lst (l.map eSig)) (.int .i64 (k : Int)) = some (eSig s) := idx_map hb
    have hc : cutL 2 (.lst (l.map eSig)) none (some (.int .i64 (k : Int))) = some (.lst ((l.take k).map eSig)) := cut_map okEl_eSig (by omega)
    have hn := p_i_isName' s.1 (hs s (List.mem_of_getElem? hb))
    have g := p_g_slices_ContainsFunc_Signal__i_areSignals_1 (l.take k) s (by show (l.take k).length ≤ _; simp; omega)
    simp only [eSig] at g
    simp only [lt_d hk, next_w hk hl, hi, eSig, hn, sigOkI, EVS]
    obtain c1 | c1 := (Bool.eq_false_or_eq_true (isNameP s.1)).symm <;> simp only [c1, p_i_within, EVS]
    obtain c2 | c2 := (Bool.eq_false_or_eq_true (inR s.2 1 3)).symm <;> simp only [c2, EVS]
    simp only [hc, List.drop_zero, lt_tup, g, EVS]
    obtain c3 | c3 := (Bool.eq_false_or_eq_true (allK (fun _ (a : List UInt8 × Int) => !decide (a.1 = s.1)) 0 (l.take k))).symm <;> simp only [c3, EVS]
  · simp only [ge_d, p_i_within, EVS]
  · unfold sigsI
    cases allK (sigOkI l) 0 l <;> simp only [EVS]
/-- Each wire is right, in the words of the program. -/
def netWireI (n : PNet) (k : Nat) (w : PWire) : Bool :=
  (wireI n k w && isNameP w.name && allK (fun _ v => !decide (v.name = w.name)) 0 (n.wires.take k)) &&
  (if decide ((k : Int) < (n.signals.length : Int)) = true then wireSeen n k w else (decide (w.kind = 2) || decide (w.kind = 3)) && pinsIn w.ins k)
def netI (n : PNet) : Bool := (sigsI n.signals && inR n.wires.length n.signals.length 24) && allK (netWireI n) 0 n.wires
theorem p_i_IsValidNetlist (n : PNet) (hn : n.Fit) : s_i_IsValidNetlist [eNet n] = some (pB (netI n)) := by
  have g1 := p_i_areSignals n.signals hn.signals hn.names
  have hwl := hn.wires
  unfold Fits at hwl
  show (fun x0 => s_i_IsValidNetlist [x0]) _ = _
  rw [sh_i_IsValidNetlist]
  simp only [eNet, g1, EVS]
  unfold netI
  obtain c1 | c1 := (Bool.eq_false_or_eq_true (sigsI n.signals)).symm <;> simp only [c1, p_i_within, EVS]
  obtain c2 | c2 := (Bool.eq_false_or_eq_true (inR n.wires.length n.signals.length 24)).symm <;> simp only [c2, EVS]
  refine (congrArg (scOnly true) (rangeAll (R := PV) n.wires (netWireI n) (some (pB false)) (some (pB true)) _ hwl (fun again k w hb => ?_) (fun again => ?_))).trans ?_
  · have hk := lt_of_some hb
    have hw := hn.wire w (List.mem_of_getElem? hb)
    have hi : idxV (.lst (n.wires.map eWire)) (.int .i64 (k : Int)) = some (eWire w) := idx_map hb
    have hc : cutL 4 (.lst (n.wires.map eWire)) none (some (.int .i64 (k : Int))) = some (.lst ((n.wires.take k).map eWire)) := cut_map okEl_eWire (by omega)
    have g2 := p_i_isWire p_i_IsValidCover n k w hn hb
    have g3 := p_i_isName' w.name hw.name
    have g4 := p_i_wireOf (n.wires.take k) w.name (by show (n.wires.take k).length ≤ _; simp; omega)
    have g5 := p_i_arePins w.ins k (by omega) hw.ins
    simp only [eNet] at g2
    simp only [lt_d hk, next_w hk hwl, hi, eWire, netWireI, g2, EVS]
    obtain c1 | c1 := (Bool.eq_false_or_eq_true (wireI n k w)).symm <;> simp only [c1, g3, EVS]
    obtain c2 | c2 := (Bool.eq_false_or_eq_true (isNameP w.name)).symm <;> simp only [c2, hc, g4, EVS]
    simp only [ixf_ge (fun v : PWire => decide (v.name = w.name)) (n.wires.take k) 0]
    obtain c3 | c3 := (Bool.eq_false_or_eq_true (allK (fun _ (v : PWire) => !decide (v.name = w.name)) 0 (n.wires.take k))).symm <;> simp only [c3, joinK_eq, EVS]
    obtain c4 | c4 := (Bool.eq_false_or_eq_true (decide ((k : Int) < (n.signals.length : Int)))).symm <;> simp only [c4, EVS]
    · obtain c5 | c5 := (Bool.eq_false_or_eq_true (decide (w.kind = 2))).symm <;> simp only [c5, g5, EVS]
      · obtain c6 | c6 := (Bool.eq_false_or_eq_true (decide (w.kind = 3))).symm <;> simp only [c6, g5, EVS]
        obtain c7 | c7 := (Bool.eq_false_or_eq_true (pinsIn w.ins k)).symm <;> simp only [c7, next_w hk hwl, EVS]
      · obtain c7 | c7 := (Bool.eq_false_or_eq_true (pinsIn w.ins k)).symm <;> simp only [c7, next_w hk hwl, EVS]
    · have hks : k < n.signals.length := by have := of_decide_eq_true c4; omega
      have hs : n.signals[k]? = some n.signals[k] := List.getElem?_eq_getElem hks
      have hi2 : idxV (.lst (n.signals.map eSig)) (.int .i64 (k : Int)) = some (eSig n.signals[k]) := idx_map hs
      simp only [wireSeen, hs, hi2, eSig, List.drop_zero, List.drop_succ_cons, EVS]
      obtain c5 | c5 := (Bool.eq_false_or_eq_true (decide (w.name = n.signals[k].1))).symm <;> simp only [c5, hi2, eSig, List.drop_zero, List.drop_succ_cons, EVS]
      obtain c6 | c6 := (Bool.eq_false_or_eq_true (decide (w.kind = 1) == decide (n.signals[k].2 = 1))).symm <;> simp only [bne, c6, next_w hk hwl, EVS]
  · simp only [ge_d, EVS]
  · cases allK (netWireI n) 0 n.wires <;> simp only [EVS]
end Go.Proofs.Ytidjggipnfapfaa

namespace Go.Proofs.Ytidjggipnfapfaa
open Go.RowKit
set_option linter.unusedVariables false
set_option linter.unusedSimpArgs false
theorem allK_all {α : Type} (q : α → Bool) : ∀ (l : List α) (k : Nat), allK (fun _ x => q x) k l = l.all q
  | [], _ => rfl
  | x :: r, k => by unfold allK; rw [allK_all q r (k + 1), List.all_cons]
theorem allK_congr {α : Type} (f g : Nat → α → Bool) (h : ∀ k x, f k x = g k x) : ∀ (l : List α) (k : Nat), allK f k l = allK g k l
  | [], _ => rfl
  | x :: r, k => by unfold allK; rw [h k x, allK_congr f g h r (k + 1)]
theorem sigs_eq (l : List (List UInt8 × Int)) : sigsP l = sigsI l := by
  unfold sigsP sigsI
  rw [allK_congr (sigOk l) (sigOkI l) (fun k x => ?_) l 0]
  unfold sigOk sigOkI
  rw [allK_congr (fun _ (y : List UInt8 × Int) => !decide (x.1 = y.1)) (fun _ (y : List UInt8 × Int) => !decide (y.1 = x.1)) (fun _ y => by simp [eq_comm]) _ 0]
theorem cover_eq (n : Int) (l : List (List UInt8)) : goodP n l = coverI n l := by
  unfold goodP coverI coverGo
  rw [Bool.and_comm, Bool.eq_iff_iff]
  simp only [Bool.and_eq_true]
  refine and_congr_right fun h => ?_
  rw [allK_congr (fun _ c => cubeP c && decide ((c.length : Int) = n)) (fun _ c => cubeP' c n) (fun _ c => ?_) l 0]
  unfold cubeP cubeP' inR
  rw [Bool.eq_iff_iff]
  simp only [Bool.and_eq_true, decide_eq_true_eq]
  constructor
  · rintro ⟨⟨h1, h2, h3⟩, h4⟩
    exact ⟨h1, h4, by omega, by omega⟩
  · rintro ⟨h1, h2, h3, h4⟩
    exact ⟨⟨h1, by omega, by omega⟩, h2⟩
theorem pins_seen (n : PNet) (k : Nat) (l : List (Int × Bool)) (h : k < n.signals.length) : allK (fun _ p => pinOk n k p) 0 l = pinsIn l n.wires.length := by
  unfold pinsIn
  refine allK_congr _ _ (fun _ p => ?_) l 0
  unfold pinOk
  have : decide ((n.signals.length : Int) ≤ k) = false := by simp; omega
  rw [this]
  simp
theorem pins_late (n : PNet) (k : Nat) (l : List (Int × Bool)) (h : ¬ k < n.signals.length) : allK (fun _ p => pinOk n k p) 0 l = (pinsIn l n.wires.length && pinsIn l k) := by
  unfold pinsIn
  rw [allK_all, allK_all, allK_all, Bool.eq_iff_iff]
  have : decide ((n.signals.length : Int) ≤ k) = true := by simp; omega
  simp only [Bool.and_eq_true, List.all_eq_true, pinOk, inR, this, Bool.true_and, Bool.not_eq_true', decide_eq_true_eq, decide_eq_false_iff_not]
  constructor
  · intro h
    exact ⟨fun p hp => (h p hp).1, fun p hp => ⟨(h p hp).1.1, by have := (h p hp).2; omega⟩⟩
  · rintro ⟨h1, h2⟩ p hp
    exact ⟨h1 p hp, by have := (h2 p hp).2; omega⟩
theorem form_eq (n : PNet) (k : Nat) (w : PWire) : (inR w.kind 1 5 && ((if decide (w.kind = 5) = true then coverI n.signals.length w.cover else !decide ((0 : Int) < w.cover.length)) && pinForm k w.kind w.ins)) = (!(!decide (w.kind = 5) && decide ((0 : Int) < w.cover.length)) && wireForm n k w) := by
  unfold pinForm wireForm
  by_cases h1 : w.kind = 1
  · simp [h1, inR]
  by_cases h2 : w.kind = 2
  · simp [h2, inR]
  by_cases h3 : w.kind = 3
  · simp [h3, inR]
  by_cases h4 : w.kind = 4
  · simp [h4, inR]
  by_cases h5 : w.kind = 5
  · obtain ⟨nm, kd, ins, cov⟩ := w
    simp only at h5
    rcases ins with _ | ⟨p, _ | ⟨q, r⟩⟩ <;> simp [h5, inR]
  · have : inR w.kind 1 5 = false := by
      unfold inR
      simp only [Bool.and_eq_false_iff, decide_eq_false_iff_not]
      omega
    simp [this, h1, h2, h3, h4, h5]
theorem wire_eq (n : PNet) (k : Nat) (w : PWire) : netWireOk n k w = netWireI n k w := by
  unfold netWireOk netWireI wireP wireI pinsP
  have hf := form_eq n k w
  rw [cover_eq]
  by_cases hk : k < n.signals.length
  · have hd : decide ((k : Int) < (n.signals.length : Int)) = true := by simpa using hk
    rw [pins_seen n k w.ins hk]
    simp only [hd, if_true, Bool.true_or, Bool.not_true, Bool.false_or, Bool.not_false, Bool.false_eq_true, if_false, Bool.true_and]
    revert hf
    generalize inR w.kind 1 5 = a1
    generalize (if decide (w.kind = 5) = true then coverI (↑n.signals.length) w.cover else !decide ((0 : Int) < ↑w.cover.length)) = a2
    generalize pinForm k w.kind w.ins = a3
    generalize (!decide (w.kind = 5) && decide ((0 : Int) < w.cover.length)) = a4
    generalize wireForm n k w = a5
    generalize pinsIn w.ins n.wires.length = a6
    generalize wireSeen n k w = a7
    generalize isNameP w.name = a8
    generalize allK (fun _ (v : PWire) => !decide (v.name = w.name)) 0 (n.wires.take k) = a9
    cases a1 <;> cases a2 <;> cases a3 <;> cases a4 <;> cases a5 <;> cases a6 <;> cases a7 <;> cases a8 <;> cases a9 <;> decide
  · have hd : decide ((k : Int) < (n.signals.length : Int)) = false := by simpa using hk
    rw [pins_late n k w.ins hk]
    simp only [hd, if_true, Bool.true_or, Bool.not_true, Bool.false_or, Bool.not_false, Bool.false_eq_true, if_false, Bool.true_and]
    revert hf
    generalize inR w.kind 1 5 = a1
    generalize (if decide (w.kind = 5) = true then coverI (↑n.signals.length) w.cover else !decide ((0 : Int) < ↑w.cover.length)) = a2
    generalize pinForm k w.kind w.ins = a3
    generalize (!decide (w.kind = 5) && decide ((0 : Int) < w.cover.length)) = a4
    generalize wireForm n k w = a5
    generalize pinsIn w.ins n.wires.length = a6
    generalize isNameP w.name = a8
    generalize pinsIn w.ins k = a7
    generalize decide (w.kind = 2) = b2
    generalize decide (w.kind = 3) = b3
    generalize allK (fun _ (v : PWire) => !decide (v.name = w.name)) 0 (n.wires.take k) = a9
    cases a1 <;> cases a2 <;> cases a3 <;> cases a4 <;> cases a5 <;> cases a6 <;> cases a7 <;> cases a8 <;> cases a9 <;> cases b2 <;> cases b3 <;> decide
theorem net_eq (n : PNet) : netP n = netI n := by
  unfold netP netI
  rw [sigs_eq, allK_congr (netWireOk n) (netWireI n) (fun k x => wire_eq n k x) n.wires 0]
  congr 2
  unfold inR
  rw [Bool.eq_iff_iff]
  simp
end Go.Proofs.Ytidjggipnfapfaa

namespace Go.Proofs.Ytidjggipnfapfaa
open Go.RowKit
set_option linter.unusedVariables false
set_option linter.unusedSimpArgs false
def bitB (b : UInt8) : Bool := decide ((b.toNat : Int) = 48) || decide ((b.toNat : Int) = 49)
def bitsP (s : List UInt8) (n : Int) : Bool := allK (fun _ b => bitB b) 0 s && decide ((s.length : Int) = n)
theorem p_r_l5Code (s : List UInt8) (n : Int) (hs : Fits s) : s_r_l5Code [.str s, pI n] = some (pB (bitsP s n)) := by
  unfold Fits at hs
  show (fun x0 x1 => s_r_l5Code [x0, x1]) _ _ = _
  rw [sh_r_l5Code]
  refine (congrArg (scOnly true) (rangeAll (R := PV) s (fun _ b => bitB b) (some (pB false)) (some (pB (decide ((s.length : Int) = n)))) _ hs (fun again k b hb => ?_) (fun again => ?_))).trans ?_
  · have hk := lt_of_some hb
    simp only [bitB, lt_d hk, next_w hk hs, byteV_at hb, EVS]
    obtain c1 | c1 := (Bool.eq_false_or_eq_true (decide ((b.toNat : Int) = 48))).symm <;> simp only [c1, byteV_at hb, EVS]
    obtain c2 | c2 := (Bool.eq_false_or_eq_true (decide ((b.toNat : Int) = 49))).symm <;> simp only [c2, byteV_at hb, EVS]
  · simp only [ge_d, EVS]
  · unfold bitsP
    cases allK (fun _ b => bitB b) 0 s <;> simp only [EVS]
theorem p_i_isBits (s : List UInt8) (n : Int) (hs : Fits s) : s_i_isBits [.str s, pI n] = some (pB (bitsP s n)) := by
  unfold Fits at hs
  show (fun x0 x1 => s_i_isBits [x0, x1]) _ _ = _
  rw [sh_i_isBits]
  refine (congrArg (scOnly true) (rangeAll (R := PV) s (fun _ b => bitB b) (some (pB false)) (some (pB (decide ((s.length : Int) = n)))) _ hs (fun again k b hb => ?_) (fun again => ?_))).trans ?_
  · have hk := lt_of_some hb
    simp only [bitB, lt_d hk, next_w hk hs, byteV_at hb, EVS]
    obtain c1 | c1 := (Bool.eq_false_or_eq_true (decide ((b.toNat : Int) = 48))).symm <;> simp only [c1, byteV_at hb, EVS]
    obtain c2 | c2 := (Bool.eq_false_or_eq_true (decide ((b.toNat : Int) = 49))).symm <;> simp only [c2, byteV_at hb, EVS]
  · simp only [ge_d, EVS]
  · unfold bitsP
    cases allK (fun _ b => bitB b) 0 s <;> simp only [EVS]
def valuesP (n : PNet) (s : List UInt8) : Bool := netP n && bitsP s n.wires.length
theorem p_r_l19Values (n : PNet) (s : List UInt8) (hn : n.Fit) (hs : Fits s) : s_r_l19Values [eNet n, .str s] = some (pB (valuesP n s)) := by
  have g1 := p_r_l19Good n hn
  have g2 := p_r_l5Code s n.wires.length hs
  simp only [eNet] at g1
  show (fun x0 x1 => s_r_l19Values [x0, x1]) _ _ = _
  rw [sh_r_l19Values]
  unfold valuesP
  simp only [eNet, g1, EVS]
  obtain c1 | c1 := (Bool.eq_false_or_eq_true (netP n)).symm <;> simp only [c1, g2, EVS]
theorem p_i_isValues (n : PNet) (s : List UInt8) (hn : n.Fit) (hs : Fits s) : s_i_isValues [eNet n, .str s] = some (pB (valuesP n s)) := by
  have g1 := p_i_IsValidNetlist n hn
  have g2 := p_i_isBits s n.wires.length hs
  rw [← net_eq] at g1
  simp only [eNet] at g1
  show (fun x0 x1 => s_i_isValues [x0, x1]) _ _ = _
  rw [sh_i_isValues]
  unfold valuesP
  simp only [eNet, g1, EVS]
  obtain c1 | c1 := (Bool.eq_false_or_eq_true (netP n)).symm <;> simp only [c1, g2, EVS]
/-- What a pin reads. -/
def pinV (p : Int × Bool) (s : List UInt8) : Bool := match s[p.1.toNat]? with | some b => decide ((b.toNat : Int) = 49) != p.2 | none => false
theorem pin_at {p : Int × Bool} {s : List UInt8} (h0 : 0 ≤ p.1) (h1 : p.1 < s.length) : ∃ b : UInt8, s[p.1.toNat]? = some b ∧ byteV (.str s) (pI p.1) = some (pU b) := by
  have h2 : p.1.toNat < s.length := by omega
  refine ⟨s[p.1.toNat], List.getElem?_eq_getElem h2, ?_⟩
  have := byteV_at (k := .i64) (List.getElem?_eq_getElem h2)
  rw [Int.toNat_of_nonneg h0] at this
  exact this
theorem p_r_l19Pin (p : Int × Bool) (s : List UInt8) (h0 : 0 ≤ p.1) (h1 : p.1 < s.length) : s_r_l19Pin [ePin p, .str s] = some (pB (pinV p s)) := by
  obtain ⟨b, hb, hv⟩ := pin_at h0 h1
  show (fun x0 x1 => s_r_l19Pin [x0, x1]) _ _ = _
  rw [sh_r_l19Pin]
  simp only [ePin, hv, pinV, hb, bne, EVS]
theorem p_i_pinValue (p : Int × Bool) (s : List UInt8) (h0 : 0 ≤ p.1) (h1 : p.1 < s.length) : s_i_pinValue [ePin p, .str s] = some (pB (pinV p s)) := by
  obtain ⟨b, hb, hv⟩ := pin_at h0 h1
  show (fun x0 x1 => s_i_pinValue [x0, x1]) _ _ = _
  rw [sh_i_pinValue]
  simp only [ePin, hv, pinV, hb, bne, EVS]
/-- A cube holds a code. -/
def hasB (code : List UInt8) (k : Nat) (b : UInt8) : Bool := decide ((b.toNat : Int) = 45) || (match code[k]? with | some c => decide ((b.toNat : Int) = c.toNat) | none => false)
def hasP (cube code : List UInt8) : Bool := allK (hasB code) 0 cube
theorem p_r_l13Has (cube code : List UInt8) (hs : Fits cube) (hl : cube.length ≤ code.length) : s_r_l13Has [.str cube, .str code] = some (pB (hasP cube code)) := by
  unfold Fits at hs
  show (fun x0 x1 => s_r_l13Has [x0, x1]) _ _ = _
  rw [sh_r_l13Has]
  refine (congrArg (scOnly true) (rangeAll (R := PV) cube (hasB code) (some (pB false)) (some (pB true)) _ hs (fun again k b hb => ?_) (fun again => ?_))).trans ?_
  · have hk := lt_of_some hb
    have hc : code[k]? = some code[k] := List.getElem?_eq_getElem (by omega)
    simp only [hasB, hc, lt_d hk, next_w hk hs, byteV_at hb, byteV_at hc, EVS]
    obtain c1 | c1 := (Bool.eq_false_or_eq_true (decide ((b.toNat : Int) = 45))).symm <;> simp only [c1, byteV_at hb, byteV_at hc, EVS]
    obtain c2 | c2 := (Bool.eq_false_or_eq_true (decide ((b.toNat : Int) = (code[k].toNat : Int)))).symm <;> simp only [c2, EVS]
  · simp only [ge_d, EVS]
  · unfold hasP
    cases allK (hasB code) 0 cube <;> simp only [EVS]
theorem p_i_contains (cube code : List UInt8) (hs : Fits cube) (hl : cube.length ≤ code.length) : s_i_contains [.str cube, .str code] = some (pB (hasP cube code)) := by
  unfold Fits at hs
  show (fun x0 x1 => s_i_contains [x0, x1]) _ _ = _
  rw [sh_i_contains]
  simp only [EVS]
  refine (congrArg (scOnly true) (rangeAll (R := PV) cube (hasB code) (some (pB false)) (some (pB true)) _ hs (fun again k b hb => ?_) (fun again => ?_))).trans ?_
  · have hk := lt_of_some hb
    have hc : code[k]? = some code[k] := List.getElem?_eq_getElem (by omega)
    simp only [hasB, hc, lt_d hk, next_w hk hs, byteV_at hb, byteV_at hc, EVS]
    obtain c1 | c1 := (Bool.eq_false_or_eq_true (decide ((b.toNat : Int) = 45))).symm <;> simp only [c1, byteV_at hb, byteV_at hc, EVS]
    obtain c2 | c2 := (Bool.eq_false_or_eq_true (decide ((b.toNat : Int) = (code[k].toNat : Int)))).symm <;> simp only [c2, EVS]
  · simp only [ge_d, EVS]
  · unfold hasP
    cases allK (hasB code) 0 cube <;> simp only [EVS]
end Go.Proofs.Ytidjggipnfapfaa

namespace Go.Proofs.Ytidjggipnfapfaa
open Go.RowKit
set_option linter.unusedVariables false
set_option linter.unusedSimpArgs false
theorem allK_at {α : Type} (q : Nat → α → Bool) : ∀ (l : List α) (j : Nat), allK q j l = true → ∀ (i : Nat) (x : α), l[i]? = some x → q (j + i) x = true
  | [], j, _, i, x, hx => by simp at hx
  | y :: r, j, h, i, x, hx => by
    unfold allK at h
    rw [Bool.and_eq_true] at h
    cases i with
    | zero => simp at hx; subst hx; simpa using h.1
    | succ i =>
      have := allK_at q r (j + 1) h.2 i x (by simpa using hx)
      rw [show j + (i + 1) = j + 1 + i by omega]
      exact this
theorem allK_mem {α : Type} (q : α → Bool) {l : List α} (h : allK (fun _ x => q x) 0 l = true) {x : α} (hx : x ∈ l) : q x = true := by
  rw [allK_all] at h
  exact List.all_eq_true.1 h x hx
def bitU (u : Bool) : UInt8 := if u = true then 49 else 48
theorem bitB_bitU (u : Bool) : bitB (bitU u) = true := by cases u <;> decide
theorem p_r_l5Bit (u : Bool) : s_r_l5Bit [pB u] = some (.str [bitU u]) := by
  show (fun x0 => s_r_l5Bit [x0]) _ = _
  rw [sh_r_l5Bit]
  cases u <;> simp only [EVS] <;> rfl
theorem p_i_bit (u : Bool) : s_i_bit [pB u] = some (pU (bitU u)) := by
  show (fun x0 => s_i_bit [x0]) _ = _
  rw [sh_i_bit]
  cases u <;> simp only [EVS] <;> rfl
theorem set_cut {α : Type} (c : List α) (i : Nat) (b : α) (h : i < c.length) : c.take i ++ [b] ++ c.drop (i + 1) = c.set i b := by
  rw [List.set_eq_take_append_cons_drop, if_pos h, List.append_assoc]
  rfl
theorem p_r_l5Set (c : List UInt8) (i : Nat) (b : UInt8) (h : i < c.length) (hc : Fits c) : s_r_l5Set [.str c, pI i, .str [b]] = some (.str (c.set i b)) := by
  unfold Fits at hc
  have h1 : cutS (.str c) none (some (.int .i64 (i : Int))) = some (.str (c.take i)) := cutS_take (by omega)
  have h2 : cutS (.str c) (some (.int .i64 ((i + 1 : Nat) : Int))) none = some (.str (c.drop (i + 1))) := cutS_drop (by omega)
  show (fun x0 x1 x2 => s_r_l5Set [x0, x1, x2]) _ _ _ = _
  rw [sh_r_l5Set]
  have h3 : binV .add TD.str (.str (c.take i)) (.str [b]) = some (.str (c.take i ++ [b])) := bs_add (by simp; omega)
  have h4 : binV .add TD.str (.str (c.take i ++ [b])) (.str (c.drop (i + 1))) = some (.str (c.take i ++ [b] ++ c.drop (i + 1))) := bs_add (by simp; omega)
  simp only [h1, next_w h hc, h2, h3, h4, set_cut c i b h, EVS]
theorem bitsP_iff {s : List UInt8} {n : Nat} : bitsP s n = true ↔ (∀ b ∈ s, bitB b = true) ∧ s.length = n := by
  unfold bitsP
  rw [allK_all, Bool.and_eq_true, List.all_eq_true, decide_eq_true_eq]
  constructor
  · rintro ⟨h1, h2⟩; exact ⟨h1, by omega⟩
  · rintro ⟨h1, h2⟩; exact ⟨h1, by omega⟩
theorem bits_set {v : List UInt8} {N k : Nat} (h : bitsP v N = true) (u : Bool) : bitsP (v.set k (bitU u)) N = true := by
  rw [bitsP_iff] at h ⊢
  refine ⟨fun b hb => ?_, by simpa using h.2⟩
  rcases List.mem_or_eq_of_mem_set hb with hb | rfl
  · exact h.1 b hb
  · exact bitB_bitU u
theorem bits_pad {c : List UInt8} {m N : Nat} (h : bitsP c m = true) (hm : m ≤ N) : bitsP (c ++ List.replicate (N - m) 48) N = true := by
  rw [bitsP_iff] at h ⊢
  refine ⟨fun b hb => ?_, by simp [h.2]; omega⟩
  rcases List.mem_append.1 hb with hb | hb
  · exact h.1 b hb
  · obtain ⟨_, rfl⟩ := List.mem_replicate.1 hb; decide
theorem bitB_iff (b : UInt8) : bitB b = true ↔ b = 48 ∨ b = 49 := by
  unfold bitB
  rw [Bool.or_eq_true, decide_eq_true_eq, decide_eq_true_eq]
  have h48 : (48 : UInt8).toNat = 48 := rfl
  have h49 : (49 : UInt8).toNat = 49 := rfl
  constructor
  · rintro (h | h)
    · exact .inl (UInt8.toNat_inj.1 (by omega))
    · exact .inr (UInt8.toNat_inj.1 (by omega))
  · rintro (rfl | rfl)
    · exact .inl rfl
    · exact .inr rfl
end Go.Proofs.Ytidjggipnfapfaa

namespace Go.Proofs.Ytidjggipnfapfaa
open Go.RowKit
set_option linter.unusedVariables false
set_option linter.unusedSimpArgs false
theorem caps0 : capsOf 0 (.tup []) = some [] := by simp [capsOf, PV.parts]
theorem caps2 (l m : List PV) : capsOf 2 (.tup [.agg l, .agg m]) = some [.agg l, .agg m] := by simp [capsOf, PV.parts, PV.isU]
theorem not_allK_not {α : Type} (q : α → Bool) (l : List α) : some (PV.bool (!allK (fun _ a => !q a) 0 l)) = some (PV.bool (l.any q)) := by
  rw [allK_all, List.any_eq_not_all_not]
structure PBurst where
  from_ : Int
  ins : List (Int × Bool)
  outs : List (Int × Bool)
  to_ : Int
  deriving DecidableEq
structure PMach where
  signals : List (List UInt8 × Int)
  states : Int
  bursts : List PBurst
  first : List UInt8
abbrev eBurst (b : PBurst) : PV := .agg [pI b.from_, .lst (b.ins.map ePin), .lst (b.outs.map ePin), pI b.to_]
abbrev eMach (m : PMach) : PV := .agg [.lst (m.signals.map eSig), pI m.states, .lst (m.bursts.map eBurst), .str m.first]
theorem eqV_lab (x y : Int × Bool) : eqV (some [(0, TD.int IntKind.i64), (1, TD.bool)]) TD.struct (ePin x) (ePin y) = some (decide (x = y)) := by
  obtain ⟨a, b⟩ := x
  obtain ⟨c, d⟩ := y
  simp [eqV, eqAt, scEq, Bool.beq_eq_decide_eq, Prod.mk.injEq]
theorem p_i_machineCodes_1 (a : List UInt8 × Int) : s_i_machineCodes_1 [eSig a] = some (pB (decide (a.2 = 3))) := by
  show (fun x0 => s_i_machineCodes_1 [x0]) _ = _
  rw [sh_i_machineCodes_1]
  simp only [eSig, EVS]
theorem p_g_slices_IndexFunc_Signal__i_machineCodes_1 (l : List (List UInt8 × Int))  (hl : Fits l) : s_g_slices_IndexFunc_Signal__i_machineCodes_1 [.lst (l.map eSig), .tup []] = some (pI (ixf (fun a => decide (a.2 = 3)) 0 l)) := by
  show (fun x0 x1 => s_g_slices_IndexFunc_Signal__i_machineCodes_1 [x0, x1]) _ _ = _
  rw [sh_g_slices_IndexFunc_Signal__i_machineCodes_1]
  unfold Fits at hl
  simp only [EVS]
  refine (congrArg (fun m : Option PV => m.bind fun r => if r.sc = true then some r else none) (rangeIx l (fun a => decide (a.2 = 3)) _ hl (fun again k a hb => ?_) (fun again => ?_))).trans ?_
  · have hk := lt_of_some hb
    have ha : a ∈ l := List.mem_of_getElem? hb
    have hi : idxV (.lst (l.map eSig)) (.int .i64 (k : Int)) = some (eSig a) := idx_map hb
    have g : _ := p_i_machineCodes_1 a
    try simp only [eSig] at g
    simp only [lt_d hk, next_w hk hl, hi, eSig, caps0, caps1, caps2, List.cons_append, List.nil_append, g, EVS]
  · simp only [ge_d, EVS]
    rfl
  · simp only [EVS]
theorem p_g_slices_ContainsFunc_Signal__i_machineCodes_1 (l : List (List UInt8 × Int))  (hl : Fits l) : s_g_slices_ContainsFunc_Signal__i_machineCodes_1 [.lst (l.map eSig), .tup []] = some (pB (l.any (fun a => decide (a.2 = 3)))) := by
  show (fun x0 x1 => s_g_slices_ContainsFunc_Signal__i_machineCodes_1 [x0, x1]) _ _ = _
  rw [sh_g_slices_ContainsFunc_Signal__i_machineCodes_1]
  simp only [p_g_slices_IndexFunc_Signal__i_machineCodes_1 l  hl, ixf_ge (fun a => decide (a.2 = 3)) l 0, EVS]
  rw [not_allK_not]
theorem p_g_slices_Index_Label (l : List (Int × Bool)) (x : Int × Bool) (hl : Fits l) : s_g_slices_Index_Label [.lst (l.map ePin), ePin x] = some (pI (ixf (fun a => decide (x = a)) 0 l)) := by
  show (fun x0 x1 => s_g_slices_Index_Label [x0, x1]) _ _ = _
  rw [sh_g_slices_Index_Label]
  unfold Fits at hl
  simp only [ePin, EVS]
  refine (congrArg (fun m : Option PV => m.bind fun r => if r.sc = true then some r else none) (rangeIx l (fun a => decide (x = a)) _ hl (fun again k a hb => ?_) (fun again => ?_))).trans ?_
  · have hk := lt_of_some hb
    have hi : idxV (.lst (l.map ePin)) (.int .i64 (k : Int)) = some (ePin a) := idx_map hb
    have g := eqV_lab x a
    simp only [ePin] at g
    simp only [lt_d hk, next_w hk hl, hi, ePin, EVS]
    try simp only [g, EVS]
    try (cases hc : decide (x = a) <;> simp only [hc, EVS])
  · simp only [ge_d, EVS]
    rfl
  · simp only [EVS]
theorem p_g_slices_Contains_Label (l : List (Int × Bool)) (x : Int × Bool) (hl : Fits l) : s_g_slices_Contains_Label [.lst (l.map ePin), ePin x] = some (pB (l.any fun a => decide (x = a))) := by
  have g := p_g_slices_Index_Label l x hl
  try simp only [ePin] at g
  show (fun x0 x1 => s_g_slices_Contains_Label [x0, x1]) _ _ = _
  rw [sh_g_slices_Contains_Label]
  simp only [ePin, g, ixf_ge (fun a => decide (x = a)) l 0, EVS]
  rw [not_allK_not]
theorem p_g_slices_Index_string (l : List (List UInt8)) (x : List UInt8) (hl : Fits l) : s_g_slices_Index_string [.lst (l.map PV.str), PV.str x] = some (pI (ixf (fun a => decide (x = a)) 0 l)) := by
  show (fun x0 x1 => s_g_slices_Index_string [x0, x1]) _ _ = _
  rw [sh_g_slices_Index_string]
  unfold Fits at hl
  simp only [EVS]
  refine (congrArg (fun m : Option PV => m.bind fun r => if r.sc = true then some r else none) (rangeIx l (fun a => decide (x = a)) _ hl (fun again k a hb => ?_) (fun again => ?_))).trans ?_
  · have hk := lt_of_some hb
    have hi : idxV (.lst (l.map PV.str)) (.int .i64 (k : Int)) = some (PV.str a) := idx_map hb
    skip
    simp only [lt_d hk, next_w hk hl, hi, EVS]
    try simp only [g, EVS]
    try (cases hc : decide (x = a) <;> simp only [hc, EVS])
  · simp only [ge_d, EVS]
    rfl
  · simp only [EVS]
theorem p_g_slices_Contains_string (l : List (List UInt8)) (x : List UInt8) (hl : Fits l) : s_g_slices_Contains_string [.lst (l.map PV.str), PV.str x] = some (pB (l.any fun a => decide (x = a))) := by
  have g := p_g_slices_Index_string l x hl
  try simp only [id] at g
  show (fun x0 x1 => s_g_slices_Contains_string [x0, x1]) _ _ = _
  rw [sh_g_slices_Contains_string]
  simp only [g, ixf_ge (fun a => decide (x = a)) l 0, EVS]
  rw [not_allK_not]
theorem p_i_isMaximal_1 (a : Int × Bool) (b : PBurst) (hb : Fits b.ins) : s_i_isMaximal_1 [ePin a, eBurst b] = some (pB (!b.ins.any fun x => decide (a = x))) := by
  have g := p_g_slices_Contains_Label b.ins a hb
  simp only [ePin] at g
  show (fun x0 x1 => s_i_isMaximal_1 [x0, x1]) _ _ = _
  rw [sh_i_isMaximal_1]
  simp only [ePin, eBurst, List.drop_succ_cons, List.drop_zero, g, EVS]
theorem p_g_slices_IndexFunc_Label__i_isMaximal_1 (l : List (Int × Bool)) (b : PBurst) (hbi : Fits b.ins) (hl : Fits l) : s_g_slices_IndexFunc_Label__i_isMaximal_1 [.lst (l.map ePin), .tup [eBurst b]] = some (pI (ixf (fun a => !b.ins.any fun x => decide (a = x)) 0 l)) := by
  show (fun x0 x1 => s_g_slices_IndexFunc_Label__i_isMaximal_1 [x0, x1]) _ _ = _
  rw [sh_g_slices_IndexFunc_Label__i_isMaximal_1]
  unfold Fits at hl
  simp only [EVS]
  refine (congrArg (fun m : Option PV => m.bind fun r => if r.sc = true then some r else none) (rangeIx l (fun a => !b.ins.any fun x => decide (a = x)) _ hl (fun again k a hb => ?_) (fun again => ?_))).trans ?_
  · have hk := lt_of_some hb
    have ha : a ∈ l := List.mem_of_getElem? hb
    have hi : idxV (.lst (l.map ePin)) (.int .i64 (k : Int)) = some (ePin a) := idx_map hb
    have g : _ := p_i_isMaximal_1 a b hbi
    try simp only [ePin, eBurst] at g
    simp only [lt_d hk, next_w hk hl, hi, ePin, eBurst, caps0, caps1, caps2, List.cons_append, List.nil_append, g, EVS]
  · simp only [ge_d, EVS]
    rfl
  · simp only [EVS]
theorem p_g_slices_ContainsFunc_Label__i_isMaximal_1 (l : List (Int × Bool)) (b : PBurst) (hbi : Fits b.ins) (hl : Fits l) : s_g_slices_ContainsFunc_Label__i_isMaximal_1 [.lst (l.map ePin), .tup [eBurst b]] = some (pB (l.any (fun a => !b.ins.any fun x => decide (a = x)))) := by
  show (fun x0 x1 => s_g_slices_ContainsFunc_Label__i_isMaximal_1 [x0, x1]) _ _ = _
  rw [sh_g_slices_ContainsFunc_Label__i_isMaximal_1]
  simp only [p_g_slices_IndexFunc_Label__i_isMaximal_1 l b hbi hl, ixf_ge (fun a => !b.ins.any fun x => decide (a = x)) l 0, EVS]
  rw [not_allK_not]
end Go.Proofs.Ytidjggipnfapfaa

namespace Go.Proofs.Ytidjggipnfapfaa
open Go.RowKit
set_option linter.unusedVariables false
set_option linter.unusedSimpArgs false
theorem p_r_l24Kinds (l : List (List UInt8 × Int)) (hl : Fits l) (hs : ∀ s ∈ l, Fits s.1) : s_r_l24Kinds [.lst (l.map eSig)] = some (pB (allK (fun _ s => decide (s.2 = 1) || decide (s.2 = 2)) 0 l && sigsP l)) := by
  have g1 := p_r_l2Signals l hl hs
  unfold Fits at hl
  show (fun x0 => s_r_l24Kinds [x0]) _ = _
  rw [sh_r_l24Kinds]
  simp only [EVS]
  refine (congrArg (fun m : Option PV => m.bind fun r => if r.sc = true then some r else none) (rangeAll (R := PV) l (fun _ s => decide (s.2 = 1) || decide (s.2 = 2)) (some (pB false)) (some (pB (sigsP l))) _ hl (fun again k s hb => ?_) (fun again => ?_))).trans ?_
  · have hk := lt_of_some hb
    have hi : idxV (.lst (l.map eSig)) (.int .i64 (k : Int)) = some (eSig s) := idx_map hb
    simp only [lt_d hk, next_w hk hl, hi, eSig, EVS]
    cases c1 : decide (s.2 = 1)
    · cases c2 : decide (s.2 = 2) <;> simp only [c1, c2, EVS]
    · simp only [c1, EVS]
  · simp only [ge_d, g1, EVS]
  · cases allK (fun _ s => decide (s.2 = 1) || decide (s.2 = 2)) 0 l <;> simp only [EVS]
/-- A label is of a signal of a kind, behind the one ahead of it. -/
def kindAt (sigs : List (List UInt8 × Int)) (k : Nat) (kind : Int) : Bool := match sigs[k]? with | some s => decide (s.2 = kind) | none => false
def rise (l : List (Int × Bool)) (i : Nat) (x : Int × Bool) : Bool := match i with | 0 => true | i + 1 => match l[i]? with | some y => !decide (x.1 ≤ y.1) | none => true
def labOk (sigs : List (List UInt8 × Int)) (kind : Int) (l : List (Int × Bool)) (i : Nat) (x : Int × Bool) : Bool := inR x.1 0 ((sigs.length : Int) - 1) && (kindAt sigs x.1.toNat kind && rise l i x)
def labsP (sigs : List (List UInt8 × Int)) (l : List (Int × Bool)) (kind : Int) : Bool := allK (labOk sigs kind l) 0 l
theorem p_r_l24Labels (m : PMach) (l : List (Int × Bool)) (kind : Int) (hm : Fits m.signals) (hl : Fits l) : s_r_l24Labels [eMach m, .lst (l.map ePin), pI kind] = some (pB (labsP m.signals l kind)) := by
  unfold Fits at hl hm
  show (fun x0 x1 x2 => s_r_l24Labels [x0, x1, x2]) _ _ _ = _
  rw [sh_r_l24Labels]
  have hw1 : IntKind.i64.wrap ((m.signals.length : Int) - 1) = (m.signals.length : Int) - 1 := wrap_of (by omega) (by omega)
  simp only [eMach, EVS]
  refine (congrArg (fun m : Option PV => m.bind fun r => if r.sc = true then some r else none) (rangeAll (R := PV) l (labOk m.signals kind l) (some (pB false)) (some (pB true)) _ hl (fun again k x hb => ?_) (fun again => ?_))).trans ?_
  · have hk := lt_of_some hb
    have hi : idxV (.lst (l.map ePin)) (.int .i64 (k : Int)) = some (ePin x) := idx_map hb
    have g4 := p_r_l1In x.1 0 ((m.signals.length : Int) - 1)
    simp only [lt_d hk, next_w hk hl, hi, ePin, hw1, g4, labOk, inR, EVS]
    obtain c1 | c1 := (Bool.eq_false_or_eq_true (decide ((0 : Int) ≤ x.1) && decide (x.1 ≤ (m.signals.length : Int) - 1))).symm <;> simp only [c1, EVS]
    simp only [Bool.and_eq_true, decide_eq_true_eq] at c1
    obtain ⟨j, hj⟩ : ∃ j : Nat, x.1 = j := ⟨x.1.toNat, by omega⟩
    have hjl : j < m.signals.length := by omega
    have hs : idxV (.lst (m.signals.map eSig)) (.int .i64 (j : Int)) = some (eSig m.signals[j]) := idx_map (List.getElem?_eq_getElem hjl)
    simp only [hj, hs, eSig, kindAt, List.getElem?_eq_getElem hjl, List.drop_succ_cons, List.drop_zero, EVS]
    obtain c2 | c2 := (Bool.eq_false_or_eq_true (decide (m.signals[j].2 = kind))).symm <;> simp only [c2, EVS]
    cases k with
    | zero =>
      have h0 : decide ((0 : Int) < ((0 : Nat) : Int)) = false := by decide
      have h0' : decide ((0 : Int) < (0 : Int)) = false := by decide
      simp only [h0, h0', rise, EVS]
    | succ i =>
      have h0 : decide ((0 : Int) < ((i + 1 : Nat) : Int)) = true := by simp only [decide_eq_true_eq]; omega
      have hil : i < l.length := by omega
      have hw2 : IntKind.i64.wrap (((i + 1 : Nat) : Int) - 1) = (i : Int) := by rw [wrap_of (by omega) (by omega)]; omega
      have hi2 : idxV (.lst (l.map ePin)) (.int .i64 (i : Int)) = some (ePin l[i]) := idx_map (List.getElem?_eq_getElem hil)
      simp only [h0, hw2, hi2, ePin, rise, List.getElem?_eq_getElem hil, List.drop_zero, hj, EVS]
      cases decide ((j : Int) ≤ l[i].1) <;> simp only [EVS]
  · simp only [ge_d, EVS]
  · unfold labsP
    cases allK (labOk m.signals kind l) 0 l <;> simp only [EVS]
theorem p_i_areLabels (sigs : List (List UInt8 × Int)) (l : List (Int × Bool)) (kind : Int) (hm : Fits sigs) (hl : Fits l) : s_i_areLabels [.lst (sigs.map eSig), .lst (l.map ePin), pI kind] = some (pB (labsP sigs l kind)) := by
  unfold Fits at hl hm
  show (fun x0 x1 x2 => s_i_areLabels [x0, x1, x2]) _ _ _ = _
  rw [sh_i_areLabels]
  have hw1 : IntKind.i64.wrap ((sigs.length : Int) - 1) = (sigs.length : Int) - 1 := wrap_of (by omega) (by omega)
  simp only [EVS]
  refine (congrArg (fun m : Option PV => m.bind fun r => if r.sc = true then some r else none) (rangeAll (R := PV) l (labOk sigs kind l) (some (pB false)) (some (pB true)) _ hl (fun again k x hb => ?_) (fun again => ?_))).trans ?_
  · have hk := lt_of_some hb
    have hi : idxV (.lst (l.map ePin)) (.int .i64 (k : Int)) = some (ePin x) := idx_map hb
    have g4 := p_i_within x.1 0 ((sigs.length : Int) - 1)
    simp only [lt_d hk, next_w hk hl, hi, ePin, hw1, g4, labOk, inR, EVS]
    obtain c1 | c1 := (Bool.eq_false_or_eq_true (decide ((0 : Int) ≤ x.1) && decide (x.1 ≤ (sigs.length : Int) - 1))).symm <;> simp only [c1, EVS]
    simp only [Bool.and_eq_true, decide_eq_true_eq] at c1
    obtain ⟨j, hj⟩ : ∃ j : Nat, x.1 = j := ⟨x.1.toNat, by omega⟩
    have hjl : j < sigs.length := by omega
    have hs : idxV (.lst (sigs.map eSig)) (.int .i64 (j : Int)) = some (eSig sigs[j]) := idx_map (List.getElem?_eq_getElem hjl)
    simp only [hj, hs, eSig, kindAt, List.getElem?_eq_getElem hjl, List.drop_succ_cons, List.drop_zero, EVS]
    obtain c2 | c2 := (Bool.eq_false_or_eq_true (decide (sigs[j].2 = kind))).symm <;> simp only [c2, EVS]
    cases k with
    | zero =>
      have h0 : decide ((0 : Int) < ((0 : Nat) : Int)) = false := by decide
      have h0' : decide ((0 : Int) < (0 : Int)) = false := by decide
      simp only [h0, h0', rise, EVS]
    | succ i =>
      have h0 : decide ((0 : Int) < ((i + 1 : Nat) : Int)) = true := by simp only [decide_eq_true_eq]; omega
      have hil : i < l.length := by omega
      have hw2 : IntKind.i64.wrap (((i + 1 : Nat) : Int) - 1) = (i : Int) := by rw [wrap_of (by omega) (by omega)]; omega
      have hi2 : idxV (.lst (l.map ePin)) (.int .i64 (i : Int)) = some (ePin l[i]) := idx_map (List.getElem?_eq_getElem hil)
      simp only [h0, hw2, hi2, ePin, rise, List.getElem?_eq_getElem hil, List.drop_zero, hj, EVS]
      cases decide ((j : Int) ≤ l[i].1) <;> simp only [EVS]
  · simp only [ge_d, EVS]
  · unfold labsP
    cases allK (labOk sigs kind l) 0 l <;> simp only [EVS]
theorem okPin (x : Int × Bool) : okEl 2 (ePin x) = true := rfl
theorem p_r_l24All (b : PBurst) (hi : b.ins.length ≤ 1048576) (ho : b.outs.length ≤ 1048576) : s_r_l24All [eBurst b] = some (.lst ((b.ins ++ b.outs).map ePin)) := by
  show (fun x0 => s_r_l24All [x0]) _ = _
  rw [sh_r_l24All]
  have h1 : ([] : List PV).length + b.ins.length ≤ 4294967296 ∧ (b.ins.map ePin).all (okEl 2) = true := ⟨by simp; omega, by simp [okPin]⟩
  have h2 : b.ins.length + b.outs.length ≤ 4294967296 ∧ (b.outs.map ePin).all (okEl 2) = true := ⟨by omega, by simp [okPin]⟩
  have h3 : ([] : List PV) ++ b.ins.map ePin = b.ins.map ePin := List.nil_append _
  simp only [eBurst, if_pos h1, h3, if_pos h2, EVS]
  rw [List.map_append]
end Go.Proofs.Ytidjggipnfapfaa

namespace Go.Proofs.Ytidjggipnfapfaa
open Go.RowKit
set_option linter.unusedVariables false
set_option linter.unusedSimpArgs false
theorem hd_own (a : Bool) (e : TypeId) (s : Nat) (k : Kd) (sl : Option Nat) (l : List PV) (y : PV) (d : DV) : headV ⟨.ck (.own a e s), k, sl⟩ ⟨.lst l, y⟩ d = (bndV l.length (some d.v)).map fun h => .lst (l.take h) := (Eq.refl _).trans (Eq.refl _)
theorem bnd_0 (n : Nat) (k : IntKind) : bndV n (some (.int k 0)) = some 0 := by simp [bndV]
theorem zv_pos (te : TI) (k : Nat) (h0 : 0 < k) (h : k ≤ 4294967296) : zerosV te (pI (k : Int)) = some (.lst (List.replicate k (zeroPV te))) := by
  unfold zerosV
  simp only
  rw [if_pos (by omega)]
  simp
theorem nh_nil (k : IntKind) : nilHead (.lst []) (.int k 0) = some (.lst []) := rfl
theorem p_g_slices_Grow_Label (k : Nat) (hk : k ≤ 4294967296) : s_g_slices_Grow_Label [.lst [], pI k] = some (.lst []) := by
  show (fun x0 x1 => s_g_slices_Grow_Label [x0, x1]) _ _ = _
  rw [sh_g_slices_Grow_Label]
  have h0 : decide ((k : Int) < 0) = false := by simp
  have hw1 : IntKind.i64.wrap (0 - (([] : List PV).length : Int)) = 0 := by decide
  have hw2 : IntKind.i64.wrap ((k : Int) - 0) = (k : Int) := by rw [wrap_of (by omega) (by omega)]; omega
  have hl0 : ((([] : List PV).length : Nat) : Int) = 0 := rfl
  simp only [h0, hw1, hw2, EVS]
  by_cases hk0 : 0 < k
  · have h1 : decide ((0 : Int) < (k : Int)) = true := by simpa using hk0
    simp only [h1, hl0, nh_nil, zv_pos _ k hk0 hk, hd_own, bnd_0, List.take_zero, EVS]
  · have h1 : decide ((0 : Int) < (k : Int)) = false := by simpa using hk0
    simp only [h1, EVS]
theorem p_g_slices_Concat_Label (a b : List (Int × Bool)) (ha : a.length ≤ 1048576) (hb : b.length ≤ 1048576) : s_g_slices_Concat_Label [.lst [.lst (a.map ePin), .lst (b.map ePin)]] = some (.lst ((a ++ b).map ePin)) := by
  show (fun x0 => s_g_slices_Concat_Label [x0]) _ = _
  rw [sh_g_slices_Concat_Label]
  have hm : ∀ (k : Nat) (x : List (Int × Bool)), [a, b][k]? = some x → idxV (.lst [.lst (a.map ePin), .lst (b.map ePin)]) (.int .i64 (k : Int)) = some (.lst (x.map ePin)) := fun k x h => by
    have := idx_map (enc := fun l : List (Int × Bool) => PV.lst (l.map ePin)) (k := .i64) h
    exact this
  have hsz : ∀ (k : Nat) (x : List (Int × Bool)), [a, b][k]? = some x → x.length ≤ 1048576 ∧ k < 2 := fun k x h => by
    cases k with
    | zero => simp at h; subst h; exact ⟨ha, by omega⟩
    | succ k =>
      cases k with
      | zero => simp at h; subst h; exact ⟨hb, by omega⟩
      | succ k => simp at h
  simp only [List.length_cons, List.length_nil, Nat.zero_add, Nat.reduceAdd, EVS]
  refine (foldLoop (R := PV) [a, b] (fun (s : Nat) k => [pI (s : Int), pI (Int.ofNat k)]) (fun k s => s ≤ k * 1048576) (fun s _ x => .inl (s + x.length)) (fun _ => some (.lst ((a ++ b).map ePin))) _ (by simp) (fun s k x s' hs hx he => ?_) (fun again s k x hs hx => ?_) (fun again s hs => ?_) (b := 0) (by omega)).trans ?_
  · simp only [Sum.inl.injEq] at he
    subst he
    have := (hsz k x hx).1
    rw [Nat.succ_mul]
    omega
  · obtain ⟨h1, h2⟩ := hsz k x hx
    have h3 : decide ((k : Int) < (2 : Int)) = true := by simp only [decide_eq_true_eq]; omega
    have hw : IntKind.i64.wrap ((k : Int) + 1) = ((k + 1 : Nat) : Int) := by rw [wrap_of (by omega) (by omega)]; omega
    have hs2 : s ≤ 2 * 1048576 := Nat.le_trans hs (Nat.mul_le_mul_right _ (by omega))
    have hw2 : IntKind.i64.wrap ((s : Int) + (x.length : Int)) = ((s + x.length : Nat) : Int) := by rw [wrap_of (by omega) (by omega)]; omega
    have h4 : decide (((s + x.length : Nat) : Int) < 0) = false := by simp only [decide_eq_false_iff_not]; omega
    simp only [h3, hm k x hx, hw, hw2, h4, EVS]
  · have h3 : decide ((2 : Int) < (2 : Int)) = false := by decide
    have hs2 : s ≤ 2097152 := by simpa using hs
    clear hs
    simp only [List.length_cons, List.length_nil, Nat.zero_add, Nat.reduceAdd, h3, p_g_slices_Grow_Label s (by omega), EVS]
    refine (foldLoop (R := PV) [a, b] (fun (s : List (Int × Bool)) k => [.lst (s.map ePin), pI (Int.ofNat k)]) (fun k s => s.length ≤ k * 1048576) (fun s _ x => .inl (s ++ x)) (fun s => some (.lst (s.map ePin))) _ (by simp) (fun s k x s' hs hx he => ?_) (fun again s k x hs hx => ?_) (fun again s hs => ?_) (b := []) (by simp)).trans ?_
    · simp only [Sum.inl.injEq] at he
      subst he
      have := (hsz k x hx).1
      rw [Nat.succ_mul, List.length_append]
      omega
    · obtain ⟨h1, h2⟩ := hsz k x hx
      have h3 : decide ((k : Int) < (2 : Int)) = true := by simp only [decide_eq_true_eq]; omega
      have hw : IntKind.i64.wrap ((k : Int) + 1) = ((k + 1 : Nat) : Int) := by rw [wrap_of (by omega) (by omega)]; omega
      have hs2 : s.length ≤ 2 * 1048576 := Nat.le_trans hs (Nat.mul_le_mul_right _ (by omega))
      have h4 : s.length + x.length ≤ 4294967296 ∧ (x.map ePin).all (okEl 2) = true := ⟨by omega, by simp [okPin]⟩
      simp only [h3, hm k x hx, hw, if_pos h4, EVS]
      rw [List.map_append]
    · simp only [List.length_cons, List.length_nil, Nat.zero_add, Nat.reduceAdd, h3, EVS]
    · simp [foldGo]
  · rfl
theorem p_i_Burst_labels (b : PBurst) (hi : b.ins.length ≤ 1048576) (ho : b.outs.length ≤ 1048576) : s_i_Burst_labels [eBurst b] = some (.lst ((b.ins ++ b.outs).map ePin)) := by
  show (fun x0 => s_i_Burst_labels [x0]) _ = _
  rw [sh_i_Burst_labels]
  simp only [eBurst, p_g_slices_Concat_Label b.ins b.outs hi ho, EVS]
/-- A code behind labels. -/
def turnP : List UInt8 → List (Int × Bool) → Option (List UInt8)
  | c, [] => some c
  | c, x :: r => if (decide (c[x.1.toNat]? = some 48) == x.2) = true then turnP (c.set x.1.toNat (bitU x.2)) r else none
def turnV : Option (List UInt8) → PV
  | some c => .tup [.str c, pB true]
  | none => .tup [.str [], pB false]
theorem turn_fold (z : Option PV) : ∀ (l : List (Int × Bool)) (k : Nat) (c : List UInt8), foldGo (R := PV) (fun (c : List UInt8) _ x => if (decide (c[x.1.toNat]? = some 48) == x.2) = true then .inl (c.set x.1.toNat (bitU x.2)) else .inr (some (turnV none))) (fun c => some (turnV (some c))) k c l = some (turnV (turnP c l))
  | [], k, c => rfl
  | x :: r, k, c => by
    unfold foldGo turnP
    by_cases h : (decide (c[x.1.toNat]? = some 48) == x.2) = true
    · rw [if_pos h, if_pos h]
      exact turn_fold z r (k + 1) _
    · rw [if_neg h, if_neg h]
theorem p_r_l24Turned (c : List UInt8) (b : PBurst) (n : Nat) (hn : n ≤ 8) (hc : bitsP c n = true) (hi : b.ins.length ≤ 1048576) (ho : b.outs.length ≤ 1048576) (hs : ∀ x ∈ b.ins ++ b.outs, 0 ≤ x.1 ∧ x.1 < n) : s_r_l24Turned [.str c, eBurst b] = some (turnV (turnP c (b.ins ++ b.outs))) := by
  have g1 := p_r_l24All b hi ho
  simp only [eBurst] at g1
  show (fun x0 x1 => s_r_l24Turned [x0, x1]) _ _ = _
  rw [sh_r_l24Turned]
  obtain ⟨l, hl⟩ : ∃ l, b.ins ++ b.outs = l := ⟨_, rfl⟩
  have hll : l.length ≤ 2097152 := by rw [← hl, List.length_append]; omega
  rw [hl] at g1 hs ⊢
  simp only [eBurst, g1, EVS]
  refine (congrArg (fun m : Option PV => m.bind fun r => if r.sc = true then some r else none) (foldLoop (R := PV) l (fun (c : List UInt8) k => [.str c, pI (Int.ofNat k)]) (fun _ c => bitsP c n = true) (fun (c : List UInt8) _ x => if (decide (c[x.1.toNat]? = some 48) == x.2) = true then .inl (c.set x.1.toNat (bitU x.2)) else .inr (some (turnV none))) (fun c => some (turnV (some c))) _ (by omega) (fun c k x c' hc hx he => ?_) (fun again c k x hc hx => ?_) (fun again c hc => ?_) (b := c) hc)).trans ?_
  · split at he
    · cases he; exact bits_set hc _
    · cases he
  · have hk := lt_of_some hx
    obtain ⟨h1, h2⟩ := hs x (List.mem_of_getElem? hx)
    obtain ⟨j, hj⟩ : ∃ j : Nat, x.1 = j := ⟨x.1.toNat, by omega⟩
    have hcl := (bitsP_iff.1 hc).2
    have hjc : j < c.length := by omega
    have hp : plcV (l.map ePin) (.int .i64 (k : Int)) = some (.int .i64 (k : Int)) := plc_at (by rw [List.length_map]; exact hk)
    have hg : (l.map ePin)[k]? = some (ePin x) := by rw [List.getElem?_map, hx]; rfl
    have hb := byteV_at (k := .i64) (List.getElem?_eq_getElem hjc)
    have h5 := p_r_l5Set c j (bitU x.2) hjc (by unfold Fits; omega)
    have h48 : decide (((c[j]).toNat : Int) = 48) = decide (c[j]? = some 48) := by
      rw [List.getElem?_eq_getElem hjc, Bool.eq_iff_iff, decide_eq_true_eq, decide_eq_true_eq, Option.some.injEq]
      have : (48 : UInt8).toNat = 48 := rfl
      constructor
      · intro h; exact UInt8.toNat_inj.1 (by omega)
      · rintro h; rw [h]; rfl
    simp only [lt_d hk, next_w hk (show l.length ≤ 9223372036854775807 by omega), hp, hg, ePin, hj, hb, h48, p_r_l5Bit, h5, EVS]
    cases (decide (c[j]? = some 48) == x.2) <;> simp only [EVS] <;> rfl
  · simp only [ge_d, EVS]
    rfl
  · rw [turn_fold none]
    cases turnP c l <;> rfl
end Go.Proofs.Ytidjggipnfapfaa

namespace Go.Proofs.Ytidjggipnfapfaa
open Go.RowKit
set_option linter.unusedVariables false
set_option linter.unusedSimpArgs false
theorem convB_s (s : List UInt8) (h : s.length ≤ 9223372036854775807) : convB (.str s) = some (.lst (s.map pU)) := by
  unfold convB
  simp only
  rw [if_pos h]
theorem se_int (k k' : IntKind) (m n : Int) : storeEl 0 1 [.int k m] (.int k m) (.int k' n) = some (.int k' n) := rfl
theorem set_map {α : Type} (f : α → PV) (l : List α) (i : Nat) (x : α) : (l.map f).set i (f x) = (l.set i x).map f := by rw [List.map_set]
theorem turn_bit {b : UInt8} (u : Bool) (h : bitB b = true) : decide ((b.toNat : Int) = ((bitU (!u)).toNat : Int)) = (decide (b = 48) == u) := by
  rcases (bitB_iff b).1 h with rfl | rfl <;> cases u <;> decide
theorem p_i_switchedCode (c : List UInt8) (l : List (Int × Bool)) (n : Nat) (hn : n ≤ 8) (hc : bitsP c n = true) (hll : l.length ≤ 2097152) (hs : ∀ x ∈ l, 0 ≤ x.1 ∧ x.1 < n) : s_i_switchedCode [.str c, .lst (l.map ePin)] = some (turnV (turnP c l)) := by
  show (fun x0 x1 => s_i_switchedCode [x0, x1]) _ _ = _
  rw [sh_i_switchedCode]
  simp only [convB_s c (by have := (bitsP_iff.1 hc).2; omega), EVS]
  refine (congrArg (fun m : Option PV => m.bind fun r => if r.sc = true then some r else none) (foldLoop (R := PV) l (fun (c : List UInt8) k => [.lst (c.map pU), pI (Int.ofNat k)]) (fun _ c => bitsP c n = true) (fun (c : List UInt8) _ x => if (decide (c[x.1.toNat]? = some 48) == x.2) = true then .inl (c.set x.1.toNat (bitU x.2)) else .inr (some (turnV none))) (fun c => some (turnV (some c))) _ (by omega) (fun c k x c' hc hx he => ?_) (fun again c k x hc hx => ?_) (fun again c hc => ?_) (b := c) hc)).trans ?_
  · split at he
    · cases he; exact bits_set hc _
    · cases he
  · have hk := lt_of_some hx
    obtain ⟨h1, h2⟩ := hs x (List.mem_of_getElem? hx)
    obtain ⟨j, hj⟩ : ∃ j : Nat, x.1 = j := ⟨x.1.toNat, by omega⟩
    obtain ⟨hcb, hcl⟩ := bitsP_iff.1 hc
    have hjc : j < c.length := by omega
    have hi : idxV (.lst (l.map ePin)) (.int .i64 (k : Int)) = some (ePin x) := idx_map hx
    have hp : plcV (c.map pU) (.int .i64 (j : Int)) = some (.int .i64 (j : Int)) := plc_at (by rw [List.length_map]; exact hjc)
    have hg : (c.map pU)[j]? = some (pU c[j]) := by rw [List.getElem?_map, List.getElem?_eq_getElem hjc]; rfl
    have hb := turn_bit x.2 (hcb c[j] (List.getElem_mem hjc))
    have hst : (c.map pU).set j (.int .u8 ((bitU x.2).toNat : Int)) = (c.set j (bitU x.2)).map pU := set_map pU c j (bitU x.2)
    simp only [lt_d hk, next_w hk (show l.length ≤ 9223372036854775807 by omega), hi, ePin, hj, hp, hg, p_i_bit, hb, se_int, hst, EVS]
    rw [List.getElem?_eq_getElem hjc]
    have e : decide (some c[j] = some 48) = decide (c[j] = 48) := by rw [Bool.eq_iff_iff]; simp
    rw [e]
    cases (decide (c[j] = 48) == x.2) <;> simp only [EVS] <;> rfl
  · simp only [ge_d, bytesOf_map, EVS]
    rfl
  · rw [turn_fold none]
    cases turnP c l <;> rfl
/-- One burst: the codes behind it; none where it does not fit. -/
def stepB (cs : List (List UInt8)) (b : PBurst) : Option (List (List UInt8)) :=
  if cs.getD b.from_.toNat [] = [] then some cs
  else match turnP (cs.getD b.from_.toNat []) (b.ins ++ b.outs) with
    | none => none
    | some nx => if cs.getD b.to_.toNat [] ≠ [] ∧ cs.getD b.to_.toNat [] ≠ nx then none else some (cs.set b.to_.toNat nx)
def passP : List PBurst → List (List UInt8) → Option (List (List UInt8))
  | [], cs => some cs
  | b :: r, cs => (stepB cs b).bind (passP r)
def iterP (bs : List PBurst) : Nat → List (List UInt8) → Option (List (List UInt8))
  | 0, cs => some cs
  | k + 1, cs => (passP bs cs).bind (iterP bs k)
def codesM (m : PMach) : Option (List (List UInt8)) := iterP m.bursts m.states.toNat ((List.replicate m.states.toNat []).set 0 m.first)
structure CodesOk (n S : Nat) (cs : List (List UInt8)) : Prop where
  len : cs.length = S
  bits : ∀ c ∈ cs, c = [] ∨ bitsP c n = true
structure BurstOk (n S : Nat) (b : PBurst) : Prop where
  fr : 0 ≤ b.from_ ∧ b.from_ < S
  t : 0 ≤ b.to_ ∧ b.to_ < S
  ni : b.ins.length ≤ 1048576
  no : b.outs.length ≤ 1048576
  sig : ∀ x ∈ b.ins ++ b.outs, 0 ≤ x.1 ∧ x.1 < n
theorem turnP_bits {n : Nat} : ∀ (l : List (Int × Bool)) (c d : List UInt8), bitsP c n = true → turnP c l = some d → bitsP d n = true
  | [], c, d, h, e => by cases e; exact h
  | x :: r, c, d, h, e => by
    unfold turnP at e
    split at e
    · exact turnP_bits r _ d (bits_set h _) e
    · cases e
theorem stepB_ok {n S : Nat} {cs cs' : List (List UInt8)} {b : PBurst} (hb : BurstOk n S b) (h : CodesOk n S cs) (e : stepB cs b = some cs') : CodesOk n S cs' := by
  unfold stepB at e
  split at e
  · cases e; exact h
  · rename_i hne
    split at e
    · cases e
    · rename_i nx ht
      split at e
      · cases e
      · cases e
        have hfl : b.from_.toNat < cs.length := by rw [h.len]; have := hb.fr; omega
        have hbf : bitsP (cs.getD b.from_.toNat []) n = true := by
          rw [List.getD_eq_getElem?_getD, List.getElem?_eq_getElem hfl] at hne ⊢
          rcases h.bits _ (List.getElem_mem hfl) with e | e
          · exact absurd e hne
          · exact e
        refine ⟨by rw [List.length_set]; exact h.len, fun c hc => ?_⟩
        rcases List.mem_or_eq_of_mem_set hc with hc | rfl
        · exact h.bits c hc
        · exact .inr (turnP_bits _ _ _ hbf ht)
end Go.Proofs.Ytidjggipnfapfaa

namespace Go.Proofs.Ytidjggipnfapfaa
open Go.RowKit
set_option linter.unusedVariables false
set_option linter.unusedSimpArgs false
theorem se_str (a b : List UInt8) : storeEl 0 1 [.str a] (.str a) (.str b) = some (.str b) := rfl
theorem pass_fold (F : Option PV) (E : List (List UInt8) → Option PV) : ∀ (l : List PBurst) (k : Nat) (cs : List (List UInt8)), foldGo (R := PV) (fun (cs : List (List UInt8)) _ b => match stepB cs b with | some cs' => .inl cs' | none => .inr F) E k cs l = match passP l cs with | some cs' => E cs' | none => F
  | [], k, cs => rfl
  | b :: r, k, cs => by
    unfold foldGo passP
    cases stepB cs b with
    | none => rfl
    | some cs' => exact pass_fold F E r (k + 1) cs'
theorem passP_ok {n S : Nat} : ∀ (l : List PBurst) (cs cs' : List (List UInt8)), (∀ b ∈ l, BurstOk n S b) → CodesOk n S cs → passP l cs = some cs' → CodesOk n S cs'
  | [], cs, cs', _, h, e => by cases e; exact h
  | b :: r, cs, cs', hb, h, e => by
    unfold passP at e
    obtain ⟨c1, e1, e2⟩ := Option.bind_eq_some_iff.1 e
    exact passP_ok r c1 cs' (fun b hb' => hb b (by simp [hb'])) (stepB_ok (hb b (by simp)) h e1) e2
structure MachFit (n S : Nat) (m : PMach) : Prop where
  n8 : n ≤ 8
  st : m.states = S
  s1 : 1 ≤ S ∧ S ≤ 6
  nb : m.bursts.length ≤ 6
  bursts : ∀ b ∈ m.bursts, BurstOk n S b
  first : bitsP m.first n = true
theorem codes0_ok {n S : Nat} {m : PMach} (h : MachFit n S m) : CodesOk n S ((List.replicate S []).set 0 m.first) := by
  refine ⟨by simp, fun c hc => ?_⟩
  rcases List.mem_or_eq_of_mem_set hc with hc | rfl
  · obtain ⟨_, rfl⟩ := List.mem_replicate.1 hc; exact .inl rfl
  · exact .inr h.first
theorem p_r_l24Codes (m : PMach) (n S : Nat) (h : MachFit n S m) : s_r_l24Codes [eMach m] = some (match codesM m with | some cs => .tup [.lst (cs.map PV.str), pB true] | none => .tup [.lst [], pB false]) := by
  have hS : m.states.toNat = S := by rw [h.st]; simp
  unfold codesM
  rw [hS]
  have hmk := mk_v (TI.mk 1 16 TD.str [ZC.str] [] false) S (by have := h.s1; omega)
  have hz : zeroPV (TI.mk 1 16 TD.str [ZC.str] [] false) = .str [] := rfl
  rw [hz] at hmk
  obtain ⟨T, rfl⟩ : ∃ T, S = T + 1 := ⟨S - 1, by have := h.s1; omega⟩
  have hp0 : plcV (List.replicate (T + 1) (PV.str [])) (.int .i64 ((0 : Nat) : Int)) = some (.int .i64 ((0 : Nat) : Int)) := plc_at (by simp)
  have hg0 : (List.replicate (T + 1) (PV.str []))[0]? = some (.str []) := rfl
  have hs0 : (List.replicate (T + 1) (PV.str [])).set 0 (.str m.first) = ((List.replicate (T + 1) []).set 0 m.first).map PV.str := by rw [← set_map, List.map_replicate]
  have ht0 : Int.toNat 0 = 0 := rfl
  have hS6 : T + 1 ≤ 6 := h.s1.2
  show (fun x0 => s_r_l24Codes [x0]) _ = _
  rw [sh_r_l24Codes]
  simp only [Int.natCast_zero] at hp0
  have hc0 := codes0_ok h
  have hlen0 := hc0.len
  simp only [eMach, h.st, hmk, hp0, ht0, hg0, se_str, hs0, hlen0, EVS]
  obtain ⟨c0, hcs0⟩ : ∃ c0, (List.replicate (T + 1) ([] : List UInt8)).set 0 m.first = c0 := ⟨_, rfl⟩
  rw [hcs0] at hc0 ⊢
  have key := loopR_go (R := PV) (fun q : {q : List (List UInt8) × Nat // CodesOk n (T + 1) q.1 ∧ q.2 ≤ T + 1} => [.lst (q.1.1.map PV.str), pI (Int.ofNat q.1.2)]) (fun q => T + 2 - q.1.2) (fun q => some (match iterP m.bursts (T + 1 - q.1.2) q.1.1 with | some cs => PV.tup [.lst (cs.map PV.str), pB true] | none => .tup [.lst [], pB false]))
  refine (key _ (fun again q ih => ?_) 18446744073709551616 ⟨(c0, 0), hc0, by omega⟩ (by simp only; omega)).trans ?_
  · obtain ⟨⟨cs, i⟩, hok, hi⟩ := q
    dsimp only at ih hok hi ⊢
    by_cases c1 : i < T + 1
    · have h1 : decide ((i : Int) < ((T + 1 : Nat) : Int)) = true := by simp only [decide_eq_true_eq]; omega
      have hw : IntKind.i64.wrap ((i : Int) + 1) = ((i + 1 : Nat) : Int) := by rw [wrap_of (by omega) (by omega)]; omega
      have hnb := h.nb
      simp only [h1, EVS]
      refine (foldLoop (R := PV) m.bursts (fun (cs : List (List UInt8)) k => [.lst (cs.map PV.str), pI (Int.ofNat k)]) (fun _ cs => CodesOk n (T + 1) cs) (fun (cs : List (List UInt8)) _ b => match stepB cs b with | some cs' => .inl cs' | none => .inr (some (.tup [.lst [], pB false]))) (fun cs => again [.lst (cs.map PV.str), pI (Int.ofNat (i + 1))]) _ (by omega) (fun cs k b cs' hcs hb he => ?_) (fun again' cs k b hcs hb => ?_) (fun again' cs hcs => ?_) (b := cs) hok).trans ?_
      · have hbo := h.bursts b (List.mem_of_getElem? hb)
        cases hst : stepB cs b with
        | none => rw [hst] at he; cases he
        | some c2 => rw [hst] at he; cases he; exact stepB_ok hbo hcs hst
      · have hk := lt_of_some hb
        have hbo := h.bursts b (List.mem_of_getElem? hb)
        have hib : idxV (.lst (m.bursts.map eBurst)) (.int .i64 (k : Int)) = some (eBurst b) := idx_map hb
        obtain ⟨f, hf⟩ : ∃ f : Nat, b.from_ = f := ⟨b.from_.toNat, by have := hbo.fr; omega⟩
        obtain ⟨t, ht⟩ : ∃ t : Nat, b.to_ = t := ⟨b.to_.toNat, by have := hbo.t; omega⟩
        have hfl : f < cs.length := by rw [hcs.len]; have := hbo.fr; omega
        have htl : t < cs.length := by rw [hcs.len]; have := hbo.t; omega
        have hp1 : plcV (cs.map PV.str) (.int .i64 (f : Int)) = some (.int .i64 (f : Int)) := plc_at (by rw [List.length_map]; exact hfl)
        have hg1 : (cs.map PV.str)[f]? = some (.str cs[f]) := by rw [List.getElem?_map, List.getElem?_eq_getElem hfl]; rfl
        have hp2 : plcV (cs.map PV.str) (.int .i64 (t : Int)) = some (.int .i64 (t : Int)) := plc_at (by rw [List.length_map]; exact htl)
        have hg2 : (cs.map PV.str)[t]? = some (.str cs[t]) := by rw [List.getElem?_map, List.getElem?_eq_getElem htl]; rfl
        have hgf : cs.getD f [] = cs[f] := by rw [List.getD_eq_getElem?_getD, List.getElem?_eq_getElem hfl]; rfl
        have hgt : cs.getD t [] = cs[t] := by rw [List.getD_eq_getElem?_getD, List.getElem?_eq_getElem htl]; rfl
        have hk2 := lt_d hk
        have hw2 := next_w hk (show m.bursts.length ≤ 9223372036854775807 by omega)
        have hl1 := hbo.ni
        have hl2 := hbo.no
        simp only [stepB, hf, ht, Int.toNat_natCast, hgf, hgt]
        by_cases c2 : cs[f] = []
        · have hd : decide (cs[f] = []) = true := by simpa using c2
          simp only [hk2, hw2, hib, eBurst, hf, ht, hp1, hg1, hd, if_pos c2, EVS]
        · have hd : decide (cs[f] = []) = false := by simpa using c2
          have hbf : bitsP cs[f] n = true := (hcs.bits _ (List.getElem_mem hfl)).resolve_left c2
          have g1 := p_r_l24Turned cs[f] b n h.n8 hbf hl1 hl2 hbo.sig
          simp only [eBurst, hf, ht] at g1
          rw [if_neg c2]
          cases hturn : turnP cs[f] (b.ins ++ b.outs) with
          | none =>
            rw [hturn] at g1
            simp only [turnV] at g1
            simp only [hk2, hw2, hib, eBurst, hf, ht, hp1, hg1, hd, g1, EVS]
          | some nx =>
            rw [hturn] at g1
            simp only [turnV] at g1
            have hset : (cs.map PV.str).set t (.str nx) = (cs.set t nx).map PV.str := set_map PV.str cs t nx
            by_cases c3 : cs[t] = []
            · have hd3 : decide (cs[t] = []) = true := by simpa using c3
              simp only [hk2, hw2, hib, eBurst, hf, ht, hp1, hg1, hp2, hg2, hd, hd3, g1, se_str, hset, c3, ne_eq, not_true_eq_false, false_and, if_false, EVS]
            · have hd3 : decide (cs[t] = []) = false := by simpa using c3
              by_cases c4 : cs[t] = nx
              · have hd4 : decide (cs[t] = nx) = true := by simpa using c4
                have hnot : ¬ (cs[t] ≠ [] ∧ cs[t] ≠ nx) := fun h => h.2 c4
                simp only [hk2, hw2, hib, eBurst, hf, ht, hp1, hg1, hp2, hg2, hd, hd3, hd4, g1, se_str, hset, if_neg hnot, EVS]
              · have hd4 : decide (cs[t] = nx) = false := by simpa using c4
                have hand : cs[t] ≠ [] ∧ cs[t] ≠ nx := ⟨c3, c4⟩
                simp only [hk2, hw2, hib, eBurst, hf, ht, hp1, hg1, hp2, hg2, hd, hd3, hd4, g1, if_pos hand, EVS]
      · simp only [ge_d, hw, EVS]
      · rw [pass_fold]
        rw [show T + 1 - i = (T + 1 - (i + 1)) + 1 by omega]
        unfold iterP
        cases hpass : passP m.bursts cs with
        | none => rfl
        | some c2 => exact ih ⟨(c2, i + 1), passP_ok m.bursts cs c2 h.bursts hok hpass, by omega⟩ (by simp only; omega)
    · obtain rfl : i = T + 1 := by omega
      have h1 : decide (((T + 1 : Nat) : Int) < ((T + 1 : Nat) : Int)) = false := by simp
      simp only [h1, EVS]
      rw [Nat.sub_self]
      rfl
  · rfl
theorem p_i_codesOf (m : PMach) (n S : Nat) (h : MachFit n S m) : s_i_codesOf [eMach m] = some (match codesM m with | some cs => .tup [.lst (cs.map PV.str), pB (!cs.any fun a => decide (([] : List UInt8) = a))] | none => .tup [.lst [], pB false]) := by
  have hS : m.states.toNat = S := by rw [h.st]; simp
  unfold codesM
  rw [hS]
  have hmk := mk_v (TI.mk 1 16 TD.str [ZC.str] [] false) S (by have := h.s1; omega)
  have hz : zeroPV (TI.mk 1 16 TD.str [ZC.str] [] false) = .str [] := rfl
  rw [hz] at hmk
  obtain ⟨T, rfl⟩ : ∃ T, S = T + 1 := ⟨S - 1, by have := h.s1; omega⟩
  have hp0 : plcV (List.replicate (T + 1) (PV.str [])) (.int .i64 ((0 : Nat) : Int)) = some (.int .i64 ((0 : Nat) : Int)) := plc_at (by simp)
  have hg0 : (List.replicate (T + 1) (PV.str []))[0]? = some (.str []) := rfl
  have hs0 : (List.replicate (T + 1) (PV.str [])).set 0 (.str m.first) = ((List.replicate (T + 1) []).set 0 m.first).map PV.str := by rw [← set_map, List.map_replicate]
  have ht0 : Int.toNat 0 = 0 := rfl
  have hS6 : T + 1 ≤ 6 := h.s1.2
  show (fun x0 => s_i_codesOf [x0]) _ = _
  rw [sh_i_codesOf]
  simp only [Int.natCast_zero] at hp0
  have hc0 := codes0_ok h
  have hlen0 := hc0.len
  simp only [eMach, h.st, hmk, hp0, ht0, hg0, se_str, hs0, hlen0, EVS]
  obtain ⟨c0, hcs0⟩ : ∃ c0, (List.replicate (T + 1) ([] : List UInt8)).set 0 m.first = c0 := ⟨_, rfl⟩
  rw [hcs0] at hc0 ⊢
  have key := loopR_go (R := PV) (fun q : {q : List (List UInt8) × Nat // CodesOk n (T + 1) q.1 ∧ q.2 ≤ T + 1} => [.lst (q.1.1.map PV.str), pI (Int.ofNat q.1.2)]) (fun q => T + 2 - q.1.2) (fun q => some (match iterP m.bursts (T + 1 - q.1.2) q.1.1 with | some cs => PV.tup [.lst (cs.map PV.str), pB (!cs.any fun a => decide (([] : List UInt8) = a))] | none => .tup [.lst [], pB false]))
  refine (key _ (fun again q ih => ?_) 18446744073709551616 ⟨(c0, 0), hc0, by omega⟩ (by simp only; omega)).trans ?_
  · obtain ⟨⟨cs, i⟩, hok, hi⟩ := q
    dsimp only at ih hok hi ⊢
    by_cases c1 : i < T + 1
    · have h1 : decide ((i : Int) < ((T + 1 : Nat) : Int)) = true := by simp only [decide_eq_true_eq]; omega
      have hw : IntKind.i64.wrap ((i : Int) + 1) = ((i + 1 : Nat) : Int) := by rw [wrap_of (by omega) (by omega)]; omega
      have hnb := h.nb
      simp only [h1, EVS]
      refine (foldLoop (R := PV) m.bursts (fun (cs : List (List UInt8)) k => [.lst (cs.map PV.str), pI (Int.ofNat k)]) (fun _ cs => CodesOk n (T + 1) cs) (fun (cs : List (List UInt8)) _ b => match stepB cs b with | some cs' => .inl cs' | none => .inr (some (.tup [.lst [], pB false]))) (fun cs => again [.lst (cs.map PV.str), pI (Int.ofNat (i + 1))]) _ (by omega) (fun cs k b cs' hcs hb he => ?_) (fun again' cs k b hcs hb => ?_) (fun again' cs hcs => ?_) (b := cs) hok).trans ?_
      · have hbo := h.bursts b (List.mem_of_getElem? hb)
        cases hst : stepB cs b with
        | none => rw [hst] at he; cases he
        | some c2 => rw [hst] at he; cases he; exact stepB_ok hbo hcs hst
      · have hk := lt_of_some hb
        have hbo := h.bursts b (List.mem_of_getElem? hb)
        have hib : idxV (.lst (m.bursts.map eBurst)) (.int .i64 (k : Int)) = some (eBurst b) := idx_map hb
        obtain ⟨f, hf⟩ : ∃ f : Nat, b.from_ = f := ⟨b.from_.toNat, by have := hbo.fr; omega⟩
        obtain ⟨t, ht⟩ : ∃ t : Nat, b.to_ = t := ⟨b.to_.toNat, by have := hbo.t; omega⟩
        have hfl : f < cs.length := by rw [hcs.len]; have := hbo.fr; omega
        have htl : t < cs.length := by rw [hcs.len]; have := hbo.t; omega
        have hp1 : plcV (cs.map PV.str) (.int .i64 (f : Int)) = some (.int .i64 (f : Int)) := plc_at (by rw [List.length_map]; exact hfl)
        have hg1 : (cs.map PV.str)[f]? = some (.str cs[f]) := by rw [List.getElem?_map, List.getElem?_eq_getElem hfl]; rfl
        have hp2 : plcV (cs.map PV.str) (.int .i64 (t : Int)) = some (.int .i64 (t : Int)) := plc_at (by rw [List.length_map]; exact htl)
        have hg2 : (cs.map PV.str)[t]? = some (.str cs[t]) := by rw [List.getElem?_map, List.getElem?_eq_getElem htl]; rfl
        have hgf : cs.getD f [] = cs[f] := by rw [List.getD_eq_getElem?_getD, List.getElem?_eq_getElem hfl]; rfl
        have hgt : cs.getD t [] = cs[t] := by rw [List.getD_eq_getElem?_getD, List.getElem?_eq_getElem htl]; rfl
        have hk2 := lt_d hk
        have hw2 := next_w hk (show m.bursts.length ≤ 9223372036854775807 by omega)
        have hl1 := hbo.ni
        have hl2 := hbo.no
        simp only [stepB, hf, ht, Int.toNat_natCast, hgf, hgt]
        by_cases c2 : cs[f] = []
        · have hd : decide (cs[f] = []) = true := by simpa using c2
          simp only [hk2, hw2, hib, eBurst, hf, ht, hp1, hg1, hd, if_pos c2, EVS]
        · have hd : decide (cs[f] = []) = false := by simpa using c2
          have hbf : bitsP cs[f] n = true := (hcs.bits _ (List.getElem_mem hfl)).resolve_left c2
          have g0 := p_i_Burst_labels b hl1 hl2
          simp only [eBurst, hf, ht] at g0
          have g1 := p_i_switchedCode cs[f] (b.ins ++ b.outs) n h.n8 hbf (by rw [List.length_append]; omega) hbo.sig
          rw [if_neg c2]
          cases hturn : turnP cs[f] (b.ins ++ b.outs) with
          | none =>
            rw [hturn] at g1
            simp only [turnV] at g1
            simp only [hk2, hw2, hib, eBurst, hf, ht, hp1, hg1, hd, g0, g1, EVS]
          | some nx =>
            rw [hturn] at g1
            simp only [turnV] at g1
            have hset : (cs.map PV.str).set t (.str nx) = (cs.set t nx).map PV.str := set_map PV.str cs t nx
            by_cases c3 : cs[t] = []
            · have hd3 : decide (cs[t] = []) = true := by simpa using c3
              simp only [hk2, hw2, hib, eBurst, hf, ht, hp1, hg1, hp2, hg2, hd, hd3, g0, g1, se_str, hset, c3, ne_eq, not_true_eq_false, false_and, if_false, EVS]
            · have hd3 : decide (cs[t] = []) = false := by simpa using c3
              by_cases c4 : cs[t] = nx
              · have hd4 : decide (cs[t] = nx) = true := by simpa using c4
                have hnot : ¬ (cs[t] ≠ [] ∧ cs[t] ≠ nx) := fun h => h.2 c4
                simp only [hk2, hw2, hib, eBurst, hf, ht, hp1, hg1, hp2, hg2, hd, hd3, hd4, g0, g1, se_str, hset, if_neg hnot, EVS]
              · have hd4 : decide (cs[t] = nx) = false := by simpa using c4
                have hand : cs[t] ≠ [] ∧ cs[t] ≠ nx := ⟨c3, c4⟩
                simp only [hk2, hw2, hib, eBurst, hf, ht, hp1, hg1, hp2, hg2, hd, hd3, hd4, g0, g1, if_pos hand, EVS]
      · simp only [ge_d, hw, EVS]
      · rw [pass_fold]
        rw [show T + 1 - i = (T + 1 - (i + 1)) + 1 by omega]
        unfold iterP
        cases hpass : passP m.bursts cs with
        | none => rfl
        | some c2 => exact ih ⟨(c2, i + 1), passP_ok m.bursts cs c2 h.bursts hok hpass, by omega⟩ (by simp only; omega)
    · obtain rfl : i = T + 1 := by omega
      have h1 : decide (((T + 1 : Nat) : Int) < ((T + 1 : Nat) : Int)) = false := by simp
      have g2 := p_g_slices_Contains_string cs [] (by unfold Fits; have := hok.len; omega)
      simp only [h1, g2, EVS]
      rw [Nat.sub_self]
      rfl
  · rfl
end Go.Proofs.Ytidjggipnfapfaa

namespace Go.Proofs.Ytidjggipnfapfaa
open Go.RowKit
set_option linter.unusedVariables false
set_option linter.unusedSimpArgs false
def BdSignal (m : Nat) (a : List UInt8 × Int) : Prop := (a.1).length ≤ m
theorem sz_Signal (a : List UInt8 × Int) (l : Int) (hb : BdSignal 9223372036854775807 a) (h0 : 0 ≤ l) (h1 : l ≤ 1048576) : SzOk (s_w_szSignal [eSig a, pI l]) l (BdSignal 1048576 a) := by
  have b0 := hb
  unfold BdSignal at b0
  unfold BdSignal
  show SzOk ((fun x0 x1 => s_w_szSignal [x0, x1]) _ _) _ _
  rw [sh_w_szSignal]
  simp only [eSig, EVS]
  have w0 : IntKind.i64.wrap (l - (a.1.length : Int)) = (l - (a.1.length : Int)) := wrap_of (by omega) (by omega)
  simp only [w0, EVS]
  by_cases c0 : (l - (a.1.length : Int)) < 0
  · simp only [c0, EVS]; exact SzOk.neg h0
  simp only [c0, EVS]
  have q0 : 0 ≤ (l - (a.1.length : Int)) ∧ (l - (a.1.length : Int)) ≤ l := by omega
  exact SzOk.pos (by omega) (by omega)
theorem to_Signal (a : List UInt8 × Int) (hb : BdSignal 1048576 a) : s_w_toSignal [eSig a] = some (eSig a) := by
  have b0 := hb
  unfold BdSignal at b0
  show (fun x0 => s_w_toSignal [x0]) _ = _
  rw [sh_w_toSignal]
  simp only [eSig, EVS]
theorem eq_Signal (a : List UInt8 × Int) (hb : BdSignal 9223372036854775807 a) : s_w_eqSignal [eSig a, eSig a] = some (pB true) := by
  have b0 := hb
  unfold BdSignal at b0
  show (fun x0 x1 => s_w_eqSignal [x0, x1]) _ _ = _
  rw [sh_w_eqSignal]
  simp only [eSig, beq_self_eq_true, EVS]
theorem sz_SignalS (xs : List (List UInt8 × Int)) (l : Int) (hb : ((xs).length ≤ 9223372036854775807 ∧ ∀ x ∈ xs, BdSignal 9223372036854775807 x)) (h0 : 0 ≤ l) (h1 : l ≤ 1048576) : SzOk (s_w_szSignalS [.lst (xs.map eSig), pI l]) l (((xs).length ≤ 1048576 ∧ ∀ x ∈ xs, BdSignal 1048576 x)) := by
  have hx : xs.length ≤ 9223372036854775807 := hb.1
  show SzOk ((fun x0 x1 => s_w_szSignalS [x0, x1]) _ _) _ _
  rw [sh_w_szSignalS]
  have w1 : IntKind.i64.wrap (l - (xs.length : Int)) = l - (xs.length : Int) := wrap_of (by omega) (by omega)
  simp only [w1, List.length_map, EVS]
  by_cases c : l - (xs.length : Int) < 0
  · simp only [c, EVS]; exact SzOk.neg h0
  · simp only [c, EVS]
    refine (SzOk.sc (szLoop xs (fun x => BdSignal 1048576 x) _ hx (fun again k x l' hk h2 h3 => ?_) (fun again l' => ?_) (by omega) (by omega))).mono (by omega) (fun h => ⟨by omega, h⟩)
    · have hi : idxV (.lst (xs.map eSig)) (.int .i64 (k : Int)) = some ((eSig x)) := idx_map hk
      obtain ⟨r, g1, g2, g3⟩ := sz_Signal x l' (hb.2 x (List.mem_of_getElem? hk)) h2 h3
      refine ⟨r, g2, g3, ?_⟩
      simp only [eSig] at g1 hi
      simp only [lt_d (lt_of_some hk), next_w (lt_of_some hk) hx, hi, g1, EVS]
      by_cases c2 : r < 0 <;> simp only [c2, EVS]
    · simp only [ge_d, EVS]
theorem to_SignalS (xs : List (List UInt8 × Int)) (hb : ((xs).length ≤ 1048576 ∧ ∀ x ∈ xs, BdSignal 1048576 x)) : s_w_toSignalS [.lst (xs.map eSig)] = some (.lst (xs.map eSig)) := by
  have hx : xs.length ≤ 1048576 := hb.1
  show (fun x0 => s_w_toSignalS [x0]) _ = _
  rw [sh_w_toSignalS]
  simp only [mk_v _ _ (show xs.length ≤ 4294967296 by omega), List.length_map, EVS]
  refine toLoop xs eSig 2 _ _ (by omega) ?_ (fun _ => ?_) (fun _ => ?_) (fun again k x row el hk hl he hs => ?_) (fun again row => ?_)
  · rfl
  · rfl
  · exact ⟨fun _ => ⟨_, rfl⟩, fun _ => ⟨_, rfl⟩⟩
  · have hi : idxV (.lst (xs.map eSig)) (.int .i64 (k : Int)) = some ((eSig x)) := idx_map hk
    have hkr : k < row.length := by rw [hl]; exact lt_of_some hk
    have g1 := to_Signal x (hb.2 x (List.mem_of_getElem? hk))
    simp only [eSig] at g1 hi hs
    simp only [eSig, lt_d (lt_of_some hk), next_w (lt_of_some hk) (show xs.length ≤ 9223372036854775807 by omega), hi, g1, plc_at hkr, he, hs, EVS]
  · simp only [ge_d, EVS]
theorem eq_SignalS (xs : List (List UInt8 × Int)) (hb : ((xs).length ≤ 9223372036854775807 ∧ ∀ x ∈ xs, BdSignal 9223372036854775807 x)) : s_w_eqSignalS [.lst (xs.map eSig), .lst (xs.map eSig)] = some (pB true) := by
  have hx : xs.length ≤ 9223372036854775807 := hb.1
  show (fun x0 x1 => s_w_eqSignalS [x0, x1]) _ _ = _
  rw [sh_w_eqSignalS]
  simp only [List.length_map, EVS]
  refine (congrArg (fun m : Option PV => m.bind fun r => if r.sc = true then some r else none) (rangeAll (R := PV) xs (fun _ _ => true) (some (pB false)) (some (pB true)) _ hx (fun again k x hk => ?_) (fun again => ?_))).trans ?_
  · have hi : idxV (.lst (xs.map eSig)) (.int .i64 (k : Int)) = some ((eSig x)) := idx_map hk
    have g1 := eq_Signal x (hb.2 x (List.mem_of_getElem? hk))
    simp only [eSig] at g1 hi
    simp only [lt_d (lt_of_some hk), next_w (lt_of_some hk) hx, hi, g1, EVS]
  · simp only [ge_d, EVS]
  · rw [show allK (fun (_ : Nat) (_ : List UInt8 × Int) => true) 0 xs = true from allK_true xs 0]; rfl
theorem to_Pin (a : Int × Bool) : s_w_toPin [ePin a] = some (ePin a) := by
  show (fun x0 => s_w_toPin [x0]) _ = _
  rw [sh_w_toPin]
  simp only [ePin, EVS]
theorem eq_Pin (a : Int × Bool) : s_w_eqPin [ePin a, ePin a] = some (pB true) := by
  show (fun x0 x1 => s_w_eqPin [x0, x1]) _ _ = _
  rw [sh_w_eqPin]
  simp only [ePin, beq_self_eq_true, EVS]
theorem sz_PinS (xs : List (Int × Bool)) (l : Int) (hb : (xs).length ≤ 9223372036854775807) (h0 : 0 ≤ l) (h1 : l ≤ 1048576) : SzOk (s_w_szPinS [.lst (xs.map ePin), pI l]) l ((xs).length ≤ 1048576) := by
  have hx : xs.length ≤ 9223372036854775807 := hb
  show SzOk ((fun x0 x1 => s_w_szPinS [x0, x1]) _ _) _ _
  rw [sh_w_szPinS]
  have w1 : IntKind.i64.wrap (l - (xs.length : Int)) = l - (xs.length : Int) := wrap_of (by omega) (by omega)
  simp only [w1, List.length_map, EVS]
  by_cases c : l - (xs.length : Int) < 0
  · simp only [c, EVS]; exact SzOk.neg h0
  · simp only [c, EVS]; exact SzOk.pos (by omega) (by omega)
theorem to_PinS (xs : List (Int × Bool)) (hb : (xs).length ≤ 1048576) : s_w_toPinS [.lst (xs.map ePin)] = some (.lst (xs.map ePin)) := by
  have hx : xs.length ≤ 1048576 := hb
  show (fun x0 => s_w_toPinS [x0]) _ = _
  rw [sh_w_toPinS]
  simp only [mk_v _ _ (show xs.length ≤ 4294967296 by omega), List.length_map, EVS]
  refine toLoop xs ePin 2 _ _ (by omega) ?_ (fun _ => ?_) (fun _ => ?_) (fun again k x row el hk hl he hs => ?_) (fun again row => ?_)
  · rfl
  · rfl
  · exact ⟨fun _ => ⟨_, rfl⟩, fun _ => ⟨_, rfl⟩⟩
  · have hi : idxV (.lst (xs.map ePin)) (.int .i64 (k : Int)) = some ((ePin x)) := idx_map hk
    have hkr : k < row.length := by rw [hl]; exact lt_of_some hk
    have g1 := to_Pin x
    simp only [ePin] at g1 hi hs
    simp only [ePin, lt_d (lt_of_some hk), next_w (lt_of_some hk) (show xs.length ≤ 9223372036854775807 by omega), hi, g1, plc_at hkr, he, hs, EVS]
  · simp only [ge_d, EVS]
theorem eq_PinS (xs : List (Int × Bool)) (hb : (xs).length ≤ 9223372036854775807) : s_w_eqPinS [.lst (xs.map ePin), .lst (xs.map ePin)] = some (pB true) := by
  have hx : xs.length ≤ 9223372036854775807 := hb
  show (fun x0 x1 => s_w_eqPinS [x0, x1]) _ _ = _
  rw [sh_w_eqPinS]
  simp only [List.length_map, EVS]
  refine (congrArg (fun m : Option PV => m.bind fun r => if r.sc = true then some r else none) (rangeAll (R := PV) xs (fun _ _ => true) (some (pB false)) (some (pB true)) _ hx (fun again k x hk => ?_) (fun again => ?_))).trans ?_
  · have hi : idxV (.lst (xs.map ePin)) (.int .i64 (k : Int)) = some ((ePin x)) := idx_map hk
    have g1 := eq_Pin x
    simp only [ePin] at g1 hi
    simp only [lt_d (lt_of_some hk), next_w (lt_of_some hk) hx, hi, g1, EVS]
  · simp only [ge_d, EVS]
  · rw [show allK (fun (_ : Nat) (_ : Int × Bool) => true) 0 xs = true from allK_true xs 0]; rfl
theorem sz_StringS (xs : List (List UInt8)) (l : Int) (hb : ((xs).length ≤ 9223372036854775807 ∧ ∀ x ∈ xs, (x).length ≤ 9223372036854775807)) (h0 : 0 ≤ l) (h1 : l ≤ 1048576) : SzOk (s_w_szStringS [.lst (xs.map PV.str), pI l]) l (((xs).length ≤ 1048576 ∧ ∀ x ∈ xs, (x).length ≤ 1048576)) := by
  have hx : xs.length ≤ 9223372036854775807 := hb.1
  show SzOk ((fun x0 x1 => s_w_szStringS [x0, x1]) _ _) _ _
  rw [sh_w_szStringS]
  have w1 : IntKind.i64.wrap (l - (xs.length : Int)) = l - (xs.length : Int) := wrap_of (by omega) (by omega)
  simp only [w1, List.length_map, EVS]
  by_cases c : l - (xs.length : Int) < 0
  · simp only [c, EVS]; exact SzOk.neg h0
  · simp only [c, EVS]
    refine (SzOk.sc (szLoop xs (fun x => (x).length ≤ 1048576) _ hx (fun again k x l' hk h2 h3 => ?_) (fun again l' => ?_) (by omega) (by omega))).mono (by omega) (fun h => ⟨by omega, h⟩)
    · have hi : idxV (.lst (xs.map PV.str)) (.int .i64 (k : Int)) = some ((.str x)) := idx_map hk
      have hxl := hb.2 x (List.mem_of_getElem? hk)
      have w2 : IntKind.i64.wrap (l' - (x.length : Int)) = l' - (x.length : Int) := wrap_of (by omega) (by omega)
      refine ⟨l' - (x.length : Int), by omega, fun h => by omega, ?_⟩
      simp only [lt_d (lt_of_some hk), next_w (lt_of_some hk) hx, hi, w2, EVS]
      by_cases c2 : l' - (x.length : Int) < 0 <;> simp only [c2, EVS]
    · simp only [ge_d, EVS]
theorem to_StringS (xs : List (List UInt8)) (hb : ((xs).length ≤ 1048576 ∧ ∀ x ∈ xs, (x).length ≤ 1048576)) : s_w_toStringS [.lst (xs.map PV.str)] = some (.lst (xs.map PV.str)) := by
  have hx : xs.length ≤ 1048576 := hb.1
  show (fun x0 => s_w_toStringS [x0]) _ = _
  rw [sh_w_toStringS]
  simp only [mk_v _ _ (show xs.length ≤ 4294967296 by omega), List.length_map, EVS]
  refine toLoop xs PV.str 1 _ _ (by omega) ?_ (fun _ => ?_) (fun _ => ?_) (fun again k x row el hk hl he hs => ?_) (fun again row => ?_)
  · rfl
  · rfl
  · constructor <;> (rintro ⟨l, h⟩; cases h)
  · have hi : idxV (.lst (xs.map PV.str)) (.int .i64 (k : Int)) = some ((.str x)) := idx_map hk
    have hkr : k < row.length := by rw [hl]; exact lt_of_some hk
    simp only [lt_d (lt_of_some hk), next_w (lt_of_some hk) (show xs.length ≤ 9223372036854775807 by omega), hi, plc_at hkr, he, hs, EVS]
  · simp only [ge_d, EVS]
theorem eq_StringS (xs : List (List UInt8)) (hb : ((xs).length ≤ 9223372036854775807 ∧ ∀ x ∈ xs, (x).length ≤ 9223372036854775807)) : s_w_eqStringS [.lst (xs.map PV.str), .lst (xs.map PV.str)] = some (pB true) := by
  have hx : xs.length ≤ 9223372036854775807 := hb.1
  show (fun x0 x1 => s_w_eqStringS [x0, x1]) _ _ = _
  rw [sh_w_eqStringS]
  simp only [List.length_map, EVS]
  refine (congrArg (fun m : Option PV => m.bind fun r => if r.sc = true then some r else none) (rangeAll (R := PV) xs (fun _ _ => true) (some (pB false)) (some (pB true)) _ hx (fun again k x hk => ?_) (fun again => ?_))).trans ?_
  · have hi : idxV (.lst (xs.map PV.str)) (.int .i64 (k : Int)) = some ((.str x)) := idx_map hk
    simp only [lt_d (lt_of_some hk), next_w (lt_of_some hk) hx, hi, beq_self_eq_true, EVS]
  · simp only [ge_d, EVS]
  · rw [show allK (fun (_ : Nat) (_ : List UInt8) => true) 0 xs = true from allK_true xs 0]; rfl
def BdWire (m : Nat) (a : PWire) : Prop := (a.name).length ≤ m ∧ (a.ins).length ≤ m ∧ ((a.cover).length ≤ m ∧ ∀ x ∈ a.cover, (x).length ≤ m)
theorem sz_Wire (a : PWire) (l : Int) (hb : BdWire 9223372036854775807 a) (h0 : 0 ≤ l) (h1 : l ≤ 1048576) : SzOk (s_w_szWire [eWire a, pI l]) l (BdWire 1048576 a) := by
  obtain ⟨b0, b1, b2⟩ := hb
  unfold BdWire
  show SzOk ((fun x0 x1 => s_w_szWire [x0, x1]) _ _) _ _
  rw [sh_w_szWire]
  simp only [eWire, EVS]
  have w0 : IntKind.i64.wrap (l - (a.name.length : Int)) = (l - (a.name.length : Int)) := wrap_of (by omega) (by omega)
  simp only [w0, EVS]
  by_cases c0 : (l - (a.name.length : Int)) < 0
  · simp only [c0, EVS]; exact SzOk.neg h0
  simp only [c0, EVS]
  have q0 : 0 ≤ (l - (a.name.length : Int)) ∧ (l - (a.name.length : Int)) ≤ l := by omega
  obtain ⟨r1, g1, y1, z1⟩ := sz_PinS a.ins (l - (a.name.length : Int)) b1 (by omega) (by omega)
  try simp only [g1, EVS]
  by_cases c1 : r1 < 0
  · simp only [g1, c1, EVS]; exact SzOk.neg h0
  try simp only [g1, c1, EVS]
  have q1 : 0 ≤ r1 ∧ r1 ≤ l := by omega
  obtain ⟨r2, g2, y2, z2⟩ := sz_StringS a.cover r1 b2 (by omega) (by omega)
  try simp only [g2, EVS]
  by_cases c2 : r2 < 0
  · simp only [g2, c2, EVS]; exact SzOk.neg h0
  try simp only [g2, c2, EVS]
  have q2 : 0 ≤ r2 ∧ r2 ≤ l := by omega
  exact SzOk.pos (by omega) ⟨(by omega), (z1 (by omega)), (z2 (by omega))⟩
theorem to_Wire (a : PWire) (hb : BdWire 1048576 a) : s_w_toWire [eWire a] = some (eWire a) := by
  obtain ⟨b0, b1, b2⟩ := hb
  have g0 := to_PinS a.ins b1
  have g1 := to_StringS a.cover b2
  show (fun x0 => s_w_toWire [x0]) _ = _
  rw [sh_w_toWire]
  simp only [eWire, g0, g1, EVS]
theorem eq_Wire (a : PWire) (hb : BdWire 9223372036854775807 a) : s_w_eqWire [eWire a, eWire a] = some (pB true) := by
  obtain ⟨b0, b1, b2⟩ := hb
  have g0 := eq_PinS a.ins b1
  have g1 := eq_StringS a.cover b2
  show (fun x0 x1 => s_w_eqWire [x0, x1]) _ _ = _
  rw [sh_w_eqWire]
  simp only [eWire, g0, g1, beq_self_eq_true, EVS]
theorem sz_WireS (xs : List (PWire)) (l : Int) (hb : ((xs).length ≤ 9223372036854775807 ∧ ∀ x ∈ xs, BdWire 9223372036854775807 x)) (h0 : 0 ≤ l) (h1 : l ≤ 1048576) : SzOk (s_w_szWireS [.lst (xs.map eWire), pI l]) l (((xs).length ≤ 1048576 ∧ ∀ x ∈ xs, BdWire 1048576 x)) := by
  have hx : xs.length ≤ 9223372036854775807 := hb.1
  show SzOk ((fun x0 x1 => s_w_szWireS [x0, x1]) _ _) _ _
  rw [sh_w_szWireS]
  have w1 : IntKind.i64.wrap (l - (xs.length : Int)) = l - (xs.length : Int) := wrap_of (by omega) (by omega)
  simp only [w1, List.length_map, EVS]
  by_cases c : l - (xs.length : Int) < 0
  · simp only [c, EVS]; exact SzOk.neg h0
  · simp only [c, EVS]
    refine (SzOk.sc (szLoop xs (fun x => BdWire 1048576 x) _ hx (fun again k x l' hk h2 h3 => ?_) (fun again l' => ?_) (by omega) (by omega))).mono (by omega) (fun h => ⟨by omega, h⟩)
    · have hi : idxV (.lst (xs.map eWire)) (.int .i64 (k : Int)) = some ((eWire x)) := idx_map hk
      obtain ⟨r, g1, g2, g3⟩ := sz_Wire x l' (hb.2 x (List.mem_of_getElem? hk)) h2 h3
      refine ⟨r, g2, g3, ?_⟩
      simp only [eWire] at g1 hi
      simp only [lt_d (lt_of_some hk), next_w (lt_of_some hk) hx, hi, g1, EVS]
      by_cases c2 : r < 0 <;> simp only [c2, EVS]
    · simp only [ge_d, EVS]
theorem to_WireS (xs : List (PWire)) (hb : ((xs).length ≤ 1048576 ∧ ∀ x ∈ xs, BdWire 1048576 x)) : s_w_toWireS [.lst (xs.map eWire)] = some (.lst (xs.map eWire)) := by
  have hx : xs.length ≤ 1048576 := hb.1
  show (fun x0 => s_w_toWireS [x0]) _ = _
  rw [sh_w_toWireS]
  simp only [mk_v _ _ (show xs.length ≤ 4294967296 by omega), List.length_map, EVS]
  refine toLoop xs eWire 4 _ _ (by omega) ?_ (fun _ => ?_) (fun _ => ?_) (fun again k x row el hk hl he hs => ?_) (fun again row => ?_)
  · rfl
  · rfl
  · exact ⟨fun _ => ⟨_, rfl⟩, fun _ => ⟨_, rfl⟩⟩
  · have hi : idxV (.lst (xs.map eWire)) (.int .i64 (k : Int)) = some ((eWire x)) := idx_map hk
    have hkr : k < row.length := by rw [hl]; exact lt_of_some hk
    have g1 := to_Wire x (hb.2 x (List.mem_of_getElem? hk))
    simp only [eWire] at g1 hi hs
    simp only [eWire, lt_d (lt_of_some hk), next_w (lt_of_some hk) (show xs.length ≤ 9223372036854775807 by omega), hi, g1, plc_at hkr, he, hs, EVS]
  · simp only [ge_d, EVS]
theorem eq_WireS (xs : List (PWire)) (hb : ((xs).length ≤ 9223372036854775807 ∧ ∀ x ∈ xs, BdWire 9223372036854775807 x)) : s_w_eqWireS [.lst (xs.map eWire), .lst (xs.map eWire)] = some (pB true) := by
  have hx : xs.length ≤ 9223372036854775807 := hb.1
  show (fun x0 x1 => s_w_eqWireS [x0, x1]) _ _ = _
  rw [sh_w_eqWireS]
  simp only [List.length_map, EVS]
  refine (congrArg (fun m : Option PV => m.bind fun r => if r.sc = true then some r else none) (rangeAll (R := PV) xs (fun _ _ => true) (some (pB false)) (some (pB true)) _ hx (fun again k x hk => ?_) (fun again => ?_))).trans ?_
  · have hi : idxV (.lst (xs.map eWire)) (.int .i64 (k : Int)) = some ((eWire x)) := idx_map hk
    have g1 := eq_Wire x (hb.2 x (List.mem_of_getElem? hk))
    simp only [eWire] at g1 hi
    simp only [lt_d (lt_of_some hk), next_w (lt_of_some hk) hx, hi, g1, EVS]
  · simp only [ge_d, EVS]
  · rw [show allK (fun (_ : Nat) (_ : PWire) => true) 0 xs = true from allK_true xs 0]; rfl
def BdNetlist (m : Nat) (a : PNet) : Prop := ((a.signals).length ≤ m ∧ ∀ x ∈ a.signals, BdSignal m x) ∧ ((a.wires).length ≤ m ∧ ∀ x ∈ a.wires, BdWire m x)
theorem sz_Netlist (a : PNet) (l : Int) (hb : BdNetlist 9223372036854775807 a) (h0 : 0 ≤ l) (h1 : l ≤ 1048576) : SzOk (s_w_szNetlist [eNet a, pI l]) l (BdNetlist 1048576 a) := by
  obtain ⟨b0, b1⟩ := hb
  unfold BdNetlist
  show SzOk ((fun x0 x1 => s_w_szNetlist [x0, x1]) _ _) _ _
  rw [sh_w_szNetlist]
  simp only [eNet, EVS]
  obtain ⟨r0, g0, y0, z0⟩ := sz_SignalS a.signals l b0 (by omega) (by omega)
  try simp only [g0, EVS]
  by_cases c0 : r0 < 0
  · simp only [g0, c0, EVS]; exact SzOk.neg h0
  try simp only [g0, c0, EVS]
  have q0 : 0 ≤ r0 ∧ r0 ≤ l := by omega
  obtain ⟨r1, g1, y1, z1⟩ := sz_WireS a.wires r0 b1 (by omega) (by omega)
  try simp only [g1, EVS]
  by_cases c1 : r1 < 0
  · simp only [g1, c1, EVS]; exact SzOk.neg h0
  try simp only [g1, c1, EVS]
  have q1 : 0 ≤ r1 ∧ r1 ≤ l := by omega
  exact SzOk.pos (by omega) ⟨(z0 (by omega)), (z1 (by omega))⟩
theorem to_Netlist (a : PNet) (hb : BdNetlist 1048576 a) : s_w_toNetlist [eNet a] = some (eNet a) := by
  obtain ⟨b0, b1⟩ := hb
  have g0 := to_SignalS a.signals b0
  have g1 := to_WireS a.wires b1
  show (fun x0 => s_w_toNetlist [x0]) _ = _
  rw [sh_w_toNetlist]
  simp only [eNet, g0, g1, EVS]
theorem eq_Netlist (a : PNet) (hb : BdNetlist 9223372036854775807 a) : s_w_eqNetlist [eNet a, eNet a] = some (pB true) := by
  obtain ⟨b0, b1⟩ := hb
  have g0 := eq_SignalS a.signals b0
  have g1 := eq_WireS a.wires b1
  show (fun x0 x1 => s_w_eqNetlist [x0, x1]) _ _ = _
  rw [sh_w_eqNetlist]
  simp only [eNet, g0, g1, beq_self_eq_true, EVS]
end Go.Proofs.Ytidjggipnfapfaa

namespace Go.Proofs.Ytidjggipnfapfaa
open Go.RowKit
set_option linter.unusedVariables false
set_option linter.unusedSimpArgs false
theorem to_Label (a : Int × Bool) : s_w_toLabel [ePin a] = some (ePin a) := by
  show (fun x0 => s_w_toLabel [x0]) _ = _
  rw [sh_w_toLabel]
  simp only [ePin, EVS]
theorem eq_Label (a : Int × Bool) : s_w_eqLabel [ePin a, ePin a] = some (pB true) := by
  show (fun x0 x1 => s_w_eqLabel [x0, x1]) _ _ = _
  rw [sh_w_eqLabel]
  simp only [ePin, beq_self_eq_true, EVS]
theorem sz_LabelS (xs : List (Int × Bool)) (l : Int) (hb : (xs).length ≤ 9223372036854775807) (h0 : 0 ≤ l) (h1 : l ≤ 1048576) : SzOk (s_w_szLabelS [.lst (xs.map ePin), pI l]) l ((xs).length ≤ 1048576) := by
  have hx : xs.length ≤ 9223372036854775807 := hb
  show SzOk ((fun x0 x1 => s_w_szLabelS [x0, x1]) _ _) _ _
  rw [sh_w_szLabelS]
  have w1 : IntKind.i64.wrap (l - (xs.length : Int)) = l - (xs.length : Int) := wrap_of (by omega) (by omega)
  simp only [w1, List.length_map, EVS]
  by_cases c : l - (xs.length : Int) < 0
  · simp only [c, EVS]; exact SzOk.neg h0
  · simp only [c, EVS]; exact SzOk.pos (by omega) (by omega)
theorem to_LabelS (xs : List (Int × Bool)) (hb : (xs).length ≤ 1048576) : s_w_toLabelS [.lst (xs.map ePin)] = some (.lst (xs.map ePin)) := by
  have hx : xs.length ≤ 1048576 := hb
  show (fun x0 => s_w_toLabelS [x0]) _ = _
  rw [sh_w_toLabelS]
  simp only [mk_v _ _ (show xs.length ≤ 4294967296 by omega), List.length_map, EVS]
  refine toLoop xs ePin 2 _ _ (by omega) ?_ (fun _ => ?_) (fun _ => ?_) (fun again k x row el hk hl he hs => ?_) (fun again row => ?_)
  · rfl
  · rfl
  · exact ⟨fun _ => ⟨_, rfl⟩, fun _ => ⟨_, rfl⟩⟩
  · have hi : idxV (.lst (xs.map ePin)) (.int .i64 (k : Int)) = some ((ePin x)) := idx_map hk
    have hkr : k < row.length := by rw [hl]; exact lt_of_some hk
    have g1 := to_Label x
    simp only [ePin] at g1 hi hs
    simp only [ePin, lt_d (lt_of_some hk), next_w (lt_of_some hk) (show xs.length ≤ 9223372036854775807 by omega), hi, g1, plc_at hkr, he, hs, EVS]
  · simp only [ge_d, EVS]
theorem eq_LabelS (xs : List (Int × Bool)) (hb : (xs).length ≤ 9223372036854775807) : s_w_eqLabelS [.lst (xs.map ePin), .lst (xs.map ePin)] = some (pB true) := by
  have hx : xs.length ≤ 9223372036854775807 := hb
  show (fun x0 x1 => s_w_eqLabelS [x0, x1]) _ _ = _
  rw [sh_w_eqLabelS]
  simp only [List.length_map, EVS]
  refine (congrArg (fun m : Option PV => m.bind fun r => if r.sc = true then some r else none) (rangeAll (R := PV) xs (fun _ _ => true) (some (pB false)) (some (pB true)) _ hx (fun again k x hk => ?_) (fun again => ?_))).trans ?_
  · have hi : idxV (.lst (xs.map ePin)) (.int .i64 (k : Int)) = some ((ePin x)) := idx_map hk
    have g1 := eq_Label x
    simp only [ePin] at g1 hi
    simp only [lt_d (lt_of_some hk), next_w (lt_of_some hk) hx, hi, g1, EVS]
  · simp only [ge_d, EVS]
  · rw [show allK (fun (_ : Nat) (_ : Int × Bool) => true) 0 xs = true from allK_true xs 0]; rfl
def BdBurst (m : Nat) (a : PBurst) : Prop := (a.ins).length ≤ m ∧ (a.outs).length ≤ m
theorem sz_Burst (a : PBurst) (l : Int) (hb : BdBurst 9223372036854775807 a) (h0 : 0 ≤ l) (h1 : l ≤ 1048576) : SzOk (s_w_szBurst [eBurst a, pI l]) l (BdBurst 1048576 a) := by
  obtain ⟨b0, b1⟩ := hb
  unfold BdBurst
  show SzOk ((fun x0 x1 => s_w_szBurst [x0, x1]) _ _) _ _
  rw [sh_w_szBurst]
  simp only [eBurst, EVS]
  obtain ⟨r0, g0, y0, z0⟩ := sz_LabelS a.ins l b0 (by omega) (by omega)
  try simp only [g0, EVS]
  by_cases c0 : r0 < 0
  · simp only [g0, c0, EVS]; exact SzOk.neg h0
  try simp only [g0, c0, EVS]
  have q0 : 0 ≤ r0 ∧ r0 ≤ l := by omega
  obtain ⟨r1, g1, y1, z1⟩ := sz_LabelS a.outs r0 b1 (by omega) (by omega)
  try simp only [g1, EVS]
  by_cases c1 : r1 < 0
  · simp only [g1, c1, EVS]; exact SzOk.neg h0
  try simp only [g1, c1, EVS]
  have q1 : 0 ≤ r1 ∧ r1 ≤ l := by omega
  exact SzOk.pos (by omega) ⟨(z0 (by omega)), (z1 (by omega))⟩
theorem to_Burst (a : PBurst) (hb : BdBurst 1048576 a) : s_w_toBurst [eBurst a] = some (eBurst a) := by
  obtain ⟨b0, b1⟩ := hb
  have g0 := to_LabelS a.ins b0
  have g1 := to_LabelS a.outs b1
  show (fun x0 => s_w_toBurst [x0]) _ = _
  rw [sh_w_toBurst]
  simp only [eBurst, g0, g1, EVS]
theorem eq_Burst (a : PBurst) (hb : BdBurst 9223372036854775807 a) : s_w_eqBurst [eBurst a, eBurst a] = some (pB true) := by
  obtain ⟨b0, b1⟩ := hb
  have g0 := eq_LabelS a.ins b0
  have g1 := eq_LabelS a.outs b1
  show (fun x0 x1 => s_w_eqBurst [x0, x1]) _ _ = _
  rw [sh_w_eqBurst]
  simp only [eBurst, g0, g1, beq_self_eq_true, EVS]
theorem sz_BurstS (xs : List (PBurst)) (l : Int) (hb : ((xs).length ≤ 9223372036854775807 ∧ ∀ x ∈ xs, BdBurst 9223372036854775807 x)) (h0 : 0 ≤ l) (h1 : l ≤ 1048576) : SzOk (s_w_szBurstS [.lst (xs.map eBurst), pI l]) l (((xs).length ≤ 1048576 ∧ ∀ x ∈ xs, BdBurst 1048576 x)) := by
  have hx : xs.length ≤ 9223372036854775807 := hb.1
  show SzOk ((fun x0 x1 => s_w_szBurstS [x0, x1]) _ _) _ _
  rw [sh_w_szBurstS]
  have w1 : IntKind.i64.wrap (l - (xs.length : Int)) = l - (xs.length : Int) := wrap_of (by omega) (by omega)
  simp only [w1, List.length_map, EVS]
  by_cases c : l - (xs.length : Int) < 0
  · simp only [c, EVS]; exact SzOk.neg h0
  · simp only [c, EVS]
    refine (SzOk.sc (szLoop xs (fun x => BdBurst 1048576 x) _ hx (fun again k x l' hk h2 h3 => ?_) (fun again l' => ?_) (by omega) (by omega))).mono (by omega) (fun h => ⟨by omega, h⟩)
    · have hi : idxV (.lst (xs.map eBurst)) (.int .i64 (k : Int)) = some ((eBurst x)) := idx_map hk
      obtain ⟨r, g1, g2, g3⟩ := sz_Burst x l' (hb.2 x (List.mem_of_getElem? hk)) h2 h3
      refine ⟨r, g2, g3, ?_⟩
      simp only [eBurst] at g1 hi
      simp only [lt_d (lt_of_some hk), next_w (lt_of_some hk) hx, hi, g1, EVS]
      by_cases c2 : r < 0 <;> simp only [c2, EVS]
    · simp only [ge_d, EVS]
theorem to_BurstS (xs : List (PBurst)) (hb : ((xs).length ≤ 1048576 ∧ ∀ x ∈ xs, BdBurst 1048576 x)) : s_w_toBurstS [.lst (xs.map eBurst)] = some (.lst (xs.map eBurst)) := by
  have hx : xs.length ≤ 1048576 := hb.1
  show (fun x0 => s_w_toBurstS [x0]) _ = _
  rw [sh_w_toBurstS]
  simp only [mk_v _ _ (show xs.length ≤ 4294967296 by omega), List.length_map, EVS]
  refine toLoop xs eBurst 4 _ _ (by omega) ?_ (fun _ => ?_) (fun _ => ?_) (fun again k x row el hk hl he hs => ?_) (fun again row => ?_)
  · rfl
  · rfl
  · exact ⟨fun _ => ⟨_, rfl⟩, fun _ => ⟨_, rfl⟩⟩
  · have hi : idxV (.lst (xs.map eBurst)) (.int .i64 (k : Int)) = some ((eBurst x)) := idx_map hk
    have hkr : k < row.length := by rw [hl]; exact lt_of_some hk
    have g1 := to_Burst x (hb.2 x (List.mem_of_getElem? hk))
    simp only [eBurst] at g1 hi hs
    simp only [eBurst, lt_d (lt_of_some hk), next_w (lt_of_some hk) (show xs.length ≤ 9223372036854775807 by omega), hi, g1, plc_at hkr, he, hs, EVS]
  · simp only [ge_d, EVS]
theorem eq_BurstS (xs : List (PBurst)) (hb : ((xs).length ≤ 9223372036854775807 ∧ ∀ x ∈ xs, BdBurst 9223372036854775807 x)) : s_w_eqBurstS [.lst (xs.map eBurst), .lst (xs.map eBurst)] = some (pB true) := by
  have hx : xs.length ≤ 9223372036854775807 := hb.1
  show (fun x0 x1 => s_w_eqBurstS [x0, x1]) _ _ = _
  rw [sh_w_eqBurstS]
  simp only [List.length_map, EVS]
  refine (congrArg (fun m : Option PV => m.bind fun r => if r.sc = true then some r else none) (rangeAll (R := PV) xs (fun _ _ => true) (some (pB false)) (some (pB true)) _ hx (fun again k x hk => ?_) (fun again => ?_))).trans ?_
  · have hi : idxV (.lst (xs.map eBurst)) (.int .i64 (k : Int)) = some ((eBurst x)) := idx_map hk
    have g1 := eq_Burst x (hb.2 x (List.mem_of_getElem? hk))
    simp only [eBurst] at g1 hi
    simp only [lt_d (lt_of_some hk), next_w (lt_of_some hk) hx, hi, g1, EVS]
  · simp only [ge_d, EVS]
  · rw [show allK (fun (_ : Nat) (_ : PBurst) => true) 0 xs = true from allK_true xs 0]; rfl
def BdMachine (m : Nat) (a : PMach) : Prop := ((a.signals).length ≤ m ∧ ∀ x ∈ a.signals, BdSignal m x) ∧ ((a.bursts).length ≤ m ∧ ∀ x ∈ a.bursts, BdBurst m x) ∧ (a.first).length ≤ m
theorem sz_Machine (a : PMach) (l : Int) (hb : BdMachine 9223372036854775807 a) (h0 : 0 ≤ l) (h1 : l ≤ 1048576) : SzOk (s_w_szMachine [eMach a, pI l]) l (BdMachine 1048576 a) := by
  obtain ⟨b0, b1, b2⟩ := hb
  unfold BdMachine
  show SzOk ((fun x0 x1 => s_w_szMachine [x0, x1]) _ _) _ _
  rw [sh_w_szMachine]
  simp only [eMach, EVS]
  obtain ⟨r0, g0, y0, z0⟩ := sz_SignalS a.signals l b0 (by omega) (by omega)
  try simp only [g0, EVS]
  by_cases c0 : r0 < 0
  · simp only [g0, c0, EVS]; exact SzOk.neg h0
  try simp only [g0, c0, EVS]
  have q0 : 0 ≤ r0 ∧ r0 ≤ l := by omega
  obtain ⟨r1, g1, y1, z1⟩ := sz_BurstS a.bursts r0 b1 (by omega) (by omega)
  try simp only [g1, EVS]
  by_cases c1 : r1 < 0
  · simp only [g1, c1, EVS]; exact SzOk.neg h0
  try simp only [g1, c1, EVS]
  have q1 : 0 ≤ r1 ∧ r1 ≤ l := by omega
  have w2 : IntKind.i64.wrap (r1 - (a.first.length : Int)) = (r1 - (a.first.length : Int)) := wrap_of (by omega) (by omega)
  simp only [w2, EVS]
  by_cases c2 : (r1 - (a.first.length : Int)) < 0
  · simp only [c2, EVS]; exact SzOk.neg h0
  simp only [c2, EVS]
  have q2 : 0 ≤ (r1 - (a.first.length : Int)) ∧ (r1 - (a.first.length : Int)) ≤ l := by omega
  exact SzOk.pos (by omega) ⟨(z0 (by omega)), (z1 (by omega)), (by omega)⟩
theorem to_Machine (a : PMach) (hb : BdMachine 1048576 a) : s_w_toMachine [eMach a] = some (eMach a) := by
  obtain ⟨b0, b1, b2⟩ := hb
  have g0 := to_SignalS a.signals b0
  have g1 := to_BurstS a.bursts b1
  show (fun x0 => s_w_toMachine [x0]) _ = _
  rw [sh_w_toMachine]
  simp only [eMach, g0, g1, EVS]
theorem eq_Machine (a : PMach) (hb : BdMachine 9223372036854775807 a) : s_w_eqMachine [eMach a, eMach a] = some (pB true) := by
  obtain ⟨b0, b1, b2⟩ := hb
  have g0 := eq_SignalS a.signals b0
  have g1 := eq_BurstS a.bursts b1
  show (fun x0 x1 => s_w_eqMachine [x0, x1]) _ _ = _
  rw [sh_w_eqMachine]
  simp only [eMach, g0, g1, beq_self_eq_true, EVS]
end Go.Proofs.Ytidjggipnfapfaa

namespace Go.Proofs.Ytidjggipnfapfaa
open Go.RowKit
set_option linter.unusedVariables false
set_option linter.unusedSimpArgs false
def lastS (m : PMach) : Int := IntKind.i64.wrap (m.states - 1)
def burstOkP (m : PMach) (b : PBurst) : Bool := inR b.from_ 0 (lastS m) && (inR b.to_ 0 (lastS m) && (!decide ((b.ins.length : Int) = 0) && (labsP m.signals b.ins 1 && labsP m.signals b.outs 2)))
def kindsP (l : List (List UInt8 × Int)) : Bool := allK (fun _ s => decide (s.2 = 1) || decide (s.2 = 2)) 0 l
def formP (m : PMach) : Bool := allK (fun _ b => burstOkP m b) 0 m.bursts && ((kindsP m.signals && sigsP m.signals) && (inR m.states 1 6 && (decide ((m.bursts.length : Int) ≤ 6) && bitsP m.first m.signals.length)))
structure PMach.Fit (m : PMach) : Prop where
  signals : Fits m.signals
  names : ∀ s ∈ m.signals, Fits s.1
  bursts : Fits m.bursts
  ins : ∀ b ∈ m.bursts, Fits b.ins
  outs : ∀ b ∈ m.bursts, Fits b.outs
  first : Fits m.first
theorem PMach.fit_of {m : PMach} (h : BdMachine 9223372036854775807 m) : m.Fit := by
  obtain ⟨⟨h1, h2⟩, ⟨h3, h4⟩, h5⟩ := h
  exact ⟨h1, fun s hs => h2 s hs, h3, fun b hb => (h4 b hb).1, fun b hb => (h4 b hb).2, h5⟩
theorem p_r_l24Form (m : PMach) (hm : m.Fit) : s_r_l24Form [eMach m] = some (pB (formP m)) := by
  have hbl := hm.bursts
  unfold Fits at hbl
  have g5 := p_r_l24Kinds m.signals hm.signals hm.names
  have g6 := p_r_l5Code m.first m.signals.length hm.first
  show (fun x0 => s_r_l24Form [x0]) _ = _
  rw [sh_r_l24Form]
  simp only [eMach, EVS]
  refine (congrArg (fun m : Option PV => m.bind fun r => if r.sc = true then some r else none) (rangeAll (R := PV) m.bursts (fun _ b => burstOkP m b) (some (pB false)) (some (pB ((kindsP m.signals && sigsP m.signals) && (inR m.states 1 6 && (decide ((m.bursts.length : Int) ≤ 6) && bitsP m.first m.signals.length))))) _ hbl (fun again k b hb => ?_) (fun again => ?_))).trans ?_
  · have hk := lt_of_some hb
    have hi : idxV (.lst (m.bursts.map eBurst)) (.int .i64 (k : Int)) = some (eBurst b) := idx_map hb
    have g1 := p_r_l1In b.from_ 0 (lastS m)
    have g2 := p_r_l1In b.to_ 0 (lastS m)
    have g3 := p_r_l24Labels m b.ins 1 hm.signals (hm.ins b (List.mem_of_getElem? hb))
    have g4 := p_r_l24Labels m b.outs 2 hm.signals (hm.outs b (List.mem_of_getElem? hb))
    have hw : IntKind.i64.wrap (m.states - 1) = lastS m := rfl
    simp only [eMach] at g3 g4
    simp only [lt_d hk, next_w hk hbl, hi, eBurst, hw, g1, g2, burstOkP, inR, EVS]
    obtain c1 | c1 := (Bool.eq_false_or_eq_true (decide (0 ≤ b.from_) && decide (b.from_ ≤ lastS m))).symm <;> simp only [c1, g1, g2, hw, EVS]
    obtain c2 | c2 := (Bool.eq_false_or_eq_true (decide (0 ≤ b.to_) && decide (b.to_ ≤ lastS m))).symm <;> simp only [c2, g1, g2, hw, EVS]
    obtain c3 | c3 := (Bool.eq_false_or_eq_true (decide ((b.ins.length : Int) = 0))).symm <;> simp only [c3, g3, EVS]
    obtain c4 | c4 := (Bool.eq_false_or_eq_true (labsP m.signals b.ins 1)).symm <;> simp only [c4, g3, g4, EVS]
    obtain c5 | c5 := (Bool.eq_false_or_eq_true (labsP m.signals b.outs 2)).symm <;> simp only [c5, EVS]
  · have g7 := p_r_l1In m.states 1 6
    have hkp : allK (fun _ s => decide (s.2 = 1) || decide (s.2 = 2)) 0 m.signals = kindsP m.signals := rfl
    simp only [ge_d, g5, hkp, EVS]
    obtain c1 | c1 := (Bool.eq_false_or_eq_true (kindsP m.signals && sigsP m.signals)).symm <;> simp only [c1, g7, inR, EVS]
    obtain c2 | c2 := (Bool.eq_false_or_eq_true (decide (1 ≤ m.states) && decide (m.states ≤ 6))).symm <;> simp only [c2, EVS]
    obtain c3 | c3 := (Bool.eq_false_or_eq_true (decide ((m.bursts.length : Int) ≤ 6))).symm <;> simp only [c3, g6, EVS]
  · unfold formP
    cases allK (fun _ b => burstOkP m b) 0 m.bursts <;> simp only [EVS]
/-- Some labels are among others. -/
def subP (a b : List (Int × Bool)) : Bool := a.all fun x => b.any fun y => decide (x = y)
theorem any_fold (x : Int × Bool) (E : Bool → Option PV) : ∀ (l : List (Int × Bool)) (k : Nat) (f : Bool), foldGo (R := PV) (fun (f : Bool) _ y => .inl (f || decide (x = y))) E k f l = E (f || l.any fun y => decide (x = y))
  | [], k, f => by simp [foldGo]
  | y :: r, k, f => by
    unfold foldGo
    simp only
    rw [any_fold x E r, List.any_cons, Bool.or_assoc]
theorem p_r_l24Among (a b : List (Int × Bool)) (ha : Fits a) (hb : Fits b) : s_r_l24Among [.lst (a.map ePin), .lst (b.map ePin)] = some (pB (subP a b)) := by
  unfold Fits at ha hb
  show (fun x0 x1 => s_r_l24Among [x0, x1]) _ _ = _
  rw [sh_r_l24Among]
  simp only [EVS]
  refine (congrArg (fun m : Option PV => m.bind fun r => if r.sc = true then some r else none) (rangeAll (R := PV) a (fun _ x => b.any fun y => decide (x = y)) (some (pB false)) (some (pB true)) _ ha (fun again k x hx => ?_) (fun again => ?_))).trans ?_
  · have hk := lt_of_some hx
    have hi : idxV (.lst (a.map ePin)) (.int .i64 (k : Int)) = some (ePin x) := idx_map hx
    simp only [lt_d hk, hi, ePin, EVS]
    refine (foldLoop (R := PV) b (fun (f : Bool) j => [pB f, pI (Int.ofNat j)]) (fun _ _ => True) (fun (f : Bool) _ y => .inl (f || decide (x = y))) (fun f => if f = true then again [pI (Int.ofNat (k + 1))] else some (pB false)) _ hb (fun _ _ _ _ _ _ _ => trivial) (fun again' f j y _ hy => ?_) (fun again' f _ => ?_) (b := false) trivial).trans ?_
    · have hj := lt_of_some hy
      have hiy : idxV (.lst (b.map ePin)) (.int .i64 (j : Int)) = some (ePin y) := idx_map hy
      have he := eqV_lab x y
      simp only [ePin] at he hiy
      simp only [lt_d hj, next_w hj hb, hiy, EVS]
      cases f <;> simp only [he, EVS]
    · simp only [ge_d, next_w hk ha, EVS]
      cases f <;> simp only [EVS]
    · rw [any_fold]
      rfl
  · simp only [ge_d, EVS]
  · unfold subP
    rw [allK_all]
    cases (a.all fun x => b.any fun y => decide (x = y)) <;> rfl
/-- No two bursts of a state have inputs of which those of one are among the other's. -/
def maxP (l : List PBurst) : Bool := allK (fun i a => allK (fun k b => !(!decide ((i : Int) = (k : Int)) && (decide (a.from_ = b.from_) && subP a.ins b.ins))) 0 l) 0 l
def machP (m : PMach) : Option (List (List UInt8)) := if formP m = true then (match codesM m with | some cs => if (!(cs.any fun a => decide (([] : List UInt8) = a)) && maxP m.bursts) = true then some cs else none | none => none) else none
theorem p_i_isMaximal (l : List PBurst) (hl : Fits l) (hi : ∀ b ∈ l, Fits b.ins) : s_i_isMaximal [.lst (l.map eBurst)] = some (pB (maxP l)) := by
  unfold Fits at hl
  show (fun x0 => s_i_isMaximal [x0]) _ = _
  rw [sh_i_isMaximal]
  simp only [EVS]
  refine (congrArg (fun m : Option PV => m.bind fun r => if r.sc = true then some r else none) (rangeAll (R := PV) l (fun i a => allK (fun k b => !(!decide ((i : Int) = (k : Int)) && (decide (a.from_ = b.from_) && subP a.ins b.ins))) 0 l) (some (pB false)) (some (pB true)) _ hl (fun again i a ha => ?_) (fun again => ?_))).trans ?_
  · have hil := lt_of_some ha
    have hia : idxV (.lst (l.map eBurst)) (.int .i64 (i : Int)) = some (eBurst a) := idx_map ha
    simp only [lt_d hil, hia, eBurst, EVS]
    refine (rangeAll (R := PV) l (fun k b => !(!decide ((i : Int) = (k : Int)) && (decide (a.from_ = b.from_) && subP a.ins b.ins))) (some (pB false)) (again [pI (Int.ofNat (i + 1))]) _ hl (fun again' k b hb => ?_) (fun again' => ?_)).trans ?_
    · have hk := lt_of_some hb
      have hib : idxV (.lst (l.map eBurst)) (.int .i64 (k : Int)) = some (eBurst b) := idx_map hb
      have g1 := p_g_slices_ContainsFunc_Label__i_isMaximal_1 a.ins b (hi b (List.mem_of_getElem? hb)) (hi a (List.mem_of_getElem? ha))
      have hsub : (!(a.ins.any fun x => !b.ins.any fun y => decide (x = y))) = subP a.ins b.ins := by unfold subP; rw [List.all_eq_not_any_not]
      simp only [eBurst] at g1 hib
      simp only [lt_d hk, next_w hk hl, hib, List.drop_zero, EVS]
      obtain c1 | c1 := (Bool.eq_false_or_eq_true (decide ((i : Int) = (k : Int)))).symm <;> simp only [c1, List.drop_zero, EVS]
      obtain c2 | c2 := (Bool.eq_false_or_eq_true (decide (a.from_ = b.from_))).symm <;> simp only [c2, g1, hsub, List.drop_zero, EVS]
      cases subP a.ins b.ins <;> simp only [EVS]
    · simp only [ge_d, next_w hil hl, EVS]
    · rfl
  · simp only [ge_d, EVS]
  · unfold maxP
    cases allK (fun i a => allK (fun k b => !(!decide ((i : Int) = (k : Int)) && (decide (a.from_ = b.from_) && subP a.ins b.ins))) 0 l) 0 l <;> simp only [EVS]
theorem p_r_l1HasS (l : List (List UInt8)) (s : List UInt8) (hl : Fits l) : s_r_l1HasS [.lst (l.map PV.str), .str s] = some (pB (l.any fun x => decide (s = x))) := by
  unfold Fits at hl
  show (fun x0 x1 => s_r_l1HasS [x0, x1]) _ _ = _
  rw [sh_r_l1HasS]
  simp only [EVS]
  refine (congrArg (fun m : Option PV => m.bind fun r => if r.sc = true then some r else none) (rangeAll (R := PV) l (fun _ x => !decide (s = x)) (some (pB true)) (some (pB false)) _ hl (fun again k x hx => ?_) (fun again => ?_))).trans ?_
  · have hk := lt_of_some hx
    have hi : idxV (.lst (l.map PV.str)) (.int .i64 (k : Int)) = some (.str x) := idx_map hx
    have he : decide (x = s) = decide (s = x) := by rw [Bool.eq_iff_iff, decide_eq_true_eq, decide_eq_true_eq]; exact eq_comm
    simp only [lt_d hk, next_w hk hl, hi, he, EVS]
    cases decide (s = x) <;> simp only [EVS]
  · simp only [ge_d, EVS]
  · rw [List.any_eq_not_all_not, allK_all]
    cases (l.all fun x => !decide (s = x)) <;> rfl
theorem labsP_sig {sigs : List (List UInt8 × Int)} {l : List (Int × Bool)} {kind : Int} (h : labsP sigs l kind = true) : ∀ x ∈ l, 0 ≤ x.1 ∧ x.1 < sigs.length := fun x hx => by
  obtain ⟨k, hk⟩ := List.getElem?_of_mem hx
  have := allK_at _ _ _ h k x hk
  unfold labOk inR at this
  simp only [Bool.and_eq_true, decide_eq_true_eq] at this
  omega
theorem machFit {m : PMach} (h : formP m = true) (hb : BdMachine 1048576 m) : MachFit m.signals.length m.states.toNat m := by
  unfold formP at h
  simp only [Bool.and_eq_true] at h
  obtain ⟨h1, ⟨h2, h3⟩, h4, h5, h6⟩ := h
  unfold inR at h4
  simp only [Bool.and_eq_true, decide_eq_true_eq] at h4 h5
  unfold sigsP inR at h3
  simp only [Bool.and_eq_true, decide_eq_true_eq] at h3
  have hw : lastS m = m.states - 1 := wrap_of (by omega) (by omega)
  refine ⟨by omega, by omega, by omega, by omega, fun b hbm => ?_, h6⟩
  have hb1 := allK_mem (fun b => burstOkP m b) h1 hbm
  unfold burstOkP inR at hb1
  rw [hw] at hb1
  simp only [Bool.and_eq_true, decide_eq_true_eq] at hb1
  obtain ⟨q1, q2, _, q4, q5⟩ := hb1
  obtain ⟨_, ⟨_, hbb⟩, _⟩ := hb
  obtain ⟨r1, r2⟩ := hbb b hbm
  refine ⟨by omega, by omega, r1, r2, fun x hx => ?_⟩
  rcases List.mem_append.1 hx with hx | hx
  · exact labsP_sig q4 x hx
  · exact labsP_sig q5 x hx
end Go.Proofs.Ytidjggipnfapfaa

namespace Go.Proofs.Ytidjggipnfapfaa
open Go.RowKit
set_option linter.unusedVariables false
set_option linter.unusedSimpArgs false
theorem p_r_l24Good (m : PMach) (hm : m.Fit) (hb : BdMachine 1048576 m) : s_r_l24Good [eMach m] = some (pB (machP m).isSome) := by
  have hbl := hm.bursts
  unfold Fits at hbl
  have g1 := p_r_l24Form m hm
  simp only [eMach] at g1
  show (fun x0 => s_r_l24Good [x0]) _ = _
  rw [sh_r_l24Good]
  unfold machP
  obtain c1 | c1 := (Bool.eq_false_or_eq_true (formP m)).symm <;> simp only [c1, eMach, g1, EVS]
  · rfl
  have hf := machFit c1 hb
  have g2 := p_r_l24Codes m _ _ hf
  simp only [eMach] at g2
  cases hc : codesM m with
  | none =>
    rw [hc] at g2
    simp only at g2
    simp only [g2, EVS]
    rfl
  | some cs =>
    rw [hc] at g2
    simp only at g2
    have hcl : Fits cs := by
      unfold Fits
      have := (show cs.length = m.states.toNat from ?_)
      · have := hf.s1; omega
      · have hS : m.states.toNat = m.states.toNat := rfl
        unfold codesM at hc
        have key : ∀ (k : Nat) (a b : List (List UInt8)), CodesOk m.signals.length m.states.toNat a → iterP m.bursts k a = some b → CodesOk m.signals.length m.states.toNat b := by
          intro k
          induction k with
          | zero => intro a b h e; cases e; exact h
          | succ k ih =>
            intro a b h e
            unfold iterP at e
            obtain ⟨c, e1, e2⟩ := Option.bind_eq_some_iff.1 e
            exact ih c b (passP_ok _ _ _ hf.bursts h e1) e2
        exact (key _ _ _ (codes0_ok hf) hc).len
    have g3 := p_r_l1HasS cs [] hcl
    simp only [g2, g3, EVS]
    obtain c2 | c2 := (Bool.eq_false_or_eq_true (cs.any fun a => decide (([] : List UInt8) = a))).symm <;> simp only [c2, EVS]
    · refine (congrArg (fun m : Option PV => m.bind fun r => if r.sc = true then some r else none) (rangeAll (R := PV) m.bursts (fun i a => allK (fun k b => !(!decide ((i : Int) = (k : Int)) && (decide (a.from_ = b.from_) && subP a.ins b.ins))) 0 m.bursts) (some (pB false)) (some (pB true)) _ hbl (fun again i a ha => ?_) (fun again => ?_))).trans ?_
      · have hil := lt_of_some ha
        have hia : idxV (.lst (m.bursts.map eBurst)) (.int .i64 (i : Int)) = some (eBurst a) := idx_map ha
        simp only [lt_d hil, hia, eBurst, EVS]
        refine (rangeAll (R := PV) m.bursts (fun k b => !(!decide ((i : Int) = (k : Int)) && (decide (a.from_ = b.from_) && subP a.ins b.ins))) (some (pB false)) (again [pI (Int.ofNat (i + 1))]) _ hbl (fun again' k b hb' => ?_) (fun again' => ?_)).trans ?_
        · have hk := lt_of_some hb'
          have hib : idxV (.lst (m.bursts.map eBurst)) (.int .i64 (k : Int)) = some (eBurst b) := idx_map hb'
          have q1 := p_r_l24Among a.ins b.ins (hm.ins a (List.mem_of_getElem? ha)) (hm.ins b (List.mem_of_getElem? hb'))
          simp only [eBurst] at hib
          simp only [lt_d hk, next_w hk hbl, hib, List.drop_zero, EVS]
          obtain c3 | c3 := (Bool.eq_false_or_eq_true (decide ((i : Int) = (k : Int)))).symm <;> simp only [c3, List.drop_zero, EVS]
          obtain c4 | c4 := (Bool.eq_false_or_eq_true (decide (a.from_ = b.from_))).symm <;> simp only [c4, q1, List.drop_zero, EVS]
          cases subP a.ins b.ins <;> simp only [EVS]
        · simp only [ge_d, next_w hil hbl, EVS]
        · rfl
      · simp only [ge_d, EVS]
      · show _ = some (pB _)
        unfold maxP
        cases allK (fun i a => allK (fun k b => !(!decide ((i : Int) = (k : Int)) && (decide (a.from_ = b.from_) && subP a.ins b.ins))) 0 m.bursts) 0 m.bursts <;> rfl
    · rfl
end Go.Proofs.Ytidjggipnfapfaa

namespace Go.Proofs.Ytidjggipnfapfaa
open Go.RowKit
set_option linter.unusedVariables false
set_option linter.unusedSimpArgs false
theorem kinds3 {l : List (List UInt8 × Int)} (h : sigsP l = true) : kindsP l = !(l.any fun a => decide (a.2 = 3)) := by
  unfold kindsP
  rw [allK_all, List.any_eq_not_all_not, Bool.not_not]
  unfold sigsP at h
  rw [Bool.and_eq_true] at h
  have h1 : ∀ s ∈ l, 1 ≤ s.2 ∧ s.2 ≤ 3 := fun s hs => by
    obtain ⟨k, hk⟩ := List.getElem?_of_mem hs
    have := allK_at _ _ _ h.1 k s hk
    unfold sigOk inR at this
    simp only [Bool.and_eq_true, decide_eq_true_eq] at this
    omega
  rw [Bool.eq_iff_iff, List.all_eq_true, List.all_eq_true]
  refine forall_congr' fun s => forall_congr' fun hs => ?_
  have := h1 s hs
  simp only [Bool.or_eq_true, decide_eq_true_eq, Bool.not_eq_true', decide_eq_false_iff_not]
  omega
theorem mform_eq (m : PMach) : formP m = (sigsP m.signals && (inR m.states 1 6 && (!decide (6 < (m.bursts.length : Int)) && (bitsP m.first m.signals.length && (!(m.signals.any fun a => decide (a.2 = 3)) && allK (fun _ b => burstOkP m b) 0 m.bursts))))) := by
  unfold formP
  have h6 : decide ((m.bursts.length : Int) ≤ 6) = !decide (6 < (m.bursts.length : Int)) := by rw [Bool.eq_iff_iff]; simp
  rw [h6]
  cases hs : sigsP m.signals
  · simp
  · rw [kinds3 hs]
    generalize (m.signals.any fun a => decide (a.2 = 3)) = A
    generalize inR m.states 1 6 = B
    generalize decide (6 < (m.bursts.length : Int)) = C
    generalize bitsP m.first m.signals.length = D
    generalize allK (fun _ b => burstOkP m b) 0 m.bursts = E
    cases A <;> cases B <;> cases C <;> cases D <;> cases E <;> rfl
theorem codesM_len {m : PMach} {cs : List (List UInt8)} (hf : MachFit m.signals.length m.states.toNat m) (hc : codesM m = some cs) : cs.length = m.states.toNat := by
  unfold codesM at hc
  have key : ∀ (k : Nat) (a b : List (List UInt8)), CodesOk m.signals.length m.states.toNat a → iterP m.bursts k a = some b → CodesOk m.signals.length m.states.toNat b := by
    intro k
    induction k with
    | zero => intro a b h e; cases e; exact h
    | succ k ih =>
      intro a b h e
      unfold iterP at e
      obtain ⟨c, e1, e2⟩ := Option.bind_eq_some_iff.1 e
      exact ih c b (passP_ok _ _ _ hf.bursts h e1) e2
  exact (key _ _ _ (codes0_ok hf) hc).len
/-- What machineCodes tells: the codes if the machine is good. -/
def MCodes (m : PMach) (r : Option PV) : Prop := ∃ X, r = some (.tup [X, pB (machP m).isSome]) ∧ ∀ cs, machP m = some cs → X = .lst (cs.map PV.str)
theorem p_i_machineCodes (m : PMach) (hm : m.Fit) (hb : BdMachine 1048576 m) : MCodes m (s_i_machineCodes [eMach m]) := by
  have hbl := hm.bursts
  unfold Fits at hbl
  have g1 := p_i_areSignals m.signals hm.signals hm.names
  rw [← sigs_eq] at g1
  have g2 := p_i_within m.states 1 6
  have g3 := p_i_isBits m.first m.signals.length hm.first
  have g4 := p_g_slices_ContainsFunc_Signal__i_machineCodes_1 m.signals hm.signals
  have hfe := mform_eq m
  show MCodes m ((fun x0 => s_i_machineCodes [x0]) _)
  rw [sh_i_machineCodes]
  have bad : formP m = false → MCodes m (some (.tup [.lst [], pB false])) := fun h => by
    have : machP m = none := by unfold machP; rw [h]; rfl
    exact ⟨.lst [], by rw [this]; rfl, fun cs hc => by rw [this] at hc; cases hc⟩
  simp only [eMach, g1, EVS]
  obtain c1 | c1 := (Bool.eq_false_or_eq_true (sigsP m.signals)).symm <;> simp only [c1, g2, EVS]
  · exact bad (by rw [hfe, c1]; rfl)
  obtain c2 | c2 := (Bool.eq_false_or_eq_true (inR m.states 1 6)).symm <;> simp only [c2, EVS]
  · exact bad (by rw [hfe, c1, c2]; rfl)
  obtain c3 | c3 := (Bool.eq_false_or_eq_true (decide (6 < (m.bursts.length : Int)))).symm <;> simp only [c3, g3, EVS]
  case inr => exact bad (by rw [hfe, c1, c2, c3]; rfl)
  obtain c4 | c4 := (Bool.eq_false_or_eq_true (bitsP m.first m.signals.length)).symm <;> simp only [c4, g4, EVS]
  · exact bad (by rw [hfe, c1, c2, c3, c4]; rfl)
  obtain c5 | c5 := (Bool.eq_false_or_eq_true (m.signals.any fun a => decide (a.2 = 3))).symm <;> simp only [c5, EVS]
  case inr => exact bad (by rw [hfe, c1, c2, c3, c4, c5]; rfl)
  refine Eq.mp (congrArg (MCodes m) (Eq.symm (rangeAllT (R := PV) m.bursts (fun _ b => burstOkP m b) (some (.tup [.lst [], pB false])) (match codesM m with | some cs => some (PV.tup [.lst (cs.map PV.str), pB (!(cs.any fun a => decide (([] : List UInt8) = a)) && maxP m.bursts)]) | none => some (.tup [.lst [], pB false])) _ hbl (fun again k b hbk => ?_) (fun hall again => ?_)))) ?_
  · have hk := lt_of_some hbk
    have hi : idxV (.lst (m.bursts.map eBurst)) (.int .i64 (k : Int)) = some (eBurst b) := idx_map hbk
    have q1 := p_i_within b.from_ 0 (lastS m)
    have q2 := p_i_within b.to_ 0 (lastS m)
    have q3 := p_i_areLabels m.signals b.ins 1 hm.signals (hm.ins b (List.mem_of_getElem? hbk))
    have q4 := p_i_areLabels m.signals b.outs 2 hm.signals (hm.outs b (List.mem_of_getElem? hbk))
    have hw : IntKind.i64.wrap (m.states - 1) = lastS m := rfl
    simp only [lt_d hk, next_w hk hbl, hi, eBurst, hw, q1, q2, burstOkP, EVS]
    obtain d1 | d1 := (Bool.eq_false_or_eq_true (inR b.from_ 0 (lastS m))).symm <;> simp only [d1, q1, q2, hw, EVS]
    obtain d2 | d2 := (Bool.eq_false_or_eq_true (inR b.to_ 0 (lastS m))).symm <;> simp only [d2, q1, q2, hw, EVS]
    obtain d3 | d3 := (Bool.eq_false_or_eq_true (decide ((b.ins.length : Int) = 0))).symm <;> simp only [d3, q3, EVS]
    obtain d4 | d4 := (Bool.eq_false_or_eq_true (labsP m.signals b.ins 1)).symm <;> simp only [d4, q3, q4, EVS]
    obtain d5 | d5 := (Bool.eq_false_or_eq_true (labsP m.signals b.outs 2)).symm <;> simp only [d5, EVS]
  · have hform : formP m = true := by rw [hfe, c1, c2, c3, c4, c5, hall]; rfl
    have hf := machFit hform hb
    have g5 := p_i_codesOf m _ _ hf
    have g6 := p_i_isMaximal m.bursts hm.bursts hm.ins
    simp only [eMach] at g5
    cases hc : codesM m with
    | none =>
      rw [hc] at g5
      simp only at g5
      simp only [ge_d, g5, EVS]
    | some cs =>
      rw [hc] at g5
      simp only at g5
      simp only [ge_d, g5, EVS]
      cases (cs.any fun a => decide (([] : List UInt8) = a)) <;> simp only [g6, EVS]
  · cases hall : allK (fun _ b => burstOkP m b) 0 m.bursts
    · exact bad (by rw [hfe, hall]; simp)
    · have hform : formP m = true := by rw [hfe, c1, c2, c3, c4, c5, hall]; rfl
      rw [if_pos rfl]
      have hmp : machP m = (match codesM m with | some cs => if (!(cs.any fun a => decide (([] : List UInt8) = a)) && maxP m.bursts) = true then some cs else none | none => none) := by
        unfold machP
        rw [if_pos hform]
        try rfl
      unfold MCodes
      rw [hmp]
      cases hc : codesM m with
      | none => exact ⟨.lst [], rfl, fun cs h => by cases h⟩
      | some cs =>
        simp only
        cases hx : (!(cs.any fun a => decide (([] : List UInt8) = a)) && maxP m.bursts)
        · exact ⟨_, rfl, fun cs' h => by simp at h⟩
        · exact ⟨_, rfl, fun cs' h => by simp at h; rw [h]⟩
theorem at_r_IsValidMachine (m : PMach) (hm : m.Fit) (hb : BdMachine 1048576 m) : s_r_IsValidMachine [eMach m] = some (pB (machP m).isSome) := by
  have g := p_r_l24Good m hm hb
  simp only [eMach] at g
  show (fun x0 => s_r_IsValidMachine [x0]) _ = _
  rw [sh_r_IsValidMachine]
  simp only [eMach, g, EVS]
theorem at_i_IsValidMachine (m : PMach) (hm : m.Fit) (hb : BdMachine 1048576 m) : s_i_IsValidMachine [eMach m] = some (pB (machP m).isSome) := by
  obtain ⟨X, g, _⟩ := p_i_machineCodes m hm hb
  simp only [eMach] at g
  show (fun x0 => s_i_IsValidMachine [x0]) _ = _
  rw [sh_i_IsValidMachine]
  simp only [eMach, g, EVS]
theorem law_IsValidMachine (m : PMach) (hm : BdMachine 9223372036854775807 m) : s_w_FnExactIsValidMachine [eMach m] = some (pB true) := by
  have hf := PMach.fit_of hm
  have a3 := eq_Machine m hm
  obtain ⟨r, a4, _, hz⟩ := sz_Machine m 1048576 hm (by omega) (by omega)
  simp only [eMach] at a3 a4
  show (fun x0 => s_w_FnExactIsValidMachine [x0]) _ = _
  rw [sh_w_FnExactIsValidMachine]
  simp only [eMach, a4, EVS]
  by_cases c2 : r < 0 <;> simp only [c2, EVS]
  have hb := hz (by omega)
  have a1 := at_r_IsValidMachine m hf hb
  have a2 := at_i_IsValidMachine m hf hb
  have a5 := to_Machine m hb
  simp only [eMach] at a1 a2 a5
  simp only [a1, a2, a3, a5, beq_self_eq_true, EVS]
end Go.Proofs.Ytidjggipnfapfaa

namespace Go.Proofs.Ytidjggipnfapfaa
open Go.RowKit
set_option linter.unusedVariables false
set_option linter.unusedSimpArgs false
def stateAns (m : PMach) (k : Int) : List UInt8 × Bool := match machP m with | some cs => if (inR k 0 (lastS m)) = true then (cs.getD k.toNat [], true) else ([], false) | none => ([], false)
theorem machP_form {m : PMach} {cs : List (List UInt8)} (h : machP m = some cs) : formP m = true ∧ codesM m = some cs := by
  unfold machP at h
  split at h
  · rename_i hf
    refine ⟨hf, ?_⟩
    split at h
    · rename_i c hc
      split at h
      · cases h; exact hc
      · cases h
    · cases h
  · cases h
theorem last_S {m : PMach} (h : formP m = true) : lastS m = m.states - 1 ∧ 1 ≤ m.states ∧ m.states ≤ 6 := by
  unfold formP inR at h
  simp only [Bool.and_eq_true, decide_eq_true_eq] at h
  refine ⟨wrap_of (by omega) (by omega), by omega, by omega⟩
theorem at_r_StateCode (m : PMach) (k : Int) (hm : m.Fit) (hb : BdMachine 1048576 m) : s_r_StateCode [eMach m, pI k] = some (.tup [.str (stateAns m k).1, pB (stateAns m k).2]) := by
  have g1 := p_r_l24Good m hm hb
  have g2 := p_r_l1In k 0 (lastS m)
  have hw : IntKind.i64.wrap (m.states - 1) = lastS m := rfl
  simp only [eMach] at g1
  show (fun x0 x1 => s_r_StateCode [x0, x1]) _ _ = _
  rw [sh_r_StateCode]
  unfold stateAns
  cases hc : machP m with
  | none =>
    rw [hc] at g1
    simp only [Option.isSome_none] at g1
    simp only [eMach, g1, EVS]
    rfl
  | some cs =>
    rw [hc] at g1
    simp only [Option.isSome_some] at g1
    obtain ⟨hform, hcm⟩ := machP_form hc
    have hf := machFit hform hb
    have g3 := p_r_l24Codes m _ _ hf
    rw [hcm] at g3
    simp only [eMach] at g3
    have hl := codesM_len hf hcm
    have hls := last_S hform
    simp only [eMach, g1, hw, g2, inR, EVS]
    obtain c1 | c1 := (Bool.eq_false_or_eq_true (decide (0 ≤ k) && decide (k ≤ lastS m))).symm <;> simp only [c1, hw, g2, EVS]
    · rfl
    simp only [Bool.and_eq_true, decide_eq_true_eq] at c1
    obtain ⟨j, rfl⟩ := Int.eq_ofNat_of_zero_le c1.1
    have hjl : j < cs.length := by omega
    have hp : plcV (cs.map PV.str) (.int .i64 (j : Int)) = some (.int .i64 (j : Int)) := plc_at (by rw [List.length_map]; exact hjl)
    have hg : (cs.map PV.str)[j]? = some (.str cs[j]) := by rw [List.getElem?_map, List.getElem?_eq_getElem hjl]; rfl
    simp only [g3, hp, hg, EVS]
    rw [List.getD_eq_getElem?_getD, List.getElem?_eq_getElem hjl]
    rfl
theorem at_i_StateCode (m : PMach) (k : Int) (hm : m.Fit) (hb : BdMachine 1048576 m) : s_i_StateCode [eMach m, pI k] = some (.tup [.str (stateAns m k).1, pB (stateAns m k).2]) := by
  obtain ⟨X, g1, hX⟩ := p_i_machineCodes m hm hb
  have g2 := p_i_within k 0 (lastS m)
  have hw : IntKind.i64.wrap (m.states - 1) = lastS m := rfl
  simp only [eMach] at g1
  show (fun x0 x1 => s_i_StateCode [x0, x1]) _ _ = _
  rw [sh_i_StateCode]
  unfold stateAns
  cases hc : machP m with
  | none =>
    rw [hc] at g1
    simp only [Option.isSome_none] at g1
    simp only [eMach, g1, EVS]
    rfl
  | some cs =>
    rw [hc] at g1
    simp only [Option.isSome_some] at g1
    rw [hX cs hc] at g1
    obtain ⟨hform, hcm⟩ := machP_form hc
    have hf := machFit hform hb
    have hl := codesM_len hf hcm
    have hls := last_S hform
    simp only [eMach, g1, hw, g2, EVS]
    obtain c1 | c1 := (Bool.eq_false_or_eq_true (inR k 0 (lastS m))).symm <;> simp only [c1, hw, g2, EVS]
    · rfl
    unfold inR at c1
    simp only [Bool.and_eq_true, decide_eq_true_eq] at c1
    obtain ⟨j, rfl⟩ := Int.eq_ofNat_of_zero_le c1.1
    have hjl : j < cs.length := by omega
    have hp : plcV (cs.map PV.str) (.int .i64 (j : Int)) = some (.int .i64 (j : Int)) := plc_at (by rw [List.length_map]; exact hjl)
    have hg : (cs.map PV.str)[j]? = some (.str cs[j]) := by rw [List.getElem?_map, List.getElem?_eq_getElem hjl]; rfl
    simp only [hp, hg, EVS]
    rw [List.getD_eq_getElem?_getD, List.getElem?_eq_getElem hjl]
    rfl
theorem law_StateCode (m : PMach) (k : Int) (hm : BdMachine 9223372036854775807 m) : s_w_FnExactStateCode [eMach m, pI k] = some (pB true) := by
  have hf := PMach.fit_of hm
  have a3 := eq_Machine m hm
  obtain ⟨r, a4, _, hz⟩ := sz_Machine m 1048576 hm (by omega) (by omega)
  simp only [eMach] at a3 a4
  show (fun x0 x1 => s_w_FnExactStateCode [x0, x1]) _ _ = _
  rw [sh_w_FnExactStateCode]
  simp only [eMach, a4, EVS]
  by_cases c2 : r < 0 <;> simp only [c2, EVS]
  have hb := hz (by omega)
  have a1 := at_r_StateCode m k hf hb
  have a2 := at_i_StateCode m k hf hb
  have a5 := to_Machine m hb
  simp only [eMach] at a1 a2 a5
  simp only [a1, a2, a3, a5, beq_self_eq_true, EVS]
/-! ### executions -/
def wordP (sigs : List (List UInt8 × Int)) (x : Int × Bool) : List UInt8 := (sigs.getD x.1.toNat ([], 0)).1 ++ [if x.2 = true then 43 else 45]
theorem p_r_l24Word (sigs : List (List UInt8 × Int)) (x : Int × Bool) (h : 0 ≤ x.1 ∧ x.1 < sigs.length) (hn : ∀ s ∈ sigs, s.1.length ≤ 1048576) : s_r_l24Word [.lst (sigs.map eSig), ePin x] = some (.str (wordP sigs x)) := by
  obtain ⟨j, hj⟩ : ∃ j : Nat, x.1 = j := ⟨x.1.toNat, by omega⟩
  have hjl : j < sigs.length := by omega
  have hi : idxV (.lst (sigs.map eSig)) (.int .i64 (j : Int)) = some (eSig sigs[j]) := idx_map (List.getElem?_eq_getElem hjl)
  have hnl := hn sigs[j] (List.getElem_mem hjl)
  have a1 : ∀ p, binV .add TD.str (.str sigs[j].1) (.str [UInt8.ofBitVec (BitVec.ofFin (Fin.mk 43 p))]) = some (.str (sigs[j].1 ++ [43])) := fun _ => bs_add (by simp; omega)
  have a2 : ∀ p, binV .add TD.str (.str sigs[j].1) (.str [UInt8.ofBitVec (BitVec.ofFin (Fin.mk 45 p))]) = some (.str (sigs[j].1 ++ [45])) := fun _ => bs_add (by simp; omega)
  have hwp : wordP sigs x = sigs[j].1 ++ [if x.2 = true then 43 else 45] := by
    unfold wordP
    rw [hj, Int.toNat_natCast, List.getD_eq_getElem?_getD, List.getElem?_eq_getElem hjl]
    rfl
  rw [hwp]
  show (fun x0 x1 => s_r_l24Word [x0, x1]) _ _ = _
  rw [sh_r_l24Word]
  cases hu : x.2 <;> simp only [ePin, hu, hj, hi, eSig, a1, a2, List.drop_zero, EVS]
theorem p_i_edgeText (sigs : List (List UInt8 × Int)) (x : Int × Bool) (h : 0 ≤ x.1 ∧ x.1 < sigs.length) (hn : ∀ s ∈ sigs, s.1.length ≤ 1048576) : s_i_edgeText [.lst (sigs.map eSig), ePin x] = some (.str (wordP sigs x)) := by
  obtain ⟨j, hj⟩ : ∃ j : Nat, x.1 = j := ⟨x.1.toNat, by omega⟩
  have hjl : j < sigs.length := by omega
  have hi : idxV (.lst (sigs.map eSig)) (.int .i64 (j : Int)) = some (eSig sigs[j]) := idx_map (List.getElem?_eq_getElem hjl)
  have hnl := hn sigs[j] (List.getElem_mem hjl)
  have a1 : ∀ p, binV .add TD.str (.str sigs[j].1) (.str [UInt8.ofBitVec (BitVec.ofFin (Fin.mk 43 p))]) = some (.str (sigs[j].1 ++ [43])) := fun _ => bs_add (by simp; omega)
  have a2 : ∀ p, binV .add TD.str (.str sigs[j].1) (.str [UInt8.ofBitVec (BitVec.ofFin (Fin.mk 45 p))]) = some (.str (sigs[j].1 ++ [45])) := fun _ => bs_add (by simp; omega)
  have hwp : wordP sigs x = sigs[j].1 ++ [if x.2 = true then 43 else 45] := by
    unfold wordP
    rw [hj, Int.toNat_natCast, List.getD_eq_getElem?_getD, List.getElem?_eq_getElem hjl]
    rfl
  have h0 : decide ((j : Int) < 0) = false := by simp
  rw [hwp]
  show (fun x0 x1 => s_i_edgeText [x0, x1]) _ _ = _
  rw [sh_i_edgeText]
  cases hu : x.2 <;> simp only [ePin, hu, hj, hi, h0, eSig, a1, a2, List.drop_zero, EVS]
def wordsP (sigs : List (List UInt8 × Int)) (l : List (Int × Bool)) : List UInt8 := l.flatMap (wordP sigs)
theorem words_fold {R : Type} (sigs : List (List UInt8 × Int)) (E : List UInt8 → Option R) : ∀ (l : List (Int × Bool)) (k : Nat) (s : List UInt8), foldGo (fun (s : List UInt8) _ x => .inl (s ++ wordP sigs x)) E k s l = E (s ++ wordsP sigs l)
  | [], k, s => by simp [foldGo, wordsP]
  | x :: r, k, s => by
    unfold foldGo
    simp only
    rw [words_fold sigs E r]
    simp [wordsP, List.append_assoc]
theorem wordP_len (sigs : List (List UInt8 × Int)) (x : Int × Bool) (hn : ∀ s ∈ sigs, s.1.length ≤ 1048576) : (wordP sigs x).length ≤ 1048577 := by
  unfold wordP
  rw [List.length_append, List.getD_eq_getElem?_getD]
  cases h : sigs[x.1.toNat]? with
  | none => simp
  | some s => have := hn s (List.mem_of_getElem? h); simp; omega
theorem wordsP_len (sigs : List (List UInt8 × Int)) (hn : ∀ s ∈ sigs, s.1.length ≤ 1048576) : ∀ l : List (Int × Bool), (wordsP sigs l).length ≤ l.length * 1048577
  | [] => by simp [wordsP]
  | x :: r => by
    have h1 := wordP_len sigs x hn
    have h2 := wordsP_len sigs hn r
    unfold wordsP at h2 ⊢
    rw [List.flatMap_cons, List.length_append, List.length_cons, Nat.succ_mul]
    omega
/-- One burst of an execution. -/
def execStep (m : PMach) (st : List UInt8 × Int) (i : Int) : Sum (List UInt8 × Int) (Option PV) :=
  match (if 0 ≤ i then m.bursts[i.toNat]? else none) with
  | some b => if b.from_ = st.2 then .inl (st.1 ++ wordsP m.signals (b.ins ++ b.outs), b.to_) else .inr (some (.tup [pI 0, .str [], pB false]))
  | none => .inr (some (.tup [pI 0, .str [], pB false]))
def execAns (m : PMach) (l : List Int) : Option PV := if ((machP m).isSome && !decide (200 < (l.length : Int))) = true then foldGo (fun st _ i => execStep m st i) (fun st => some (.tup [pI st.2, .str st.1, pB true])) 0 ([], 0) l else some (.tup [pI 0, .str [], pB false])
theorem execAns_form (m : PMach) (l : List Int) : ∃ a b c, execAns m l = some (.tup [pI a, .str b, pB c]) := by
  unfold execAns
  split
  · have : ∀ (l : List Int) (k : Nat) (st : List UInt8 × Int), ∃ a b c, foldGo (fun st _ i => execStep m st i) (fun st => some (.tup [pI st.2, .str st.1, pB true])) k st l = some (.tup [pI a, .str b, pB c]) := by
      intro l
      induction l with
      | nil => intro k st; exact ⟨_, _, _, rfl⟩
      | cons i r ih =>
        intro k st
        unfold foldGo
        cases hs : execStep m st i with
        | inl st' => exact ih _ _
        | inr z =>
          unfold execStep at hs
          split at hs
          · split at hs
            · cases hs
            · cases hs; exact ⟨_, _, _, rfl⟩
          · cases hs; exact ⟨_, _, _, rfl⟩
    exact this l 0 _
  · exact ⟨_, _, _, rfl⟩
theorem at_r_ExecuteBursts (m : PMach) (l : List Int) (hl : Fits l) (hm : m.Fit) (hb : BdMachine 1048576 m) : s_r_ExecuteBursts [eMach m, .lst (l.map pI)] = execAns m l := by
  unfold Fits at hl
  have g1 := p_r_l24Good m hm hb
  simp only [eMach] at g1
  show (fun x0 x1 => s_r_ExecuteBursts [x0, x1]) _ _ = _
  rw [sh_r_ExecuteBursts]
  unfold execAns
  cases hc : machP m with
  | none =>
    rw [hc] at g1
    simp only [Option.isSome_none] at g1
    simp only [eMach, g1, Option.isSome_none, EVS]
    rfl
  | some cs =>
    rw [hc] at g1
    simp only [Option.isSome_some] at g1
    obtain ⟨hform, hcm⟩ := machP_form hc
    have hf := machFit hform hb
    have hnb := hf.nb
    have hnames : ∀ s ∈ m.signals, s.1.length ≤ 1048576 := hb.1.2
    simp only [eMach, g1, Option.isSome_some, EVS]
    obtain c1 | c1 := (Bool.eq_false_or_eq_true (decide (200 < (l.length : Int)))).symm <;> simp only [c1, EVS]
    rotate_left
    · rfl
    simp only [decide_eq_false_iff_not] at c1
    have hw1 : IntKind.i64.wrap ((m.bursts.length : Int) - 1) = (m.bursts.length : Int) - 1 := wrap_of (by omega) (by omega)
    refine (congrArg (fun m : Option PV => m.bind fun r => if r.sc = true then some r else none) (foldLoop (R := PV) l (fun (st : List UInt8 × Int) k => [.str st.1, pI st.2, pI (Int.ofNat k)]) (fun k st => st.1.length ≤ k * 2199025352704) (fun st _ i => execStep m st i) (fun st => some (.tup [pI st.2, .str st.1, pB true])) _ hl (fun st k i st' hst hi he => ?_) (fun again st k i hst hi => ?_) (fun again st hst => ?_) (b := (([] : List UInt8), (0 : Int))) (by simp))).trans ?_
    · unfold execStep at he
      split at he
      · rename_i b hbb
        split at he
        · cases he
          have hbm : b ∈ m.bursts := by
            split at hbb
            · exact List.mem_of_getElem? hbb
            · cases hbb
          have hbo := hf.bursts b hbm
          have h1 := wordsP_len m.signals hnames (b.ins ++ b.outs)
          have h2 : (b.ins ++ b.outs).length ≤ 2097152 := by rw [List.length_append]; have := hbo.ni; have := hbo.no; omega
          have h3 : (b.ins ++ b.outs).length * 1048577 ≤ 2097152 * 1048577 := Nat.mul_le_mul_right _ h2
          simp only [List.length_append] at h1 h2 h3 ⊢
          rw [Nat.succ_mul]
          omega
        · cases he
      · cases he
    · have hk := lt_of_some hi
      have hil : idxV (.lst (l.map pI)) (.int .i64 (k : Int)) = some (pI i) := idx_map hi
      have hk2 : decide ((k : Int) < (l.length : Int)) = true := lt_d hk
      have hwk := next_w hk hl
      have g2 := p_r_l1In i 0 ((m.bursts.length : Int) - 1)
      try unfold inR at g2
      simp only [hk2, hil, hw1, g2, EVS]
      unfold execStep
      obtain c2 | c2 := (Bool.eq_false_or_eq_true (decide (0 ≤ i) && decide (i ≤ (m.bursts.length : Int) - 1))).symm <;> simp only [c2, EVS]
      · have hno : (if 0 ≤ i then m.bursts[i.toNat]? else none) = none := by
          split
          · refine List.getElem?_eq_none ?_
            simp only [Bool.and_eq_false_iff, decide_eq_false_iff_not] at c2
            omega
          · rfl
        rw [hno]
      · simp only [Bool.and_eq_true, decide_eq_true_eq] at c2
        obtain ⟨j, rfl⟩ := Int.eq_ofNat_of_zero_le c2.1
        have hjl : j < m.bursts.length := by omega
        have hbi : idxV (.lst (m.bursts.map eBurst)) (.int .i64 (j : Int)) = some (eBurst m.bursts[j]) := idx_map (List.getElem?_eq_getElem hjl)
        obtain ⟨b, hbe⟩ : ∃ b, m.bursts[j] = b := ⟨_, rfl⟩
        have hbm : b ∈ m.bursts := by rw [← hbe]; exact List.getElem_mem hjl
        have hbo := hf.bursts b hbm
        rw [if_pos c2.1, Int.toNat_natCast, List.getElem?_eq_getElem hjl, hbe]
        rw [hbe] at hbi
        simp only [hbi, eBurst, List.drop_zero, EVS]
        by_cases c3 : b.from_ = st.2
        · have hd3 : decide (b.from_ = st.2) = true := by simpa using c3
          have g3 := p_r_l24All b hbo.ni hbo.no
          simp only [eBurst] at g3
          have hll : (b.ins ++ b.outs).length ≤ 2097152 := by rw [List.length_append]; have := hbo.ni; have := hbo.no; omega
          simp only [if_pos c3, hd3, hbi, eBurst, List.drop_zero, List.drop_succ_cons, g3, hwk, EVS]
          have hst2 : st.1.length ≤ 200 * 2199025352704 := Nat.le_trans hst (Nat.mul_le_mul_right _ (by omega))
          refine (foldLoop (R := PV) (b.ins ++ b.outs) (fun (s : List UInt8) q => [.str s, pI (Int.ofNat q)]) (fun q s => s.length ≤ st.1.length + q * 1048577) (fun s _ x => .inl (s ++ wordP m.signals x)) (fun s => again [.str s, pI b.to_, pI (Int.ofNat (k + 1))]) _ (by omega) (fun s q x s' hs hx he => ?_) (fun again' s q x hs hx => ?_) (fun again' s hs => ?_) (b := st.1) (by omega)).trans ?_
          · simp only [Sum.inl.injEq] at he
            subst he
            have := wordP_len m.signals x hnames
            rw [List.length_append, Nat.succ_mul]
            omega
          · have hq := lt_of_some hx
            have hxs := hbo.sig x (List.mem_of_getElem? hx)
            have hp : plcV ((b.ins ++ b.outs).map ePin) (.int .i64 (q : Int)) = some (.int .i64 (q : Int)) := plc_at (by rw [List.length_map]; exact hq)
            have hg : ((b.ins ++ b.outs).map ePin)[q]? = some (ePin x) := by rw [List.getElem?_map, hx]; rfl
            have g4 := p_r_l24Word m.signals x hxs hnames
            have hq2 : q * 1048577 ≤ 2097152 * 1048577 := Nat.mul_le_mul_right _ (by omega)
            have hwl := wordP_len m.signals x hnames
            have ha : binV .add TD.str (.str s) (.str (wordP m.signals x)) = some (.str (s ++ wordP m.signals x)) := bs_add (by omega)
            simp only [ePin] at g4
            simp only [lt_d hq, next_w hq (show (b.ins ++ b.outs).length ≤ 9223372036854775807 by omega), hp, hg, ePin, g4, ha, EVS]
          · simp only [ge_d, hwk, EVS]
          · rw [words_fold]
            rfl
        · have hd3 : decide (b.from_ = st.2) = false := by simpa using c3
          simp only [if_neg c3, hd3, EVS]
    · simp only [ge_d, EVS]
    · have h0 : ∀ x : Option PV, (∃ a b c, x = some (.tup [pI a, .str b, pB c])) → (x.bind fun r => if r.sc = true then some r else none) = x := by
        rintro _ ⟨a, b, c, rfl⟩
        rfl
      refine h0 _ ?_
      obtain ⟨a, b, c, he⟩ := execAns_form m l
      refine ⟨a, b, c, ?_⟩
      rw [← he]
      unfold execAns
      have : decide (200 < (l.length : Int)) = false := by simpa using c1
      rw [hc, this]
      rfl
theorem at_i_ExecuteBursts (m : PMach) (l : List Int) (hl : Fits l) (hm : m.Fit) (hb : BdMachine 1048576 m) : s_i_ExecuteBursts [eMach m, .lst (l.map pI)] = execAns m l := by
  unfold Fits at hl
  have g1 := at_i_IsValidMachine m hm hb
  simp only [eMach] at g1
  show (fun x0 x1 => s_i_ExecuteBursts [x0, x1]) _ _ = _
  rw [sh_i_ExecuteBursts]
  unfold execAns
  cases hc : machP m with
  | none =>
    rw [hc] at g1
    simp only [Option.isSome_none] at g1
    simp only [eMach, g1, Option.isSome_none, EVS]
    rfl
  | some cs =>
    rw [hc] at g1
    simp only [Option.isSome_some] at g1
    obtain ⟨hform, hcm⟩ := machP_form hc
    have hf := machFit hform hb
    have hnb := hf.nb
    have hnames : ∀ s ∈ m.signals, s.1.length ≤ 1048576 := hb.1.2
    simp only [eMach, g1, Option.isSome_some, EVS]
    obtain c1 | c1 := (Bool.eq_false_or_eq_true (decide (200 < (l.length : Int)))).symm <;> simp only [c1, EVS]
    rotate_left
    · rfl
    simp only [decide_eq_false_iff_not] at c1
    have hw1 : IntKind.i64.wrap ((m.bursts.length : Int) - 1) = (m.bursts.length : Int) - 1 := wrap_of (by omega) (by omega)
    refine (congrArg (fun m : Option PV => m.bind fun r => if r.sc = true then some r else none) (foldLoop (R := PV) l (fun (st : List UInt8 × Int) k => [.str st.1, pI st.2, pI (Int.ofNat k)]) (fun k st => st.1.length ≤ k * 2199025352704) (fun st _ i => execStep m st i) (fun st => some (.tup [pI st.2, .str st.1, pB true])) _ hl (fun st k i st' hst hi he => ?_) (fun again st k i hst hi => ?_) (fun again st hst => ?_) (b := (([] : List UInt8), (0 : Int))) (by simp))).trans ?_
    · unfold execStep at he
      split at he
      · rename_i b hbb
        split at he
        · cases he
          have hbm : b ∈ m.bursts := by
            split at hbb
            · exact List.mem_of_getElem? hbb
            · cases hbb
          have hbo := hf.bursts b hbm
          have h1 := wordsP_len m.signals hnames (b.ins ++ b.outs)
          have h2 : (b.ins ++ b.outs).length ≤ 2097152 := by rw [List.length_append]; have := hbo.ni; have := hbo.no; omega
          have h3 : (b.ins ++ b.outs).length * 1048577 ≤ 2097152 * 1048577 := Nat.mul_le_mul_right _ h2
          simp only [List.length_append] at h1 h2 h3 ⊢
          rw [Nat.succ_mul]
          omega
        · cases he
      · cases he
    · have hk := lt_of_some hi
      have hil : idxV (.lst (l.map pI)) (.int .i64 (k : Int)) = some (pI i) := idx_map hi
      have hk2 : decide ((k : Int) < (l.length : Int)) = true := lt_d hk
      have hwk := next_w hk hl
      have g2 := p_i_within i 0 ((m.bursts.length : Int) - 1)
      try unfold inR at g2
      simp only [hk2, hil, hw1, g2, EVS]
      unfold execStep
      obtain c2 | c2 := (Bool.eq_false_or_eq_true (decide (0 ≤ i) && decide (i ≤ (m.bursts.length : Int) - 1))).symm <;> simp only [c2, EVS]
      · have hno : (if 0 ≤ i then m.bursts[i.toNat]? else none) = none := by
          split
          · refine List.getElem?_eq_none ?_
            simp only [Bool.and_eq_false_iff, decide_eq_false_iff_not] at c2
            omega
          · rfl
        rw [hno]
      · simp only [Bool.and_eq_true, decide_eq_true_eq] at c2
        obtain ⟨j, rfl⟩ := Int.eq_ofNat_of_zero_le c2.1
        have hjl : j < m.bursts.length := by omega
        have hbi : idxV (.lst (m.bursts.map eBurst)) (.int .i64 (j : Int)) = some (eBurst m.bursts[j]) := idx_map (List.getElem?_eq_getElem hjl)
        obtain ⟨b, hbe⟩ : ∃ b, m.bursts[j] = b := ⟨_, rfl⟩
        have hbm : b ∈ m.bursts := by rw [← hbe]; exact List.getElem_mem hjl
        have hbo := hf.bursts b hbm
        rw [if_pos c2.1, Int.toNat_natCast, List.getElem?_eq_getElem hjl, hbe]
        rw [hbe] at hbi
        simp only [hbi, eBurst, List.drop_zero, EVS]
        by_cases c3 : b.from_ = st.2
        · have hd3 : decide (b.from_ = st.2) = true := by simpa using c3
          have g3 := p_i_Burst_labels b hbo.ni hbo.no
          simp only [eBurst] at g3
          have hll : (b.ins ++ b.outs).length ≤ 2097152 := by rw [List.length_append]; have := hbo.ni; have := hbo.no; omega
          simp only [if_pos c3, hd3, hbi, eBurst, List.drop_zero, List.drop_succ_cons, g3, hwk, EVS]
          have hst2 : st.1.length ≤ 200 * 2199025352704 := Nat.le_trans hst (Nat.mul_le_mul_right _ (by omega))
          refine (foldLoop (R := PV) (b.ins ++ b.outs) (fun (s : List UInt8) q => [.str s, pI (Int.ofNat q)]) (fun q s => s.length ≤ st.1.length + q * 1048577) (fun s _ x => .inl (s ++ wordP m.signals x)) (fun s => again [.str s, pI b.to_, pI (Int.ofNat (k + 1))]) _ (by omega) (fun s q x s' hs hx he => ?_) (fun again' s q x hs hx => ?_) (fun again' s hs => ?_) (b := st.1) (by omega)).trans ?_
          · simp only [Sum.inl.injEq] at he
            subst he
            have := wordP_len m.signals x hnames
            rw [List.length_append, Nat.succ_mul]
            omega
          · have hq := lt_of_some hx
            have hxs := hbo.sig x (List.mem_of_getElem? hx)
            have hp : plcV ((b.ins ++ b.outs).map ePin) (.int .i64 (q : Int)) = some (.int .i64 (q : Int)) := plc_at (by rw [List.length_map]; exact hq)
            have hg : ((b.ins ++ b.outs).map ePin)[q]? = some (ePin x) := by rw [List.getElem?_map, hx]; rfl
            have g4 := p_i_edgeText m.signals x hxs hnames
            have hq2 : q * 1048577 ≤ 2097152 * 1048577 := Nat.mul_le_mul_right _ (by omega)
            have hwl := wordP_len m.signals x hnames
            have ha : binV .add TD.str (.str s) (.str (wordP m.signals x)) = some (.str (s ++ wordP m.signals x)) := bs_add (by omega)
            simp only [ePin] at g4
            simp only [lt_d hq, next_w hq (show (b.ins ++ b.outs).length ≤ 9223372036854775807 by omega), hp, hg, ePin, g4, ha, EVS]
          · simp only [ge_d, hwk, EVS]
          · rw [words_fold]
            rfl
        · have hd3 : decide (b.from_ = st.2) = false := by simpa using c3
          simp only [if_neg c3, hd3, EVS]
    · simp only [ge_d, EVS]
    · have h0 : ∀ x : Option PV, (∃ a b c, x = some (.tup [pI a, .str b, pB c])) → (x.bind fun r => if r.sc = true then some r else none) = x := by
        rintro _ ⟨a, b, c, rfl⟩
        rfl
      refine h0 _ ?_
      obtain ⟨a, b, c, he⟩ := execAns_form m l
      refine ⟨a, b, c, ?_⟩
      rw [← he]
      unfold execAns
      have : decide (200 < (l.length : Int)) = false := by simpa using c1
      rw [hc, this]
      rfl
end Go.Proofs.Ytidjggipnfapfaa

namespace Go.Proofs.Ytidjggipnfapfaa
open Go.RowKit
set_option linter.unusedVariables false
set_option linter.unusedSimpArgs false
theorem to_IntS (xs : List (Int)) (hb : (xs).length ≤ 1048576) : s_w_toIntS [.lst (xs.map pI)] = some (.lst (xs.map pI)) := by
  have hx : xs.length ≤ 1048576 := hb
  show (fun x0 => s_w_toIntS [x0]) _ = _
  rw [sh_w_toIntS]
  simp only [mk_v _ _ (show xs.length ≤ 4294967296 by omega), List.length_map, EVS]
  refine toLoop xs pI 1 _ _ (by omega) ?_ (fun _ => ?_) (fun _ => ?_) (fun again k x row el hk hl he hs => ?_) (fun again row => ?_)
  · rfl
  · rfl
  · constructor <;> (rintro ⟨l, h⟩; cases h)
  · have hi : idxV (.lst (xs.map pI)) (.int .i64 (k : Int)) = some ((pI x)) := idx_map hk
    have hkr : k < row.length := by rw [hl]; exact lt_of_some hk
    simp only [lt_d (lt_of_some hk), next_w (lt_of_some hk) (show xs.length ≤ 9223372036854775807 by omega), hi, plc_at hkr, he, hs, EVS]
  · simp only [ge_d, EVS]
theorem eq_IntS (xs : List (Int)) (hb : (xs).length ≤ 9223372036854775807) : s_w_eqIntS [.lst (xs.map pI), .lst (xs.map pI)] = some (pB true) := by
  have hx : xs.length ≤ 9223372036854775807 := hb
  show (fun x0 x1 => s_w_eqIntS [x0, x1]) _ _ = _
  rw [sh_w_eqIntS]
  simp only [List.length_map, EVS]
  refine (congrArg (fun m : Option PV => m.bind fun r => if r.sc = true then some r else none) (rangeAll (R := PV) xs (fun _ _ => true) (some (pB false)) (some (pB true)) _ hx (fun again k x hk => ?_) (fun again => ?_))).trans ?_
  · have hi : idxV (.lst (xs.map pI)) (.int .i64 (k : Int)) = some ((pI x)) := idx_map hk
    simp only [lt_d (lt_of_some hk), next_w (lt_of_some hk) hx, hi, beq_self_eq_true, EVS]
  · simp only [ge_d, EVS]
  · rw [show allK (fun (_ : Nat) (_ : Int) => true) 0 xs = true from allK_true xs 0]; rfl
end Go.Proofs.Ytidjggipnfapfaa

namespace Go.Proofs.Ytidjggipnfapfaa
open Go.RowKit
set_option linter.unusedVariables false
set_option linter.unusedSimpArgs false
theorem law_ExecuteBursts (m : PMach) (l : List Int) (hm : BdMachine 9223372036854775807 m) (hl : l.length ≤ 9223372036854775807) : s_w_FnExactExecuteBursts [eMach m, .lst (l.map pI)] = some (pB true) := by
  have hf := PMach.fit_of hm
  have a3 := eq_Machine m hm
  have a3' := eq_IntS l hl
  obtain ⟨r, a4, _, hz⟩ := sz_Machine m 1048576 hm (by omega) (by omega)
  simp only [eMach] at a3 a4
  show (fun x0 x1 => s_w_FnExactExecuteBursts [x0, x1]) _ _ = _
  rw [sh_w_FnExactExecuteBursts]
  simp only [eMach, a4, EVS]
  by_cases c1 : (1048576 : Int) < l.length <;> simp only [c1, EVS]
  by_cases c2 : r < 0 <;> simp only [c2, EVS]
  have hb := hz (by omega)
  have a1 := at_r_ExecuteBursts m l hl hf hb
  have a2 := at_i_ExecuteBursts m l hl hf hb
  obtain ⟨p, q, u, he⟩ := execAns_form m l
  rw [he] at a1 a2
  have a5 := to_Machine m hb
  have a5' := to_IntS l (by omega)
  simp only [eMach] at a1 a2 a5
  simp only [a1, a2, a3, a3', a5, a5', beq_self_eq_true, EVS]
end Go.Proofs.Ytidjggipnfapfaa
