/- What Valid, Small, Same, put and with answer. -/
import Derived.Test.YtlcobphakhcmiaaPAllx0
import Derived.Test.YtlcobphakhcmiaaPAllx3
import Derived.Test.YtlcobphakhcmiaaPAllx6
import Derived.Test.YtlcobphakhcmiaaExtPlain2
namespace Go.Proofs.Ytlcobphakhcmiaa.PAll
open Go.RowKit Go.Proofs.YtlcobphakhcmiaaW.PrintWords Go.Proofs.YtlcobphakhcmiaaW.PrintLast
set_option linter.unusedVariables false
set_option linter.unusedSimpArgs false

/-! ### Valid -/
def okPrev (p : Option ByteArray) (v : S26) : Bool := match p with
  | none => true
  | some p => lt p v.f0
def valFrom : Option ByteArray → List S26 → Int
  | _, [] => 0
  | p, v :: t => if nameB v.f0 = true then (if (v.f1.size : Int) > 4096 then 3 else if v.f2 = true ∨ v.f1.toList = [] then (if okPrev p v = true then valFrom (some v.f0) t else 1) else 1) else 10
def valF (l : List S26) : Int := if (l.length : Int) > 128 then 4 else valFrom none l
/-- The name before place i. -/
def PrevAt (l : List S26) (i : Nat) (p : Option ByteArray) : Prop := (i = 0 ∧ p = none) ∨ ∃ (j : Nat) (h : j < l.length), i = j + 1 ∧ p = some l[j].f0
theorem ev_rValid_l0 (l : List S26) (hm : l.length ≤ 128) : ∀ (d i : Nat) (p : Option ByteArray), l.length - i = d → i ≤ l.length → PrevAt l i p → Ev (fun k => jobshellref15_Valid.l0 k l i) (valFrom p (l.drop i)) := by
  intro d
  induction d with
  | zero =>
    intro i p h1 h2 hp
    refine Ev.step (fun k => ?_) (Ev.now _)
    simp only [jobshellref15_Valid.l0]
    rw [if_neg (by omega), List.drop_of_length_le (by omega)]
    rfl
  | succ d ih =>
    intro i p h1 h2 hp
    have hi : i < l.length := by omega
    rw [dropc l i hi]
    have loop : okPrev p l[i] = true → Ev (fun k => jobshellref15_Valid.l0 k l ((i + 1 : Nat) : Int)) (valFrom (some l[i].f0) (l.drop (i + 1))) := fun _ => ih (i + 1) _ (by omega) (by omega) (.inr ⟨i, hi, rfl, rfl⟩)
    have tail : Ev (fun k => if (i : Int) > 0 then (if 0 ≤ (wrap64 ((i : Int) - 1)) then (if (wrap64 ((i : Int) - 1)) < (l.length : Int) then (if ((Op.bytesLess (((rd_T26 l (wrap64 ((i : Int) - 1))).f0).toList) (l[i].f0.toList)) = true) then (jobshellref15_Valid.l0 k l ((i + 1 : Nat) : Int)) else (some 1)) else (none)) else (none)) else (jobshellref15_Valid.l0 k l ((i + 1 : Nat) : Int))) (if okPrev p l[i] = true then valFrom (some l[i].f0) (l.drop (i + 1)) else 1) := by
      rcases hp with ⟨h0, rfl⟩ | ⟨j, hj, h0, rfl⟩
      · simp only [if_neg (show ¬ (i : Int) > 0 by omega)]
        rw [if_pos (show okPrev none l[i] = true from rfl)]
        exact loop rfl
      · have e1 : wrap64 ((i : Int) - 1) = (j : Int) := by rw [wrapP (by omega) (by omega), h0]; rfl
        simp only [if_pos (show (i : Int) > 0 by omega), e1, if_pos (ige j), if_pos (ilt hj), rdn l j hj]
        by_cases hl : Op.bytesLess l[j].f0.toList l[i].f0.toList = true
        · have : okPrev (some l[j].f0) l[i] = true := hl
          simp only [if_pos hl]
          rw [if_pos this]
          exact loop this
        · have : ¬ okPrev (some l[j].f0) l[i] = true := hl
          simp only [if_neg hl]
          rw [if_neg this]
          exact Ev.now _
    refine Ev.step (fun k => ?_) (Ev.bind (ev_rName l[i].f0) (f := fun k t => (if t = true then (if ((l[i].f1).size : Int) > 4096 then (some 3) else (if (l[i].f2 = true) then (if (i : Int) > 0 then (if 0 ≤ (wrap64 ((i : Int) - 1)) then (if (wrap64 ((i : Int) - 1)) < (l.length : Int) then (if ((Op.bytesLess (((rd_T26 l (wrap64 ((i : Int) - 1))).f0).toList) (l[i].f0.toList)) = true) then (jobshellref15_Valid.l0 k l ((i + 1 : Nat) : Int)) else (some 1)) else (none)) else (none)) else (jobshellref15_Valid.l0 k l ((i + 1 : Nat) : Int))) else (if (l[i].f1).toList = ([] : List UInt8) then (if (i : Int) > 0 then (if 0 ≤ (wrap64 ((i : Int) - 1)) then (if (wrap64 ((i : Int) - 1)) < (l.length : Int) then (if ((Op.bytesLess (((rd_T26 l (wrap64 ((i : Int) - 1))).f0).toList) (l[i].f0.toList)) = true) then (jobshellref15_Valid.l0 k l ((i + 1 : Nat) : Int)) else (some 1)) else (none)) else (none)) else (jobshellref15_Valid.l0 k l ((i + 1 : Nat) : Int))) else (some 1)))) else (some 10))) ?_)
    · simp only [jobshellref15_Valid.l0]
      rw [if_pos (ilt hi), if_pos (ige i), rdn l i hi, wrapS (by omega)]
    · simp only [valFrom]
      by_cases hn : nameB l[i].f0 = true
      · simp only [if_pos hn]
        by_cases hs : (l[i].f1.size : Int) > 4096
        · simp only [if_pos hs]
          exact Ev.now _
        · simp only [if_neg hs]
          by_cases h2 : l[i].f2 = true
          · simp only [if_pos h2, if_pos (show l[i].f2 = true ∨ l[i].f1.toList = [] from .inl h2)]
            exact tail
          · simp only [if_neg h2]
            by_cases h3 : l[i].f1.toList = []
            · simp only [if_pos h3, if_pos (show l[i].f2 = true ∨ l[i].f1.toList = [] from .inr h3)]
              exact tail
            · simp only [if_neg h3, if_neg (show ¬ (l[i].f2 = true ∨ l[i].f1.toList = []) from fun h => h.elim h2 h3)]
              exact Ev.now _
      · simp only [if_neg hn]
        exact Ev.now _
theorem ev_rValid (l : List S26) : Ev (fun k => jobshellref15_Valid.f k l) (valF l) := by
  unfold jobshellref15_Valid.f valF
  by_cases h : (l.length : Int) > 128
  · simp only [if_pos h]
    exact Ev.now _
  · simp only [if_neg h]
    exact ev_rValid_l0 l (by omega) l.length 0 none (by omega) (by omega) (.inl ⟨rfl, rfl⟩)
theorem ev_Valid_l0 (l : List S26) (hm : l.length ≤ 128) : ∀ (d i : Nat) (p : Option ByteArray), l.length - i = d → i ≤ l.length → PrevAt l i p → Ev (fun k => vars_Valid.l0 k l l (l.length : Int) i) (valFrom p (l.drop i)) := by
  intro d
  induction d with
  | zero =>
    intro i p h1 h2 hp
    refine Ev.step (fun k => ?_) (Ev.now _)
    simp only [vars_Valid.l0]
    rw [if_neg (by omega), List.drop_of_length_le (by omega)]
    rfl
  | succ d ih =>
    intro i p h1 h2 hp
    have hi : i < l.length := by omega
    rw [dropc l i hi]
    have loop : okPrev p l[i] = true → Ev (fun k => vars_Valid.l0 k l l (l.length : Int) ((i + 1 : Nat) : Int)) (valFrom (some l[i].f0) (l.drop (i + 1))) := fun _ => ih (i + 1) _ (by omega) (by omega) (.inr ⟨i, hi, rfl, rfl⟩)
    have tail : Ev (fun k => if (i : Int) > 0 then (if 0 ≤ (wrap64 ((i : Int) - 1)) then (if (wrap64 ((i : Int) - 1)) < (l.length : Int) then (if ((Op.bytesLess (((rd_T26 l (wrap64 ((i : Int) - 1))).f0).toList) (l[i].f0.toList)) = true) then (vars_Valid.l0 k l l (l.length : Int) ((i + 1 : Nat) : Int)) else (some 1)) else (none)) else (none)) else (vars_Valid.l0 k l l (l.length : Int) ((i + 1 : Nat) : Int))) (if okPrev p l[i] = true then valFrom (some l[i].f0) (l.drop (i + 1)) else 1) := by
      rcases hp with ⟨h0, rfl⟩ | ⟨j, hj, h0, rfl⟩
      · simp only [if_neg (show ¬ (i : Int) > 0 by omega)]
        rw [if_pos (show okPrev none l[i] = true from rfl)]
        exact loop rfl
      · have e1 : wrap64 ((i : Int) - 1) = (j : Int) := by rw [wrapP (by omega) (by omega), h0]; rfl
        simp only [if_pos (show (i : Int) > 0 by omega), e1, if_pos (ige j), if_pos (ilt hj), rdn l j hj]
        by_cases hl : Op.bytesLess l[j].f0.toList l[i].f0.toList = true
        · have : okPrev (some l[j].f0) l[i] = true := hl
          simp only [if_pos hl]
          rw [if_pos this]
          exact loop this
        · have : ¬ okPrev (some l[j].f0) l[i] = true := hl
          simp only [if_neg hl]
          rw [if_neg this]
          exact Ev.now _
    refine Ev.step (fun k => ?_) (f := fun k => (if nameB l[i].f0 = true then (if ((l[i].f1).size : Int) > 4096 then (some 3) else (if (l[i].f2 = true) then (if (i : Int) > 0 then (if 0 ≤ (wrap64 ((i : Int) - 1)) then (if (wrap64 ((i : Int) - 1)) < (l.length : Int) then (if ((Op.bytesLess (((rd_T26 l (wrap64 ((i : Int) - 1))).f0).toList) (l[i].f0.toList)) = true) then (vars_Valid.l0 k l l (l.length : Int) ((i + 1 : Nat) : Int)) else (some 1)) else (none)) else (none)) else (vars_Valid.l0 k l l (l.length : Int) ((i + 1 : Nat) : Int))) else (if (l[i].f1).toList = ([] : List UInt8) then (if (i : Int) > 0 then (if 0 ≤ (wrap64 ((i : Int) - 1)) then (if (wrap64 ((i : Int) - 1)) < (l.length : Int) then (if ((Op.bytesLess (((rd_T26 l (wrap64 ((i : Int) - 1))).f0).toList) (l[i].f0.toList)) = true) then (vars_Valid.l0 k l l (l.length : Int) ((i + 1 : Nat) : Int)) else (some 1)) else (none)) else (none)) else (vars_Valid.l0 k l l (l.length : Int) ((i + 1 : Nat) : Int))) else (some 1)))) else (some 10))) ?_
    · simp only [vars_Valid.l0]
      rw [if_pos (ilt hi), if_pos (ige i), if_pos (ilt hi), rdn l i hi, wrapS (by omega)]
      rfl
    · simp only [valFrom]
      by_cases hn : nameB l[i].f0 = true
      · simp only [if_pos hn]
        by_cases hs : (l[i].f1.size : Int) > 4096
        · simp only [if_pos hs]
          exact Ev.now _
        · simp only [if_neg hs]
          by_cases h2 : l[i].f2 = true
          · simp only [if_pos h2, if_pos (show l[i].f2 = true ∨ l[i].f1.toList = [] from .inl h2)]
            exact tail
          · simp only [if_neg h2]
            by_cases h3 : l[i].f1.toList = []
            · simp only [if_pos h3, if_pos (show l[i].f2 = true ∨ l[i].f1.toList = [] from .inr h3)]
              exact tail
            · simp only [if_neg h3, if_neg (show ¬ (l[i].f2 = true ∨ l[i].f1.toList = []) from fun h => h.elim h2 h3)]
              exact Ev.now _
      · simp only [if_neg hn]
        exact Ev.now _
theorem ev_Valid (l : List S26) : Ev (fun k => vars_Valid.f k l) (valF l) := by
  unfold vars_Valid.f valF
  by_cases h : (l.length : Int) > 128
  · simp only [if_pos h]
    exact Ev.now _
  · simp only [if_neg h]
    exact ev_Valid_l0 l (by omega) l.length 0 none (by omega) (by omega) (.inl ⟨rfl, rfl⟩)
end Go.Proofs.Ytlcobphakhcmiaa.PAll
