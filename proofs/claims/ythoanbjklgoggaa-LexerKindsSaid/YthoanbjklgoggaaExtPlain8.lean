/- Operator, Reserved and Skip: both sides answer the same. -/
import Derived.Test.YthoanbjklgoggaaPAllx2
import Derived.Test.YthoanbjklgoggaaPAllx6
import Derived.Test.YthoanbjklgoggaaPAllx12
import Derived.Test.YthoanbjklgoggaaPAllx13
import Derived.Test.YthoanbjklgoggaaExtPlain2
namespace Go.Proofs.Ythoanbjklgoggaa.PAll
open Go.RowKit Go.Proofs.YthoanbjklgoggaaW.PrintWords Go.Proofs.YthoanbjklgoggaaW.PrintLast
set_option linter.unusedVariables false
set_option linter.unusedSimpArgs false
theorem rdo (l : List ByteArray) (i : Nat) (h : i < l.length) : rdOf ByteArray.empty l (i : Int) = l[i] := by
  unfold rdOf
  rw [Int.toNat_natCast, List.getD_eq_getElem?_getD, List.getElem?_eq_getElem h]
  rfl
theorem ev_Index_l0 (l : List ByteArray) (x : ByteArray) (hm : l.length ≤ 1000) : ∀ (d i : Nat), l.length - i = d → i ≤ l.length → ∃ r : Int, Ev (fun k => slices_Index_string_string.l0 k l x (l.length : Int) (i : Int)) r ∧ (0 ≤ r ↔ x.toList ∈ (l.drop i).map ByteArray.toList) := by
  intro d
  induction d with
  | zero =>
    intro i h1 h2
    refine ⟨-1, Ev.step (f := fun _ => some (-1)) (fun k => ?_) (Ev.now _), ?_⟩
    · simp only [slices_Index_string_string.l0]
      rw [if_neg (by omega)]
    · rw [List.drop_of_length_le (by omega)]
      simp
  | succ d ih =>
    intro i h1 h2
    have hi : i < l.length := by omega
    obtain ⟨r, e1, e2⟩ := ih (i + 1) (by omega) (by omega)
    rw [dropc l i hi, List.map_cons, List.mem_cons]
    by_cases h : x.toList = l[i].toList
    · refine ⟨(i : Int), Ev.step (f := fun _ => some (i : Int)) (fun k => ?_) (Ev.now _), ⟨fun _ => Or.inl h, fun _ => ige i⟩⟩
      simp only [slices_Index_string_string.l0]
      rw [if_pos (ilt hi), if_pos (ige i), if_pos (ilt hi), rdo l i hi, if_pos h]
    · refine ⟨r, Ev.step (fun k => ?_) e1, ?_⟩
      · simp only [slices_Index_string_string.l0]
        rw [if_pos (ilt hi), if_pos (ige i), if_pos (ilt hi), rdo l i hi, if_neg h, wrapS (by omega)]
      · rw [e2]
        exact ⟨Or.inr, fun h2 => h2.elim (fun h3 => absurd h3 h) id⟩
def opsL : List (List UInt8) := [[60, 60, 45], [38, 38], [124, 124], [59, 59], [60, 60], [62, 62], [60, 38], [62, 38], [60, 62], [62, 124], [59], [38], [124], [40], [41], [60], [62]]
theorem ev_Operator (s : ByteArray) : Ev (fun k => lexer_Operator.f k s) (decide (s.data.toList ∈ [10] :: opsL)) := by
  unfold lexer_Operator.f
  have e : s.toList = s.data.toList := Go.ByteArray.toList_eq s
  by_cases h : s.toList = ([10] : List UInt8)
  · simp only [if_pos h]
    rw [decide_eq_true (by rw [← e, h]; exact List.mem_cons_self)]
    exact Ev.now _
  · simp only [if_neg h]
    obtain ⟨l, hl⟩ : ∃ l, lexer_operators.f = some l := ⟨_, rfl⟩
    have hl2 := hl
    unfold lexer_operators.f at hl2
    have hl3 := Option.some.inj hl2
    simp only [hl, Option.bind_some]
    have hm : l.length ≤ 1000 := by rw [← hl3]; decide
    obtain ⟨r, e1, e2⟩ := ev_Index_l0 l s hm _ 0 rfl (by omega)
    have hmap : (l.drop 0).map ByteArray.toList = opsL := by
      rw [List.drop_zero, ← hl3]
      simp only [List.map_cons, List.map_nil, Go.ByteArray.toList_eq]
      rfl
    rw [hmap] at e2
    refine Ev.bind (f := fun _ t => some t) ?_ (Ev.now _)
    have := Ev.bind (f := fun _ (t : Int) => some (decide (t ≥ 0))) e1 (Ev.now _)
    have hd : decide (r ≥ 0) = decide (s.data.toList ∈ [10] :: opsL) := by
      apply decide_eq_decide.2
      rw [ge_iff_le, e2, List.mem_cons, ← e]
      exact ⟨Or.inr, fun h2 => h2.elim (fun h3 => absurd h3 h) id⟩
    rw [hd] at this
    exact this
theorem chn (a x : List UInt8) (xs : List (List UInt8)) : (if a = x then some true else some (decide (a ∈ xs))) = some (decide (a ∈ x :: xs)) := by
  by_cases h : a = x
  · rw [if_pos h, decide_eq_true (by rw [h]; exact List.mem_cons_self)]
  · rw [if_neg h]
    congr 1
    apply decide_eq_decide.2
    rw [List.mem_cons]
    exact ⟨Or.inr, fun h2 => h2.elim (fun h3 => absurd h3 h) id⟩
theorem rOperator_eq (s : ByteArray) : jobshellref07_Operator.f s = some (decide (s.data.toList ∈ [10] :: opsL)) := by
  have z : (some false : Option Bool) = some (decide (s.toList ∈ ([] : List (List UInt8)))) := by simp
  unfold jobshellref07_Operator.f
  rw [z]
  repeat rw [chn]
  congr 1
  apply decide_eq_decide.2
  rw [Go.ByteArray.toList_eq]
  constructor
  · intro h
    exact (by decide : ∀ x ∈ ([[38, 38], [124, 124], [59], [59, 59], [38], [124], [40], [41], [60], [62], [60, 60], [60, 60, 45], [62, 62], [60, 38], [62, 38], [60, 62], [62, 124], [10]] : List (List UInt8)), x ∈ [10] :: opsL) _ h
  · intro h
    exact (by decide : ∀ x ∈ [10] :: opsL, x ∈ ([[38, 38], [124, 124], [59], [59, 59], [38], [124], [40], [41], [60], [62], [60, 60], [60, 60, 45], [62, 62], [60, 38], [62, 38], [60, 62], [62, 124], [10]] : List (List UInt8))) _ h
theorem reserved_eq (s : ByteArray) : ∃ b, lexer_Reserved.f s = some b ∧ jobshellref07_Reserved.f s = some b := by
  have z : (some false : Option Bool) = some (decide (s.toList ∈ ([] : List (List UInt8)))) := by simp
  have e : lexer_Reserved.f s = jobshellref07_Reserved.f s := rfl
  rw [e]
  unfold jobshellref07_Reserved.f
  rw [z]
  repeat rw [chn]
  exact ⟨_, rfl, rfl⟩
end Go.Proofs.Ythoanbjklgoggaa.PAll
