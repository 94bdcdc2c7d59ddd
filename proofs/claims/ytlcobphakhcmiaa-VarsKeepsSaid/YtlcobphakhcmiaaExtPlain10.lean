/- Set: what both sides answer on an ascending list; validity kept. -/
import Derived.Test.YtlcobphakhcmiaaPAllx0
import Derived.Test.YtlcobphakhcmiaaPAllx4
import Derived.Test.YtlcobphakhcmiaaExtPlain6
namespace Go.Proofs.Ytlcobphakhcmiaa.PAll
open Go.RowKit Go.Proofs.YtlcobphakhcmiaaW.PrintWords Go.Proofs.YtlcobphakhcmiaaW.PrintLast
set_option linter.unusedVariables false
set_option linter.unusedSimpArgs false

def setF (l : List S26) (n val : ByteArray) : List S26 × Int :=
  if nameB n = true then (if (cur l n).f4 = true then (l, 11) else if (val.size : Int) > 4096 then (l, 3) else if (at' n l).isSome = true then (putF l ⟨n, val, true, (cur l n).f3, false⟩, 0) else if (l.length : Int) ≥ 128 then (l, 4) else (putF l ⟨n, val, true, (cur l n).f3, false⟩, 0)) else (l, 10)
theorem ev_Set (l : List S26) (n val : ByteArray) (ha : Asc l) (hm : l.length ≤ 1000) : Ev (fun k => vars_Set.f k l n val) (setF l n val) := by
  obtain ⟨i, hw, hi, hg, hwith⟩ := with_put ha hm ⟨n, val, true, (cur l n).f3, false⟩
  dsimp only at hw hg hwith
  -- what follows the look
  have J : ∀ (f1 : ByteArray) (f2 : Bool), Ev (fun k => vars_Set.j0 k l n val i (at' n l).isSome n f1 f2 (cur l n).f3 (cur l n).f4) (setF l n val) := by
    intro f1 f2
    refine Ev.step (f := fun k => if nameB n = true then (if (cur l n).f4 = true then some (l, 11) else if (val.size : Int) > 4096 then some (l, 3) else if (at' n l).isSome = true then some (putF l ⟨n, val, true, (cur l n).f3, false⟩, 0) else if (l.length : Int) ≥ 128 then some (l, 4) else some (putF l ⟨n, val, true, (cur l n).f3, false⟩, 0)) else some (l, 10)) (fun k => ?_) ?_
    · simp only [vars_Set.j0]
      rw [show chars_Name.f n = some (nameB n) from rfl, Option.bind_some]
      by_cases h1 : nameB n = true
      · rw [if_pos h1, if_pos h1]
        by_cases h2 : (cur l n).f4 = true
        · rw [if_pos h2, if_pos h2]
        · have h2' : (cur l n).f4 = false := by simpa using h2
          rw [if_neg h2, if_neg h2, h2', hwith]
          by_cases h3 : (val.size : Int) > 4096
          · rw [if_pos h3, if_pos h3]
          · rw [if_neg h3, if_neg h3]
            by_cases h4 : (at' n l).isSome = true
            · rw [if_pos h4, if_pos h4, Option.bind_some]
            · rw [if_neg h4, if_neg h4, Option.bind_some]
      · rw [if_neg h1, if_neg h1]
    · unfold setF
      by_cases h1 : nameB n = true
      · simp only [if_pos h1]
        by_cases h2 : (cur l n).f4 = true
        · simp only [if_pos h2]; exact Ev.now _
        · simp only [if_neg h2]
          by_cases h3 : (val.size : Int) > 4096
          · simp only [if_pos h3]; exact Ev.now _
          · simp only [if_neg h3]
            by_cases h4 : (at' n l).isSome = true
            · simp only [if_pos h4]; exact Ev.now _
            · simp only [if_neg h4]
              by_cases h5 : (l.length : Int) ≥ 128
              · simp only [if_pos h5]; exact Ev.now _
              · simp only [if_neg h5]; exact Ev.now _
      · simp only [if_neg h1]; exact Ev.now _
  unfold vars_Set.f
  simp only [where_eq l n hm, hw, Option.bind_some]
  cases ho : at' n l with
  | some x =>
    obtain ⟨hlt, hx⟩ := hg x ho
    have hc := cur_of ho
    have hn := at_name ho
    have := J x.f1 x.f2
    rw [hc, ho] at this
    simp only [Option.isSome_some, if_true, if_pos (ige i), if_pos (ilt hlt), rdn l i hlt, hx, hn]
    exact this
  | none =>
    have hc : cur l n = ⟨n, ⟨#[]⟩, false, false, false⟩ := by rw [cur, ho]; rfl
    have := J ⟨#[]⟩ false
    rw [hc, ho] at this
    simp only [Option.isSome_none, Bool.false_eq_true, if_false]
    exact this
theorem set_valid {l : List S26} {n val : ByteArray} (h : valF l = 0) : valF (setF l n val).1 = 0 := by
  unfold setF
  split
  case isFalse => exact h
  rename_i h1
  split
  case isTrue => exact h
  rename_i h2
  split
  case isTrue => exact h
  rename_i h3
  split
  · rename_i h4
    exact put_valid h ⟨h1, h3, .inl rfl⟩ (.inl h4)
  · split
    case isTrue => exact h
    rename_i h5
    exact put_valid h ⟨h1, h3, .inl rfl⟩ (.inr h5)
end Go.Proofs.Ytlcobphakhcmiaa.PAll
