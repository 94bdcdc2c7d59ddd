/- Mark: what both sides answer on an ascending list; validity kept. -/
import Derived.Test.YtlcobphakhcmiaaPAllx0
import Derived.Test.YtlcobphakhcmiaaPAllx4
import Derived.Test.YtlcobphakhcmiaaPAllx10
import Derived.Test.YtlcobphakhcmiaaExtPlain6
namespace Go.Proofs.Ytlcobphakhcmiaa.PAll
open Go.RowKit Go.Proofs.YtlcobphakhcmiaaW.PrintWords Go.Proofs.YtlcobphakhcmiaaW.PrintLast
set_option linter.unusedVariables false
set_option linter.unusedSimpArgs false

def markV (l : List S26) (n : ByteArray) (e r : Bool) : S26 := ⟨n, (cur l n).f1, (cur l n).f2, (cur l n).f3 || e, (cur l n).f4 || r⟩
def markF (l : List S26) (n : ByteArray) (e r : Bool) : List S26 × Int :=
  if nameB n = true then (if (at' n l).isSome = true then (putF l (markV l n e r), 0) else if (l.length : Int) ≥ 128 then (l, 4) else (putF l (markV l n e r), 0)) else (l, 10)
theorem ev_rMark (l : List S26) (n : ByteArray) (e r : Bool) (hm : l.length ≤ 1000) : Ev (fun k => jobshellref15_Mark.f k l n e r) (markF l n e r) := by
  unfold jobshellref15_Mark.f markF
  refine Ev.bind (ev_rName n) ?_
  obtain ⟨g1, g2, g3, g4, g5⟩ := getT_parts l n
  have P := ev_put l (markV l n e r) hm
  have J2 : ∀ f3 f4 : Bool, f3 = ((cur l n).f3 || e) → f4 = ((cur l n).f4 || r) → Ev (fun k => jobshellref15_Mark.j2 k l n (cur l n).f1 (cur l n).f2 f3 f4) (putF l (markV l n e r), 0) := by
    rintro f3 f4 rfl rfl
    exact Ev.step (fun k => by simp only [jobshellref15_Mark.j2]; rfl) (Ev.bind P (Ev.now _))
  have J1 : ∀ f3 : Bool, f3 = ((cur l n).f3 || e) → Ev (fun k => jobshellref15_Mark.j1 k l r n (cur l n).f1 (cur l n).f2 f3 (cur l n).f4) (putF l (markV l n e r), 0) := by
    intro f3 h3
    cases h4 : (cur l n).f4 with
    | true => exact Ev.step (fun k => by simp only [jobshellref15_Mark.j1]; rfl) (J2 f3 true h3 (by rw [h4]; rfl))
    | false => exact Ev.step (fun k => by simp only [jobshellref15_Mark.j1]; rfl) (J2 f3 r h3 (by rw [h4]; rfl))
  have J0 : ∀ x : ByteArray, Ev (fun k => jobshellref15_Mark.j0 k l n e r false x (cur l n).f1 (cur l n).f2 (cur l n).f3 (cur l n).f4) (putF l (markV l n e r), 0) := by
    intro x
    cases h3 : (cur l n).f3 with
    | true => exact Ev.step (fun k => by simp only [jobshellref15_Mark.j0]; rfl) (J1 true (by rw [h3]; rfl))
    | false => exact Ev.step (fun k => by simp only [jobshellref15_Mark.j0]; rfl) (J1 e (by rw [h3]; rfl))
  by_cases h1 : nameB n = true
  · simp only [if_pos h1]
    refine Ev.bind (ev_rGet l n (by omega)) ?_
    rw [g1, g2, g3, g4, g5]
    by_cases h4 : (at' n l).isSome = true
    · simp only [if_pos h4]
      exact J0 _
    · simp only [if_neg h4]
      by_cases h5 : (l.length : Int) ≥ 128
      · simp only [if_pos h5, decide_eq_true h5]
        exact Ev.step (fun k => by simp only [jobshellref15_Mark.j0]; rfl) (Ev.now _)
      · simp only [if_neg h5, decide_eq_false h5]
        exact J0 _
  · simp only [if_neg h1]; exact Ev.now _
theorem ev_Mark (l : List S26) (n : ByteArray) (e r : Bool) (ha : Asc l) (hm : l.length ≤ 1000) : Ev (fun k => vars_Mark.f k l n e r) (markF l n e r) := by
  obtain ⟨i, hw, hi, hg, hwith⟩ := with_put ha hm (markV l n e r)
  dsimp only [markV] at hw hg hwith
  unfold vars_Mark.f markF
  rw [show chars_Name.f n = some (nameB n) from rfl]
  simp only [Option.bind_some]
  have J3 : Ev (fun k => vars_Mark.j3 k l i (at' n l).isSome n (cur l n).f1 (cur l n).f2 ((cur l n).f3 || e) ((cur l n).f4 || r)) (putF l (markV l n e r), 0) := by
    refine Ev.step (fun k => ?_) (Ev.now _)
    simp only [vars_Mark.j3]
    rw [hwith]
    rfl
  have J2 : ∀ f3 : Bool, f3 = ((cur l n).f3 || e) → Ev (fun k => vars_Mark.j2 k l r i (at' n l).isSome n (cur l n).f1 (cur l n).f2 f3 (cur l n).f4) (putF l (markV l n e r), 0) := by
    rintro f3 rfl
    cases h4 : (cur l n).f4 with
    | true =>
      rw [h4] at J3
      exact Ev.step (fun k => by simp only [vars_Mark.j2]; rfl) J3
    | false =>
      rw [h4] at J3
      exact Ev.step (fun k => by simp only [vars_Mark.j2]; rfl) J3
  have J1 : Ev (fun k => vars_Mark.j1 k l e r i (at' n l).isSome n (cur l n).f1 (cur l n).f2 (cur l n).f3 (cur l n).f4) (putF l (markV l n e r), 0) := by
    cases h3 : (cur l n).f3 with
    | true => exact Ev.step (fun k => by simp only [vars_Mark.j1]; rfl) (J2 true (by rw [h3]; rfl))
    | false => exact Ev.step (fun k => by simp only [vars_Mark.j1]; rfl) (J2 e (by rw [h3]; rfl))
  have J0 : Ev (fun k => vars_Mark.j0 k l n e r i (at' n l).isSome false) (putF l (markV l n e r), 0) := by
    cases ho : at' n l with
    | some x =>
      obtain ⟨hlt, hx⟩ := hg x ho
      have hc := cur_of ho
      have hn := at_name ho
      rw [ho, hc] at J1
      refine Ev.step (fun k => ?_) J1
      simp only [vars_Mark.j0, Option.isSome_some]
      rw [if_neg (by simp), if_pos trivial, if_pos (ige i), if_pos (ilt hlt), rdn l i hlt, hx, hn]
    | none =>
      have hc : cur l n = ⟨n, ⟨#[]⟩, false, false, false⟩ := by rw [cur, ho]; rfl
      rw [ho, hc] at J1
      refine Ev.step (fun k => ?_) J1
      simp only [vars_Mark.j0, Option.isSome_none]
      rw [if_neg (by simp), if_neg (by simp)]
  by_cases h1 : nameB n = true
  · simp only [if_pos h1, where_eq l n hm, hw, Option.bind_some]
    by_cases h4 : (at' n l).isSome = true
    · simp only [if_pos h4]
      exact J0
    · simp only [if_neg h4]
      by_cases h5 : (l.length : Int) ≥ 128
      · simp only [if_pos h5, decide_eq_true h5]
        exact Ev.step (fun k => by simp only [vars_Mark.j0]; rfl) (Ev.now _)
      · simp only [if_neg h5, decide_eq_false h5]
        exact J0
  · simp only [if_neg h1]; exact Ev.now _
theorem cur_ok {l : List S26} {n : ByteArray} (h : valF l = 0) : ¬ ((cur l n).f1.size : Int) > 4096 ∧ ((cur l n).f2 = true ∨ (cur l n).f1.toList = []) := by
  cases ho : at' n l with
  | some x =>
    rw [cur_of ho]
    obtain ⟨_, h2, h3⟩ := ((valF_zero l).1 h).2.1 x (List.mem_of_find?_eq_some ho)
    exact ⟨h2, h3⟩
  | none =>
    have hc : cur l n = ⟨n, ⟨#[]⟩, false, false, false⟩ := by rw [cur, ho]; rfl
    rw [hc]
    exact ⟨by show ¬ ((0 : Nat) : Int) > 4096; omega, .inr (tl_nil.2 rfl)⟩
theorem mark_valid {l : List S26} {n : ByteArray} {e r : Bool} (h : valF l = 0) : valF (markF l n e r).1 = 0 := by
  obtain ⟨c1, c2⟩ := cur_ok (n := n) h
  unfold markF
  split
  case isFalse => exact h
  rename_i h1
  split
  · rename_i h4
    exact put_valid h ⟨h1, c1, c2⟩ (.inl h4)
  · split
    case isTrue => exact h
    rename_i h5
    exact put_valid h ⟨h1, c1, c2⟩ (.inr h5)
end Go.Proofs.Ytlcobphakhcmiaa.PAll
