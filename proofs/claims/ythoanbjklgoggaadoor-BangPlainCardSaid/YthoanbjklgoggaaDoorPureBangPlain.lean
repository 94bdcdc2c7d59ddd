/- The law BangPlain, in plain Lean. -/
import Derived.Test.YthoanbjklgoggaaDoorPAllx34
import Derived.Test.YthoanbjklgoggaaDoorExtPlain1
import Derived.Test.YthoanbjklgoggaaDoorExtPlain2
namespace Go.Proofs.YthoanbjklgoggaaDoor.Pure
open Go.RowKit Go.Proofs.YthoanbjklgoggaaDoor.PAll Go.Proofs.YthoanbjklgoggaaDoorW.PrintWords Go.Proofs.YthoanbjklgoggaaDoorW.PrintLast
set_option linter.unusedVariables false
set_option linter.unusedSimpArgs false
theorem no94 (s : ByteArray) (h : s.toList = [] ∨ (0 < s.size ∧ bt s 0 ≠ 94)) : strings_HasPrefix.f s (⟨#[94]⟩ : ByteArray) = some false := by
  have e1 : ((⟨#[94]⟩ : ByteArray).size : Int) = 1 := rfl
  have e2 : (⟨#[94]⟩ : ByteArray).toList = [94] := by rw [Go.ByteArray.toList_eq]
  unfold strings_HasPrefix.f stringslite_HasPrefix.f
  rw [e1]
  rcases h with h | ⟨h1, h2⟩
  · have : s.size = 0 := by
      rw [Go.ByteArray.toList_eq] at h
      have := congrArg List.length h
      rw [dl_len] at this
      simpa using this
    rw [if_neg (by omega)]
    rfl
  · rw [if_pos (by omega), if_pos (by omega), if_pos (by omega), e2, Option.bind_some]
    congr 1
    rw [beq_eq_false_iff_ne]
    intro h
    rw [Go.ByteArray.toList_eq] at h
    have e3 := bt_nat s 0 h1
    have h4 : s.data.toList.take 1 = [94] := by
      rw [← h]
      simp
    have h5 : s.data.toList[0]? = some 94 := by
      have := congrArg (fun l => l[0]?) h4
      simpa using this
    have h6 : s[0]'h1 = 94 := by
      have : s.data.toList[0]? = some (s[0]'h1) := by
        rw [List.getElem?_eq_getElem (by rw [dl_len]; exact h1)]
        rfl
      rw [this] at h5
      exact Option.some.inj h5
    rw [h6] at e3
    exact h2 e3
theorem BangPlain (h0 : Int) (l : List ByteArray) (s : ByteArray) (hl : l.length ≤ 9223372036854775807) (hs : ∀ x ∈ l, x.size ≤ 140737488351232) (hz : s.size ≤ 140737488351232) : ∃ k, jobshelllaw44_BangPlain.f k h0 l s = some true := by
  refine Ev.rounds (g := fun k => jobshelllaw44_BangPlain.f k h0 l s) ?_
  have stop : Ev (fun k => jobshelllaw44_BangPlain.j0 k s true h0 l) true := Ev.step (fun k => by simp only [jobshelllaw44_BangPlain.j0]; rw [if_pos trivial]) ev_awake
  have go : s.size ≤ 4096 → (∀ (j : Nat) (hj : j < s.size), ((s[j]'hj).toNat : Int) ≠ 33) → strings_HasPrefix.f s (⟨#[94]⟩ : ByteArray) = some false → Ev (fun k => jobshelllaw44_BangPlain.j0 k s false h0 l) true := by
    intro h1 h2 h3
    refine Ev.step (fun k => by simp only [jobshelllaw44_BangPlain.j0]; rw [if_neg (by simp)]) (Ev.bind (g := fun k => bang_Expand.f k h0 l s) (ev_Expand h0 l s h1 h2 h3) ?_)
    simp only [if_true, Bool.false_eq_true, if_false]
    exact ev_awake
  unfold jobshelllaw44_BangPlain.f
  obtain ⟨b, hb⟩ := ev_ok h0 l hs
  refine Ev.bind hb ?_
  cases b with
  | false =>
    simp only [Bool.false_eq_true, if_false]
    exact stop
  | true =>
    simp only [if_true]
    by_cases c1 : (s.size : Int) > 4096
    · simp only [if_pos c1]
      exact stop
    · simp only [if_neg c1]
      obtain ⟨r, hr, hq⟩ := ev_has s 33 (by omega) _ 0 (Nat.le_refl _) (by omega)
      refine Ev.bind (g := fun k => jobshelllaw44_has.f k s 33) hr ?_
      cases r with
      | true =>
        simp only [if_true]
        exact stop
      | false =>
        simp only [Bool.false_eq_true, if_false]
        have no : ∀ (j : Nat) (hj : j < s.size), ((s[j]'hj).toNat : Int) ≠ 33 := fun j hj => hq rfl j hj (Nat.zero_le _)
        by_cases c2 : s.toList = ([] : List UInt8)
        · simp only [if_pos c2]
          exact go (by omega) no (no94 s (Or.inl c2))
        · have h1 : 0 < s.size := by
            rcases Nat.eq_zero_or_pos s.size with h | h
            · exfalso
              apply c2
              rw [Go.ByteArray.toList_eq]
              exact List.eq_nil_of_length_eq_zero (by rw [dl_len]; exact h)
            · exact h
          have h2 : 0 < (s.size : Int) := by omega
          simp only [if_neg c2, if_pos h2]
          by_cases c3 : bt s 0 = 94
          · rw [c3]
            exact stop
          · have e : (bt s 0 == 94) = false := beq_eq_false_iff_ne.mpr c3
            rw [e]
            exact go (by omega) no (no94 s (Or.inr ⟨h1, c3⟩))
end Go.Proofs.YthoanbjklgoggaaDoor.Pure
