/- The law LexerLong, in plain Lean. -/
import Derived.Test.YthoanbjklgoggaaPAllx28
import Derived.Test.YthoanbjklgoggaaPlainMLong
namespace Go.Proofs.Ythoanbjklgoggaa.Pure
open Go.RowKit Go.Proofs.Ythoanbjklgoggaa.PAll Go.Proofs.YthoanbjklgoggaaW.PrintWords Go.Proofs.YthoanbjklgoggaaW.PrintLast
theorem LexerLong : jobshelllaw07_LexerLong.Pure := by
  intro a ha
  refine Ev.rounds (g := fun k => jobshelllaw07_LexerLong.f k a) ?_
  unfold jobshelllaw07_LexerLong.f
  by_cases h : a > 3
  · simp only [if_pos h]
    exact ev_awake
  · simp only [if_neg h]
    have h0 : 0 ≤ a := by
      have := ha
      simp only [Lit.wf, Bool.and_eq_true, decide_eq_true_eq] at this
      have h2 := this.1
      first | exact h2 | (simp [IntKind.min] at h2; exact h2) | omega
    obtain ⟨K, rfl⟩ : ∃ K : Nat, a = (K : Int) := ⟨a.toNat, by omega⟩
    exact ev_Long fullS ev_awake K (by omega) _ 0 ⟨#[39, 97, 39]⟩ [] rfl (by omega) rfl rfl
end Go.Proofs.Ythoanbjklgoggaa.Pure
