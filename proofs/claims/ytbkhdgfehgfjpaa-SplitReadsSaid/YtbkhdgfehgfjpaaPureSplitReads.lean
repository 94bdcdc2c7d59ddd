/- The law SplitReads, in plain Lean. -/
import Derived.Test.YtbkhdgfehgfjpaaExtDefSplitReads
import Derived.Test.YtbkhdgfehgfjpaaPlainMReads
namespace Go.Proofs.Ytbkhdgfehgfjpaa.Pure
open Go.RowKit Go.Proofs.Ytbkhdgfehgfjpaa.PAll Go.Proofs.YtbkhdgfehgfjpaaW.PrintWords Go.Proofs.YtbkhdgfehgfjpaaW.PrintLast
theorem SplitReads : jobshelllaw18_SplitReads.Pure := by
  intro l ifs n hm hg hi hn
  refine Ev.rounds (g := fun k => jobshelllaw18_SplitReads.f k l ifs n) ?_
  have stop : Ev (fun k => jobshelllaw18_SplitReads.j0 k l ifs n true) true := Ev.step (fun k => by simp only [jobshelllaw18_SplitReads.j0]; rfl) ev_awake
  obtain ⟨b, hb, hb2⟩ := ev_small l hm hg
  unfold jobshelllaw18_SplitReads.f
  refine Ev.bind hb ?_
  cases b with
  | false => exact stop
  | true =>
    obtain ⟨s1, s2⟩ := hb2 rfl
    simp only [if_true]
    by_cases h20 : (ifs.size : Int) > 20
    · simp only [if_pos h20]
      exact stop
    · simp only [if_neg h20]
      by_cases hn20 : n > 20
      · rw [decide_eq_true hn20]
        exact stop
      · rw [decide_eq_false hn20]
        refine Ev.step (fun k => by simp only [jobshelllaw18_SplitReads.j0]; rw [if_neg (by simp)]) ?_
        have done : ∀ R : List ByteArray, R.length ≤ 1000 → Ev (fun k => split_Read.f k l ifs n) R → Ev (fun k => jobshellref18_Read.f k l ifs n) R → Ev (fun k => (split_Read.f k l ifs n).bind fun t403 => (jobshellref18_Read.f k l ifs n).bind fun t406 => (jobshellref03_SameTexts.f k t403 t406).bind fun t409 => if t409 = true then (jobshelllaw18_awake.f k).bind fun t410 => some t410 else some false) true := by
          intro R hR A B
          refine Ev.bind A ?_
          refine Ev.bind B ?_
          refine Ev.bind (ev_SameTexts R hR) ?_
          simp only [if_true]
          exact ev_awake
        by_cases h1 : n < 1
        · have B := ev_rRead l ifs (by omega) (by omega) (by omega) n 0 (by omega) (Or.inl ⟨h1, rfl⟩)
          rw [if_pos rfl] at B
          exact done [] (by simp) (ev_sRead_none l ifs (by omega) (by omega) n h1) B
        · obtain ⟨N, rfl⟩ : ∃ N : Nat, n = (N : Int) := ⟨n.toNat, by omega⟩
          have B := ev_rRead l ifs (by omega) (by omega) (by omega) (N : Int) N (by omega) (Or.inr ⟨by omega, rfl⟩)
          rw [if_neg (by omega)] at B
          refine done _ ?_ (ev_sRead l ifs (by omega) (by omega) N (by omega) (by omega)) B
          unfold readF rdF
          rw [List.length_map, List.length_append, rdR_len]
          simp
          omega
end Go.Proofs.Ytbkhdgfehgfjpaa.Pure
