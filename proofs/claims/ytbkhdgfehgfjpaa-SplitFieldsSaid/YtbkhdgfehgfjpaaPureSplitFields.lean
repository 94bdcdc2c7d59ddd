/- The law SplitFields, in plain Lean. -/
import Derived.Test.YtbkhdgfehgfjpaaExtDefSplitFields
import Derived.Test.YtbkhdgfehgfjpaaPlainMFields
namespace Go.Proofs.Ytbkhdgfehgfjpaa.Pure
open Go.RowKit Go.Proofs.Ytbkhdgfehgfjpaa.PAll Go.Proofs.YtbkhdgfehgfjpaaW.PrintWords Go.Proofs.YtbkhdgfehgfjpaaW.PrintLast
theorem SplitFields : jobshelllaw18_SplitFields.Pure := by
  intro l ifs hm hg hi
  refine Ev.rounds (g := fun k => jobshelllaw18_SplitFields.f k l ifs) ?_
  have stop : Ev (fun k => jobshelllaw18_SplitFields.j0 k l ifs true) true := Ev.step (fun k => by simp only [jobshelllaw18_SplitFields.j0]; rfl) ev_awake
  obtain ⟨b, hb, hb2⟩ := ev_small l hm hg
  unfold jobshelllaw18_SplitFields.f
  refine Ev.bind hb ?_
  cases b with
  | false => exact stop
  | true =>
    obtain ⟨s1, s2⟩ := hb2 rfl
    simp only [if_true]
    by_cases h20 : (ifs.size : Int) > 20
    · rw [decide_eq_true h20]
      exact stop
    · rw [decide_eq_false h20]
      obtain ⟨f1, f2⟩ := fieldsF_bounds l ifs (by omega) (by omega)
      refine Ev.step (fun k => by simp only [jobshelllaw18_SplitFields.j0]; rw [if_neg (by simp)]) ?_
      refine Ev.bind (ev_sFields l ifs (by omega) (by omega)) ?_
      refine Ev.bind (ev_rFields l ifs (by omega) (by omega) (by omega)) ?_
      refine Ev.bind (ev_SameFields _ f1 f2) ?_
      simp only [if_true]
      exact ev_awake
end Go.Proofs.Ytbkhdgfehgfjpaa.Pure
