/- The law SplitBytes, in plain Lean. -/
import Derived.Test.YtbkhdgfehgfjpaaExtDefSplitBytes
import Derived.Test.YtbkhdgfehgfjpaaPlainMBytes
namespace Go.Proofs.Ytbkhdgfehgfjpaa.Pure
open Go.RowKit Go.Proofs.Ytbkhdgfehgfjpaa.PAll Go.Proofs.YtbkhdgfehgfjpaaW.PrintWords Go.Proofs.YtbkhdgfehgfjpaaW.PrintLast
theorem SplitBytes : jobshelllaw18_SplitBytes.Pure := by
  intro l ifs hm hg hi
  refine Ev.rounds (g := fun k => jobshelllaw18_SplitBytes.f k l ifs) ?_
  have stop : Ev (fun k => jobshelllaw18_SplitBytes.j0 k l ifs true) true := Ev.step (fun k => by simp only [jobshelllaw18_SplitBytes.j0]; rfl) ev_awake
  obtain ⟨b, hb, hb2⟩ := ev_small l hm hg
  unfold jobshelllaw18_SplitBytes.f
  refine Ev.bind hb ?_
  cases b with
  | false => exact stop
  | true =>
    obtain ⟨s1, s2⟩ := hb2 rfl
    simp only [if_true]
    by_cases h20 : (ifs.size : Int) > 20
    · rw [decide_eq_true h20]
      exact stop
    · rw [decide_eq_false h20]
      have o := ownF_len ifs l
      refine Ev.step (fun k => ?_) (ev_bytes_l0 l ifs s1 s2 (by omega) _ 0 [] rfl (by omega) (by rw [List.drop_zero]; exact s2) (by rw [List.drop_zero]; simp; omega) (by rw [List.drop_zero]; rfl))
      simp only [jobshelllaw18_SplitBytes.j0]
      rw [if_neg (by simp)]
      rfl
end Go.Proofs.Ytbkhdgfehgfjpaa.Pure
