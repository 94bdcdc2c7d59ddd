/- The law VarsSets, in plain Lean: on a valid list Set answers as the reference does, and its list is valid. -/
import Derived.Test.YtlcobphakhcmiaaExtDefVarsSets
import Derived.Test.YtlcobphakhcmiaaExtPlain6
namespace Go.Proofs.Ytlcobphakhcmiaa.Pure
open Go.RowKit Go.Proofs.Ytlcobphakhcmiaa.PAll Go.Proofs.YtlcobphakhcmiaaW.PrintWords Go.Proofs.YtlcobphakhcmiaaW.PrintLast
theorem VarsSets : jobshelllaw15_VarsSets.Pure := by
  intro l n val hm _ _ _
  obtain ⟨b, hb⟩ := ev_Small l hm
  refine Ev.rounds (g := fun k => jobshelllaw15_VarsSets.f k l n val) ?_
  have stop : Ev (fun k => jobshelllaw15_VarsSets.j0 k l n val true) true := Ev.step (fun k => by simp only [jobshelllaw15_VarsSets.j0]; rfl) ev_awake
  unfold jobshelllaw15_VarsSets.f
  refine Ev.bind hb ?_
  cases b with
  | false => exact stop
  | true =>
    simp only [if_true]
    obtain ⟨c, hc⟩ : ∃ c, jobshelllaw15_short.f val = some c := by unfold jobshelllaw15_short.f; split <;> exact ⟨_, rfl⟩
    simp only [hc, Option.bind_some]
    cases c with
    | false => exact stop
    | true =>
      simp only [if_true]
      refine Ev.bind (ev_rValid l) ?_
      by_cases hv : valF l = 0
      · obtain ⟨h1, h2, h3⟩ := (valF_zero l).1 hv
        have hs := set_valid (n := n) (val := val) hv
        have hl := ((valF_zero _).1 hs).1
        rw [show (valF l != 0) = false by rw [hv]; rfl]
        refine Ev.step (f := fun k => (vars_Set.f k l n val).bind fun bt250 => ((jobshellref15_Set.f k l n val).bind fun bt254 => ((jobshellref15_Same.f k bt250.1 bt254.1).bind fun t258 => (if t258 = true then (if bt250.2 = bt254.2 then ((jobshellref15_Valid.f k bt250.1).bind fun t259 => (if t259 = 0 then ((jobshelllaw15_awake.f).bind fun t260 => (some t260)) else (some false))) else (some false)) else (some false))))) (fun k => by simp only [jobshelllaw15_VarsSets.j0]; rfl) ?_
        refine Ev.bind (ev_Set l n val h3 (by omega)) (Ev.bind (ev_rSet l n val (by omega)) (Ev.bind (ev_Same _ (by omega)) ?_))
        simp only [if_true]
        refine Ev.bind (ev_rValid _) ?_
        simp only [hs, if_true]
        exact ev_awake
      · rw [show (valF l != 0) = true from bne_iff_ne.2 hv]
        exact stop
end Go.Proofs.Ytlcobphakhcmiaa.Pure
