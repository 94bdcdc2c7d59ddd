/- The law VarsEnvirons, in plain Lean: Environ and From answer as the reference does. -/
import Derived.Test.YtlcobphakhcmiaaExtDefVarsEnvirons
import Derived.Test.YtlcobphakhcmiaaExtPlain13
namespace Go.Proofs.Ytlcobphakhcmiaa.Pure
open Go.RowKit Go.Proofs.Ytlcobphakhcmiaa.PAll Go.Proofs.YtlcobphakhcmiaaW.PrintWords Go.Proofs.YtlcobphakhcmiaaW.PrintLast
theorem ev_Few_l0 (l : List ByteArray) (hm : l.length ≤ 9223372036854775807) : ∀ d i : Nat, l.length - i = d → i ≤ l.length → ∃ b, Ev (fun k => jobshellref15_Few.l0 k l i) b ∧ (b = true → l.length ≤ 138) := by
  intro d
  induction d with
  | zero =>
    intro i h1 h2
    refine ⟨decide ((l.length : Int) ≤ 138), Ev.step (fun k => ?_) (Ev.step (g := fun k => jobshellref15_Few.j1 k l i false) (fun k => ?_) (Ev.now _)), fun h => by have := of_decide_eq_true h; omega⟩
    · simp only [jobshellref15_Few.l0]
      rw [if_neg (by omega)]
    · simp only [jobshellref15_Few.j1]
      rw [if_neg (by simp)]
  | succ d ih =>
    intro i h1 h2
    have hi : i < l.length := by omega
    obtain ⟨b, hb, hb2⟩ := ih (i + 1) (by omega) (by omega)
    have st : ∀ {b : Bool}, (b = true → l.length ≤ 138) → Ev (fun k => jobshellref15_Few.j1 k l i (decide ((i : Int) ≤ 138))) b → ∃ b, Ev (fun k => jobshellref15_Few.l0 k l i) b ∧ (b = true → l.length ≤ 138) := fun {b} hh h =>
      ⟨b, Ev.step (fun k => by simp only [jobshellref15_Few.l0]; rw [if_pos (ilt hi)]) h, hh⟩
    by_cases h0 : (i : Int) ≤ 138
    · by_cases h4 : (l[i].size : Int) > 60
      · by_cases h5 : (l[i].size : Int) ≤ 4096
        · refine st (b := false) (fun h => by cases h) (Ev.step (fun k => ?_) (Ev.now _))
          simp only [jobshellref15_Few.j1]
          rw [if_pos (by simpa using h0), if_pos (ige i), if_pos (ilt hi), rdo l i hi, if_pos h4, if_pos h5]
        · refine st (b := b) hb2 (Ev.step (fun k => ?_) hb)
          simp only [jobshellref15_Few.j1]
          rw [if_pos (by simpa using h0), if_pos (ige i), if_pos (ilt hi), rdo l i hi, if_pos h4, if_neg h5, wrapS (by omega)]
      · refine st (b := b) hb2 (Ev.step (fun k => ?_) hb)
        simp only [jobshellref15_Few.j1]
        rw [if_pos (by simpa using h0), if_pos (ige i), if_pos (ilt hi), rdo l i hi, if_neg h4, wrapS (by omega)]
    · refine st (b := decide ((l.length : Int) ≤ 138)) (fun h => by have := of_decide_eq_true h; omega) (Ev.step (fun k => ?_) (Ev.now _))
      simp only [jobshellref15_Few.j1]
      rw [if_neg (by simpa using h0)]
theorem VarsEnvirons : jobshelllaw15_VarsEnvirons.Pure := by
  intro l es hm _ hem hes
  obtain ⟨b, hb⟩ := ev_Small l hm
  refine Ev.rounds (g := fun k => jobshelllaw15_VarsEnvirons.f k l es) ?_
  have stop : Ev (fun k => jobshelllaw15_VarsEnvirons.j0 k l es true) true := Ev.step (fun k => by simp only [jobshelllaw15_VarsEnvirons.j0]; rfl) ev_awake
  unfold jobshelllaw15_VarsEnvirons.f
  refine Ev.bind hb ?_
  cases b with
  | false => exact stop
  | true =>
    simp only [if_true]
    obtain ⟨c, hc, hc2⟩ := ev_Few_l0 es hem es.length 0 (by omega) (by omega)
    refine Ev.bind (show Ev (fun k => jobshellref15_Few.f k es) c from hc) ?_
    cases c with
    | false => exact stop
    | true =>
      have h138 := hc2 rfl
      have hfl := fromF_len es []
      have tail : Ev (fun k => (jobshellref15_Same.f k (fromF [] es).1 (fromF [] es).1).bind fun t327 => (if t327 = true then (if (fromF [] es).2 = (fromF [] es).2 then ((jobshelllaw15_awake.f).bind fun t328 => (some t328)) else (some false)) else (some false))) true := by
        refine Ev.bind (ev_Same _ (by omega)) ?_
        simp only [if_true]
        exact ev_awake
      refine Ev.step (fun k => by simp only [jobshelllaw15_VarsEnvirons.j0]; rw [if_neg (by simp)]) ?_
      refine Ev.bind (ev_From es h138 hes) (Ev.bind (ev_rFrom es h138 hes) (Ev.bind (ev_rValid l) ?_))
      by_cases hv : valF l = 0
      · obtain ⟨h1, h2, h3⟩ := (valF_zero l).1 hv
        have hel := envF_len l
        simp only [if_pos hv]
        refine Ev.bind (ev_Environ l h1 h2) (Ev.bind (ev_rEnviron l h1 h2) (Ev.bind (ev_SameT _ (by omega)) ?_))
        simp only [if_true]
        refine Ev.bind (ev_Same _ (by omega)) ?_
        simp only [if_true]
        exact ev_awake
      · simp only [if_neg hv]
        refine Ev.bind (ev_Same _ (by omega)) ?_
        simp only [if_true]
        exact ev_awake
end Go.Proofs.Ytlcobphakhcmiaa.Pure
