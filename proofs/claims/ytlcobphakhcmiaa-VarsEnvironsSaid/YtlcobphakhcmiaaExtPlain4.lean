/- Small, and what the guards tell. -/
import Derived.Test.YtlcobphakhcmiaaPAllx0
import Derived.Test.YtlcobphakhcmiaaPAllx2
import Derived.Test.YtlcobphakhcmiaaExtawake
import Derived.Test.YtlcobphakhcmiaaExtPlain3
namespace Go.Proofs.Ytlcobphakhcmiaa.PAll
open Go.RowKit Go.Proofs.YtlcobphakhcmiaaW.PrintWords Go.Proofs.YtlcobphakhcmiaaW.PrintLast
set_option linter.unusedVariables false
set_option linter.unusedSimpArgs false

theorem ev_Small_l0 (l : List S26) (hm : l.length ≤ 9223372036854775807) : ∀ d i : Nat, l.length - i = d → i ≤ l.length → ∃ b, Ev (fun k => jobshellref15_Small.l0 k l i) b := by
  intro d
  induction d with
  | zero =>
    intro i h1 h2
    refine ⟨decide ((l.length : Int) ≤ 130), Ev.step (fun k => ?_) (Ev.step (g := fun k => jobshellref15_Small.j1 k l i false) (fun k => ?_) (Ev.now _))⟩
    · simp only [jobshellref15_Small.l0]
      rw [if_neg (by omega)]
    · simp only [jobshellref15_Small.j1]
      rw [if_neg (by simp)]
  | succ d ih =>
    intro i h1 h2
    have hi : i < l.length := by omega
    obtain ⟨b, hb⟩ := ih (i + 1) (by omega) (by omega)
    have st : ∀ {b : Bool}, Ev (fun k => jobshellref15_Small.j1 k l i (decide ((i : Int) ≤ 130))) b → ∃ b, Ev (fun k => jobshellref15_Small.l0 k l i) b := fun {b} h =>
      ⟨b, Ev.step (fun k => by simp only [jobshellref15_Small.l0]; rw [if_pos (ilt hi)]) h⟩
    by_cases h0 : (i : Int) ≤ 130
    · by_cases h3 : (l[i].f0.size : Int) > 60
      · refine st (b := false) (Ev.step (fun k => ?_) (Ev.now _))
        simp only [jobshellref15_Small.j1]
        rw [if_pos (by simpa using h0), if_pos (ige i), if_pos (ilt hi), rdn l i hi, if_pos h3]
      · by_cases h4 : (l[i].f1.size : Int) > 60
        · by_cases h5 : (l[i].f1.size : Int) ≤ 4096
          · refine st (b := false) (Ev.step (fun k => ?_) (Ev.now _))
            simp only [jobshellref15_Small.j1]
            rw [if_pos (by simpa using h0), if_pos (ige i), if_pos (ilt hi), rdn l i hi, if_neg h3, if_pos h4, if_pos h5]
          · refine st (b := b) (Ev.step (fun k => ?_) hb)
            simp only [jobshellref15_Small.j1]
            rw [if_pos (by simpa using h0), if_pos (ige i), if_pos (ilt hi), rdn l i hi, if_neg h3, if_pos h4, if_neg h5, wrapS (by omega)]
        · refine st (b := b) (Ev.step (fun k => ?_) hb)
          simp only [jobshellref15_Small.j1]
          rw [if_pos (by simpa using h0), if_pos (ige i), if_pos (ilt hi), rdn l i hi, if_neg h3, if_neg h4, wrapS (by omega)]
    · refine st (b := decide ((l.length : Int) ≤ 130)) (Ev.step (fun k => ?_) (Ev.now _))
      simp only [jobshellref15_Small.j1]
      rw [if_neg (by simpa using h0)]
theorem ev_Small (l : List S26) (hm : l.length ≤ 9223372036854775807) : ∃ b, Ev (fun k => jobshellref15_Small.f k l) b := ev_Small_l0 l hm l.length 0 (by omega) (by omega)
theorem ev_awake : Ev (fun _ => (jobshelllaw15_awake.f).bind fun t => some t) true := Ev.now _
end Go.Proofs.Ytlcobphakhcmiaa.PAll
