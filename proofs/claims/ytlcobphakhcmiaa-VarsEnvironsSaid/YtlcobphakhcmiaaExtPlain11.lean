/- put of the reference: what it answers. -/
import Derived.Test.YtlcobphakhcmiaaPAllx0
import Derived.Test.YtlcobphakhcmiaaPAllx8
import Derived.Test.YtlcobphakhcmiaaExtPlain6
namespace Go.Proofs.Ytlcobphakhcmiaa.PAll
open Go.RowKit Go.Proofs.YtlcobphakhcmiaaW.PrintWords Go.Proofs.YtlcobphakhcmiaaW.PrintLast
set_option linter.unusedVariables false
set_option linter.unusedSimpArgs false
theorem ev_put_done (l : List S26) (v : S26) (hm : l.length ≤ 1000) : ∀ (d i : Nat) (out : List S26), l.length - i = d → i ≤ l.length → out.length ≤ i + 1 → Ev (fun k => jobshellref15_put.l0 k l out true i v.f0 v.f1 v.f2 v.f3 v.f4) (out ++ (l.drop i).filter (fun x => x.f0.toList != v.f0.toList)) := by
  intro d
  induction d with
  | zero =>
    intro i out h1 h2 h3
    refine Ev.step (fun k => ?_) (Ev.now _)
    simp only [jobshellref15_put.l0]
    rw [if_neg (by omega), List.drop_of_length_le (by omega)]
    simp
  | succ d ih =>
    intro i out h1 h2 h3
    have hi : i < l.length := by omega
    rw [dropc l i hi, List.filter_cons]
    refine Ev.step (fun k => ?_) (show Ev (fun k => jobshellref15_put.j1 k l out true i false v.f0 v.f1 v.f2 v.f3 v.f4) _ from ?_)
    · simp only [jobshellref15_put.l0]
      rw [if_pos (ilt hi)]
      rfl
    · by_cases h : l[i].f0.toList = v.f0.toList
      · refine Ev.step (fun k => ?_) (show Ev (fun k => jobshellref15_put.l0 k l out true ((i + 1 : Nat) : Int) v.f0 v.f1 v.f2 v.f3 v.f4) _ from ?_)
        · simp only [jobshellref15_put.j1]
          rw [if_neg (by simp), if_pos (ige i), if_pos (ilt hi), rdn l i hi, if_pos h, wrapS (by omega)]
        · rw [if_neg (by simpa using h)]
          exact ih (i + 1) out (by omega) (by omega) (by omega)
      · refine Ev.step (fun k => ?_) (show Ev (fun k => jobshellref15_put.l0 k l (out ++ [l[i]]) true ((i + 1 : Nat) : Int) v.f0 v.f1 v.f2 v.f3 v.f4) _ from ?_)
        · simp only [jobshellref15_put.j1]
          rw [if_neg (by simp), if_pos (ige i), if_pos (ilt hi), rdn l i hi, if_neg h, if_pos (by omega), wrapS (by omega)]
        · rw [if_pos (by simpa using h)]
          have := ih (i + 1) (out ++ [l[i]]) (by omega) (by omega) (by simp; omega)
          simpa using this
theorem ev_put_l0 (l : List S26) (v : S26) (hm : l.length ≤ 1000) : ∀ (d i : Nat) (out : List S26), l.length - i = d → i ≤ l.length → out.length ≤ i → Ev (fun k => jobshellref15_put.l0 k l out false i v.f0 v.f1 v.f2 v.f3 v.f4) (out ++ putF (l.drop i) v) := by
  intro d
  induction d with
  | zero =>
    intro i out h1 h2 h3
    refine Ev.step (fun k => ?_) (Ev.now _)
    simp only [jobshellref15_put.l0]
    rw [if_neg (by omega), if_neg (by simp), if_pos (by omega), List.drop_of_length_le (by omega)]
    rfl
  | succ d ih =>
    intro i out h1 h2 h3
    have hi : i < l.length := by omega
    rw [dropc l i hi, putF, bef_cons, aft_cons]
    refine Ev.step (fun k => ?_) (show Ev (fun k => jobshellref15_put.j1 k l out false i (!(Op.bytesLess l[i].f0.toList v.f0.toList)) v.f0 v.f1 v.f2 v.f3 v.f4) _ from ?_)
    · simp only [jobshellref15_put.l0]
      rw [if_pos (ilt hi), if_neg (by simp), if_pos (ige i), rdn l i hi]
    · by_cases hl : lt l[i].f0 v.f0 = true
      · have hl' : Op.bytesLess l[i].f0.toList v.f0.toList = true := hl
        refine Ev.step (fun k => ?_) (show Ev (fun k => jobshellref15_put.l0 k l (out ++ [l[i]]) false ((i + 1 : Nat) : Int) v.f0 v.f1 v.f2 v.f3 v.f4) _ from ?_)
        · simp only [jobshellref15_put.j1]
          rw [if_neg (by simp [hl']), if_pos (ige i), if_pos (ilt hi), rdn l i hi, if_neg (less_ne hl'), if_pos (by omega), wrapS (by omega)]
        · rw [if_pos hl, if_pos hl]
          have := ih (i + 1) (out ++ [l[i]]) (by omega) (by omega) (by simp; omega)
          rw [putF] at this
          simpa using this
      · have hl' : Op.bytesLess l[i].f0.toList v.f0.toList = false := by simpa using hl
        rw [if_neg hl, if_neg hl, List.filter_cons]
        by_cases h : l[i].f0.toList = v.f0.toList
        · refine Ev.step (fun k => ?_) (show Ev (fun k => jobshellref15_put.l0 k l (out ++ [v]) true ((i + 1 : Nat) : Int) v.f0 v.f1 v.f2 v.f3 v.f4) _ from ?_)
          · simp only [jobshellref15_put.j1]
            rw [if_pos (by simp [hl']), if_pos (by omega)]
            simp only [Option.bind_some]
            rw [if_pos (ige i), if_pos (ilt hi), rdn l i hi, if_pos h, wrapS (by omega)]
          · rw [if_neg (by simpa using h)]
            have := ev_put_done l v hm d (i + 1) (out ++ [v]) (by omega) (by omega) (by simp; omega)
            simpa using this
        · refine Ev.step (fun k => ?_) (show Ev (fun k => jobshellref15_put.l0 k l ((out ++ [v]) ++ [l[i]]) true ((i + 1 : Nat) : Int) v.f0 v.f1 v.f2 v.f3 v.f4) _ from ?_)
          · simp only [jobshellref15_put.j1]
            rw [if_pos (by simp [hl']), if_pos (by omega)]
            simp only [Option.bind_some]
            rw [if_pos (ige i), if_pos (ilt hi), rdn l i hi, if_neg h, if_pos (by simp; omega), wrapS (by omega)]
          · rw [if_pos (by simpa using h)]
            have := ev_put_done l v hm d (i + 1) ((out ++ [v]) ++ [l[i]]) (by omega) (by omega) (by simp; omega)
            simpa using this
theorem ev_put (l : List S26) (v : S26) (hm : l.length ≤ 1000) : Ev (fun k => jobshellref15_put.f k l v.f0 v.f1 v.f2 v.f3 v.f4) (putF l v) := by
  have := ev_put_l0 l v hm l.length 0 [] (by omega) (by omega) (by simp)
  rw [List.drop_zero, List.nil_append] at this
  exact this
end Go.Proofs.Ytlcobphakhcmiaa.PAll
