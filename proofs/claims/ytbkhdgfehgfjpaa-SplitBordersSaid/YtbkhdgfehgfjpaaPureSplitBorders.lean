/- The law SplitBorders, in plain Lean. -/
import Derived.Test.YtbkhdgfehgfjpaaExtDefSplitBorders
import Derived.Test.YtbkhdgfehgfjpaaPlainMBorders
namespace Go.Proofs.Ytbkhdgfehgfjpaa.Pure
open Go.RowKit Go.Proofs.Ytbkhdgfehgfjpaa.PAll Go.Proofs.YtbkhdgfehgfjpaaW.PrintWords Go.Proofs.YtbkhdgfehgfjpaaW.PrintLast
theorem SplitBorders : jobshelllaw18_SplitBorders.Pure := by
  intro l m ifs hm hg hm2 hg2 hi
  refine Ev.rounds (g := fun k => jobshelllaw18_SplitBorders.f k l m ifs) ?_
  have stop : Ev (fun k => jobshelllaw18_SplitBorders.j0 k l m ifs true) true := Ev.step (fun k => by simp only [jobshelllaw18_SplitBorders.j0]; rfl) ev_awake
  obtain ⟨b, hb, hb2⟩ := ev_small l hm hg
  unfold jobshelllaw18_SplitBorders.f
  refine Ev.bind hb ?_
  cases b with
  | false => exact stop
  | true =>
    obtain ⟨s1, s2⟩ := hb2 rfl
    simp only [if_true]
    obtain ⟨c, hc, hc2⟩ := ev_small m hm2 hg2
    refine Ev.bind hc ?_
    cases c with
    | false => exact stop
    | true =>
      obtain ⟨t1, t2⟩ := hc2 rfl
      simp only [if_true]
      by_cases h20 : (ifs.size : Int) > 20
      · rw [decide_eq_true h20]
        exact stop
      · rw [decide_eq_false h20]
        have w1 : (l ++ [(⟨⟨#[]⟩, 3⟩ : S38)] ++ m).length ≤ 40 := by simp; omega
        have w2 : tot (l ++ [(⟨⟨#[]⟩, 3⟩ : S38)] ++ m) ≤ 300 := by
          rw [tot_app, tot_app, tot_one]
          show tot l + 0 + tot m ≤ 300
          omega
        obtain ⟨f1, f2⟩ := fieldsF_bounds _ ifs w1 w2
        obtain ⟨g1, _⟩ := fieldsF_bounds l ifs (by omega) (by omega)
        obtain ⟨g2, _⟩ := fieldsF_bounds m ifs (by omega) (by omega)
        have A := ev_sFields l ifs (by omega) (by omega)
        have B := ev_sFields m ifs (by omega) (by omega)
        have C := ev_sFields _ ifs w1 w2
        have S := ev_SameFields _ f1 f2
        rw [fields_border] at C S
        refine Ev.step (f := fun k => (split_Fields.f k l ifs).bind fun t446 => if ([] : List (List S38)).length + t446.length < 5864062014805 then (split_Fields.f k m ifs).bind fun t452 => if ([] ++ t446 : List (List S38)).length + t452.length < 5864062014805 then (split_Fields.f k (l ++ [(⟨⟨#[]⟩, 3⟩ : S38)] ++ m) ifs).bind fun t461 => (jobshellref18_SameFields.f k t461 ([] ++ t446 ++ t452)).bind fun t464 => if t464 = true then (jobshelllaw18_awake.f k).bind fun t465 => some t465 else some false else none else none) (fun k => ?_) ?_
        · simp only [jobshelllaw18_SplitBorders.j0]
          rw [if_neg (by simp), Option.bind_some, if_pos (by simp; omega), Option.bind_some, if_pos (by simp; omega), Option.bind_some, Option.bind_some]
          have e : ([] ++ l ++ [(⟨⟨#[]⟩, 3⟩ : S38)]).length + m.length < 5864062014805 := by simp; omega
          have e' : (l ++ [(⟨⟨#[]⟩, 3⟩ : S38)]).length + m.length < 5864062014805 := by simp; omega
          simp only [List.nil_append, if_pos e', Option.bind_some]
        · refine Ev.bind A ?_
          have e1 : ([] : List (List S38)).length + (fieldsF l ifs).length < 5864062014805 := by simp; omega
          have e2 : ([] ++ fieldsF l ifs : List (List S38)).length + (fieldsF m ifs).length < 5864062014805 := by simp; omega
          simp only [if_pos e1]
          refine Ev.bind B ?_
          simp only [if_pos e2]
          refine Ev.bind C ?_
          rw [List.nil_append]
          refine Ev.bind S ?_
          simp only [if_true]
          exact ev_awake
end Go.Proofs.Ytbkhdgfehgfjpaa.Pure
