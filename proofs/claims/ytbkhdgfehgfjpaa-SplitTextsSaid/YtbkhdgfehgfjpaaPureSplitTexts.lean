/- The law SplitTexts, in plain Lean. -/
import Derived.Test.YtbkhdgfehgfjpaaExtDefSplitTexts
import Derived.Test.YtbkhdgfehgfjpaaExtPlain3
namespace Go.Proofs.Ytbkhdgfehgfjpaa.Pure
open Go.RowKit Go.Proofs.Ytbkhdgfehgfjpaa.PAll Go.Proofs.YtbkhdgfehgfjpaaW.PrintWords Go.Proofs.YtbkhdgfehgfjpaaW.PrintLast
theorem joinLen {l : List ByteArray} {sep : ByteArray} (h1 : l.length ≤ 12) (h2 : ∀ x ∈ l, x.size ≤ 40) (h3 : sep.size ≤ 20) : (joinL l sep).length ≤ 1000 := by
  cases l with
  | nil => simp [joinL, Lib.join, List.intercalate]
  | cons s t =>
    rw [joinL_cons, List.length_append, dl_len]
    have a := jrest_len sep.data.toList 0 (by rw [dl_len]; exact h3) t (fun x hx => h2 x (List.mem_cons_of_mem _ hx))
    have b := h2 s (by simp)
    rw [List.length_cons] at h1
    omega
theorem joins (l : List ByteArray) (ifs : ByteArray) (h1 : l.length ≤ 12) (h2 : ∀ x ∈ l, x.size ≤ 40) (h3 : ifs.size ≤ 20) : ∃ j, split_Join.f l ifs = some j ∧ Ev (fun k => jobshellref18_Join.f k l ifs) j := by
  by_cases h : ifs.toList = ([] : List UInt8)
  · have hj := joinLen (sep := ⟨#[]⟩) h1 h2 (by decide)
    refine ⟨⟨(joinL l ⟨#[]⟩).toArray⟩, ?_, ?_⟩
    · unfold split_Join.f strings_Join.f
      rw [if_pos h, if_pos (by omega), if_pos (by omega)]
      rfl
    · unfold jobshellref18_Join.f
      simp only [if_pos h]
      exact ev_rJoin_j0 l _ (by omega) (by omega)
  · have hs : 1 ≤ (ifs.size : Int) := by
      have : ifs.size ≠ 0 := fun e => h (tl_nil.2 e)
      omega
    have he : (ifs.extract 0 1).size ≤ 20 := by rw [ByteArray.size_extract]; omega
    have hj := joinLen (sep := ifs.extract 0 1) h1 h2 he
    refine ⟨⟨(joinL l (ifs.extract 0 1)).toArray⟩, ?_, ?_⟩
    · unfold split_Join.f strings_Join.f
      rw [if_neg h, if_pos (by decide), if_pos hs, if_pos (by omega), if_pos (by omega)]
      rfl
    · unfold jobshellref18_Join.f
      have h01 : (0 : Int) ≤ 1 := by decide
      simp only [if_neg h, if_pos hs]
      exact ev_rJoin_j0 l _ (by omega) (by omega)
theorem SplitTexts : jobshelllaw18_SplitTexts.Pure := by
  intro l texts ifs hm hg hm2 hg2 hi
  refine Ev.rounds (g := fun k => jobshelllaw18_SplitTexts.f k l texts ifs) ?_
  have stop : Ev (fun k => jobshelllaw18_SplitTexts.j0 k l texts ifs true) true := Ev.step (fun k => by simp only [jobshelllaw18_SplitTexts.j0]; rfl) ev_awake
  obtain ⟨b, hb, hb2⟩ := ev_small l hm hg
  unfold jobshelllaw18_SplitTexts.f
  refine Ev.bind hb ?_
  cases b with
  | false => exact stop
  | true =>
    obtain ⟨s1, s2⟩ := hb2 rfl
    simp only [if_true]
    obtain ⟨c, hc, hc2⟩ := ev_Short texts hm2
    refine Ev.bind hc ?_
    cases c with
    | false => exact stop
    | true =>
      obtain ⟨t1, t2⟩ := hc2 rfl
      simp only [if_true]
      by_cases h20 : (ifs.size : Int) > 20
      · rw [decide_eq_true h20]
        exact stop
      · rw [decide_eq_false h20]
        obtain ⟨j, hj1, hj2⟩ := joins texts ifs t1 t2 (by omega)
        refine Ev.step (fun k => by simp only [jobshelllaw18_SplitTexts.j0]; rw [if_neg (by simp), text_eq l hm (by omega), Option.bind_some]) ?_
        refine Ev.bind (ev_rText l hm (by omega)) ?_
        simp only [if_true, hj1, Option.bind_some]
        refine Ev.bind hj2 ?_
        simp only [if_true]
        exact ev_awake
end Go.Proofs.Ytbkhdgfehgfjpaa.Pure
