/- The law SplitWhole, in plain Lean. -/
import Derived.Test.YtbkhdgfehgfjpaaExtDefSplitWhole
import Derived.Test.YtbkhdgfehgfjpaaPlainMWhole
namespace Go.Proofs.Ytbkhdgfehgfjpaa.Pure
open Go.RowKit Go.Proofs.Ytbkhdgfehgfjpaa.PAll Go.Proofs.YtbkhdgfehgfjpaaW.PrintWords Go.Proofs.YtbkhdgfehgfjpaaW.PrintLast
set_option linter.unusedVariables false
set_option linter.unusedSimpArgs false
/-- Runs that are no borders. -/
def runB (x : S38) : Bool := decide (x.f1 = 0 ∨ x.f1 = 1 ∨ x.f1 = 2)
theorem elR_cat (x : S38) (h : runB x = true) : catL ((elR true x).map (·.f0)) = x.f0.data.toList := by
  have h := of_decide_eq_true h
  unfold elR
  rw [if_neg (by omega), if_pos h]
  split
  · rename_i hc
    have e2 : x.f0.data.toList = [] := by rw [← Go.ByteArray.toList_eq]; exact hc.2
    rw [e2]
    rfl
  · exact catL_one x.f1 _
theorem elF_cat : ∀ R : List S38, (∀ x ∈ R, runB x = true) → catL ((elF true R).map (·.f0)) = catL (R.map (·.f0))
  | [], _ => rfl
  | x :: t, h => by
    rw [elF, List.map_append, catL_app, elR_cat x (h x (by simp)), elF_cat t (fun y hy => h y (List.mem_cons_of_mem _ hy)), List.map_cons, catL]
theorem rl_none (x : S38) (h : runB x = true) : ∀ e ∈ elR true x, rl ⟨#[]⟩ e = 0 := by
  have h := of_decide_eq_true h
  intro e he
  unfold elR at he
  rw [if_neg (by omega), if_pos h] at he
  split at he
  · rw [List.mem_singleton] at he
    rw [he]
    rfl
  · obtain ⟨c, _, rfl⟩ := List.mem_map.1 he
    unfold rl oneE
    dsimp only
    rw [if_neg (by omega)]
    split
    · exact (kd_zero _ c).2 (by simp)
    · rfl
theorem rl_noneF : ∀ R : List S38, (∀ x ∈ R, runB x = true) → ∀ e ∈ elF true R, rl ⟨#[]⟩ e = 0
  | [], _ => fun e he => by cases he
  | x :: t, h => fun e he => by
    rw [elF, List.mem_append] at he
    rcases he with he | he
    · exact rl_none x (h x (by simp)) e he
    · exact rl_noneF t (fun y hy => h y (List.mem_cons_of_mem _ hy)) e he
theorem quoted_some : ∀ R : List S38, (∃ x ∈ R, x.f1 = 1) → elF true R ≠ []
  | [], h => by obtain ⟨x, hx, _⟩ := h; cases hx
  | y :: t, h => by
    intro e
    rw [elF, List.append_eq_nil_iff] at e
    obtain ⟨x, hx, h1⟩ := h
    rcases List.mem_cons.1 hx with rfl | hx
    · have e1 := e.1
      unfold elR at e1
      rw [if_neg (by omega), if_pos (Or.inr (Or.inl h1))] at e1
      split at e1
      · cases e1
      · rename_i hc
        rw [List.map_eq_nil_iff] at e1
        exact hc ⟨h1, by rw [Go.ByteArray.toList_eq]; exact e1⟩
    · exact quoted_some t ⟨x, hx, h1⟩ e.2
theorem textF_eq {a b : List S38} (h : catL (a.map (·.f0)) = catL (b.map (·.f0))) : textF a = textF b := by unfold textF; rw [h]
theorem ev_last (R : List S38) (h1 : R.length ≤ 12) (h2 : tot R ≤ 80) : Ev (fun k => jobshelllaw18_SplitWhole.j1 k R false) true := by
  have w2 : tot (R ++ [(⟨⟨#[]⟩, 1⟩ : S38)]) ≤ 300 := by
    rw [tot_app, tot_one]
    show tot R + 0 ≤ 300
    omega
  have F := ev_sFields (R ++ [(⟨⟨#[]⟩, 1⟩ : S38)]) ⟨#[32, 58]⟩ (by simp; omega) w2
  have hl : R.length < 5864062014805 := by omega
  refine Ev.step (fun k => by simp only [jobshelllaw18_SplitWhole.j1]; rw [if_neg (by simp), if_pos hl]) (Ev.bind F ?_)
  have hp : (fieldsF (R ++ [(⟨⟨#[]⟩, 1⟩ : S38)]) ⟨#[32, 58]⟩).length > 0 := by
    unfold fieldsF
    have e1 : elF true [(⟨⟨#[]⟩, 1⟩ : S38)] = [⟨⟨#[]⟩, 1⟩] := by
      have e0 : (⟨#[]⟩ : ByteArray).toList = ([] : List UInt8) := tl_nil.2 rfl
      rw [elF, elF, elR, if_neg (by decide), if_pos (Or.inr (Or.inl rfl)), if_pos ⟨rfl, e0⟩, List.append_nil]
    rw [elF_app, List.length_map, e1]
    exact dv_last (rl ⟨#[32, 58]⟩) ⟨⟨#[]⟩, 1⟩ rfl _ _ [] (Nat.le_refl _)
  have hp2 : ((fieldsF (R ++ [(⟨⟨#[]⟩, 1⟩ : S38)]) ⟨#[32, 58]⟩).length : Int) > 0 := by omega
  simp only [if_pos hp2]
  exact ev_awake
theorem fields_one (R : List S38) (hr : ∀ x ∈ R, runB x = true) : fieldsF R ⟨#[]⟩ = (clo (elF true R)).map runS := by
  unfold fieldsF
  rw [dv_all0 _ _ _ (rl_noneF R hr), List.nil_append]
theorem ev_whole_l0 (l R : List S38) (Q : Bool) (h1 : l.length ≤ 12) (h2 : tot l ≤ 80) (hr : ∀ x ∈ R, runB x = true) (hR1 : R.length ≤ 12) (hR2 : tot R ≤ 80) (hQ : Q = true → ∃ x ∈ R, x.f1 = 1) : ∀ (d i : Nat) (acc : List S38) (q : Bool), l.length - i = d → i ≤ l.length → acc.length ≤ i → acc ++ (l.drop i).filter runB = R → (q || (l.drop i).any (fun x => x.f1 == 1)) = Q → Ev (fun k => jobshelllaw18_SplitWhole.l0 k l acc q (i : Int)) true := by
  intro d
  induction d with
  | zero =>
    intro i acc q a1 a2 a3 a4 a5
    rw [List.drop_of_length_le (by omega)] at a4 a5
    rw [List.filter_nil, List.append_nil] at a4
    subst a4
    rw [List.any_nil, Bool.or_false] at a5
    subst a5
    have F := ev_sFields acc ⟨#[]⟩ (by omega) (by omega)
    have T := text_eq acc (by omega) (by omega)
    rw [fields_one acc hr] at F
    refine Ev.step (fun k => by simp only [jobshelllaw18_SplitWhole.l0]; rw [if_neg (by omega)]) (Ev.bind F ?_)
    have C := elF_cat acc hr
    by_cases he : elF true acc = []
    · have e0 : (clo (elF true acc)).map runS = [] := by rw [he]; rfl
      rw [e0]
      have hq : q = false := by
        cases q with
        | false => rfl
        | true => exact absurd he (quoted_some acc (hQ rfl))
      subst hq
      rw [he] at C
      have t0 : (textF acc).toList = ([] : List UInt8) := by
        refine tl_nil.2 ?_
        unfold textF
        rw [size_mk, ← C]
        rfl
      have L := ev_last acc hR1 hR2
      simpa [T, t0] using L
    · have e1 : (clo (elF true acc)).map runS = [runS (elF true acc)] := by
        unfold clo
        rw [if_neg (fun h => he (List.eq_nil_of_length_eq_zero h))]
        rfl
      rw [e1]
      have tr := runS_cat (elF true acc)
      rw [C] at tr
      have T2 := text_eq (runS (elF true acc)) (by
        have b2 := rnF_len ((elF true acc).map key) []
        have b3 := elF_len true acc
        rw [List.length_map] at b2
        unfold runS
        simp at b2
        omega) (by unfold tot; rw [tr]; unfold tot at hR2; omega)
      have L := ev_last acc hR1 hR2
      have r0 : rd_L6 [runS (elF true acc)] 0 = runS (elF true acc) := rfl
      have te := textF_eq tr
      simpa [T, T2, r0, te] using L
  | succ d ih =>
    intro i acc q a1 a2 a3 a4 a5
    have hi : i < l.length := by omega
    obtain ⟨x, hx⟩ : ∃ x, l[i] = x := ⟨_, rfl⟩
    have rx := rd38 l i hi
    rw [dropc l i hi, hx] at a4 a5
    rw [hx] at rx
    rw [List.any_cons] at a5
    have ha : acc.length < 5864062014805 := by omega
    have W : wrap64 ((i : Int) + 1) = ((i + 1 : Nat) : Int) := wrapS (by omega)
    -- the flag behind this run
    have step : ∀ (acc2 : List S38), acc2.length ≤ i + 1 → acc2 ++ (l.drop (i + 1)).filter runB = R → Ev (fun k => if q = true then jobshelllaw18_SplitWhole.l0 k l acc2 true ((i + 1 : Nat) : Int) else jobshelllaw18_SplitWhole.l0 k l acc2 (x.f1 == 1) ((i + 1 : Nat) : Int)) true := by
      intro acc2 b1 b2
      cases q with
      | true =>
        simp only [if_true]
        exact ih (i + 1) acc2 true (by omega) (by omega) b1 b2 (by simpa using a5)
      | false =>
        simp only [Bool.false_eq_true, if_false]
        exact ih (i + 1) acc2 _ (by omega) (by omega) b1 b2 (by simpa using a5)
    by_cases hb : runB x = true
    · rw [List.filter_cons_of_pos hb] at a4
      have n := step (acc ++ [x]) (by rw [List.length_append]; simp; omega) (by rw [← a4]; simp)
      have hb2 := of_decide_eq_true hb
      refine Ev.step (fun k => ?_) n
      simp only [jobshelllaw18_SplitWhole.l0]
      rw [if_pos (ilt hi), if_pos (ige i), rx, W]
      by_cases c0 : x.f1 = 0
      · rw [if_pos c0, if_pos ha, Option.bind_some]
      · rw [if_neg c0]
        by_cases c1 : x.f1 = 1
        · rw [if_pos c1, if_pos ha, Option.bind_some]
        · rw [if_neg c1, if_pos (by omega), if_pos ha, Option.bind_some]
    · rw [List.filter_cons_of_neg hb] at a4
      have n := step acc (by omega) a4
      have hb2 : ¬ (x.f1 = 0 ∨ x.f1 = 1 ∨ x.f1 = 2) := fun h => hb (decide_eq_true h)
      refine Ev.step (fun k => ?_) n
      simp only [jobshelllaw18_SplitWhole.l0]
      rw [if_pos (ilt hi), if_pos (ige i), rx, W, if_neg (by omega), if_neg (by omega), if_neg (by omega)]
theorem tot_filter : ∀ l : List S38, tot (l.filter runB) ≤ tot l
  | [] => Nat.le_refl _
  | x :: t => by
    have ih := tot_filter t
    rw [List.filter_cons]
    split
    · rw [tot_cons, tot_cons]; omega
    · rw [tot_cons]; omega
theorem SplitWhole : jobshelllaw18_SplitWhole.Pure := by
  intro l hm hg
  refine Ev.rounds (g := fun k => jobshelllaw18_SplitWhole.f k l) ?_
  obtain ⟨b, hb, hb2⟩ := ev_small l hm hg
  unfold jobshelllaw18_SplitWhole.f
  refine Ev.bind hb ?_
  cases b with
  | false => exact ev_awake
  | true =>
    obtain ⟨s1, s2⟩ := hb2 rfl
    simp only [if_true]
    have f1 := List.length_filter_le runB l
    have f2 := tot_filter l
    refine ev_whole_l0 l (l.filter runB) (l.any (fun x => x.f1 == 1)) s1 s2 (fun x hx => (List.mem_filter.1 hx).2) (by omega) (by omega) (fun h => ?_) _ 0 [] false rfl (by omega) (by simp) (by simp) (by simp)
    obtain ⟨x, hx, h1⟩ := List.any_eq_true.1 h
    have h1 := beq_iff_eq.1 h1
    exact ⟨x, List.mem_filter.2 ⟨hx, decide_eq_true (Or.inr (Or.inl h1))⟩, h1⟩
end Go.Proofs.Ytbkhdgfehgfjpaa.Pure
