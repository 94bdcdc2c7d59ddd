/- The law VarsKeeps, in plain Lean: after Set the variable has the value, all others are as they were, and a read-only variable keeps its value. -/
import Derived.Test.YtlcobphakhcmiaaExtDefVarsKeeps
import Derived.Test.YtlcobphakhcmiaaExtPlain10
namespace Go.Proofs.Ytlcobphakhcmiaa.Pure
open Go.RowKit Go.Proofs.Ytlcobphakhcmiaa.PAll Go.Proofs.YtlcobphakhcmiaaW.PrintWords Go.Proofs.YtlcobphakhcmiaaW.PrintLast
set_option linter.unusedSimpArgs false
theorem at_put_same {l : List S26} (ha : Asc l) (v : S26) : at' v.f0 (putF l v) = some v := by
  obtain ⟨_, _, _, hb, _⟩ := asc_parts (n := v.f0) ha
  unfold at' putF
  rw [List.find?_append]
  have : (bef v.f0 l).find? (fun x => x.f0.toList == v.f0.toList) = none := List.find?_eq_none.2 fun x hx => by simpa using less_ne (hb x hx)
  rw [this, List.find?_cons_of_pos (by simp)]
  rfl
theorem at_put_other {l : List S26} (ha : Asc l) (v : S26) {n : ByteArray} (hn : n ≠ v.f0) : at' n (putF l v) = at' n l := by
  obtain ⟨e, _, hv, _, _⟩ := asc_parts (n := v.f0) ha
  have h1 : at' n l = at' n (bef v.f0 l ++ (at' v.f0 l).toList ++ aft v.f0 l) := by rw [← e]
  rw [h1]
  unfold putF at'
  have hne : ¬ (v.f0.toList == n.toList) = true := by simpa using fun h => hn (tl_inj h).symm
  have hcn : ∀ t : List S26, (v :: t).find? (fun x => x.f0.toList == n.toList) = t.find? (fun x => x.f0.toList == n.toList) := fun t => List.find?_cons_of_neg (by simpa using hne)
  rw [List.find?_append, List.find?_append, List.find?_append, hcn]
  have : (at' v.f0 l).toList.find? (fun x => x.f0.toList == n.toList) = none := by
    cases ho : at' v.f0 l with
    | none => rfl
    | some x => rw [Option.toList_some, List.find?_singleton, if_neg (by rw [hv x ho]; exact hne)]
  unfold at' at this
  rw [this, Option.or_none]
theorem setF_cases (l : List S26) (n val : ByteArray) : (∃ c, c ≠ 0 ∧ setF l n val = (l, c)) ∨ ((cur l n).f4 = false ∧ setF l n val = (putF l ⟨n, val, true, (cur l n).f3, false⟩, 0)) := by
  unfold setF
  split
  case isFalse => exact .inl ⟨_, by decide, rfl⟩
  split
  case isTrue => exact .inl ⟨_, by decide, rfl⟩
  rename_i h2
  have h2' : (cur l n).f4 = false := by simpa using h2
  split
  case isTrue => exact .inl ⟨_, by decide, rfl⟩
  split
  case isTrue => exact .inr ⟨h2', rfl⟩
  split
  case isTrue => exact .inl ⟨_, by decide, rfl⟩
  exact .inr ⟨h2', rfl⟩
theorem VarsKeeps : jobshelllaw15_VarsKeeps.Pure := by
  intro l n0 n1 val hm _ _
  obtain ⟨b, hb⟩ := ev_Small l hm
  refine Ev.rounds (g := fun k => jobshelllaw15_VarsKeeps.f k l n0 n1 val) ?_
  have stop : Ev (fun k => jobshelllaw15_VarsKeeps.j0 k l val true n0 n1) true := Ev.step (fun k => by simp only [jobshelllaw15_VarsKeeps.j0]; rfl) ev_awake
  unfold jobshelllaw15_VarsKeeps.f
  refine Ev.bind hb ?_
  cases b with
  | false => exact stop
  | true =>
    simp only [if_true]
    obtain ⟨c, hc⟩ : ∃ c, jobshelllaw15_short.f val = some c := by unfold jobshelllaw15_short.f; split <;> exact ⟨_, rfl⟩
    simp only [hc, Option.bind_some]
    cases c with
    | false => exact stop
    | true =>
      simp only [if_true]
      refine Ev.bind (ev_rValid l) ?_
      by_cases hv : valF l = 0
      · obtain ⟨h1, h2, h3⟩ := (valF_zero l).1 hv
        have hs := set_valid (n := n0) (val := val) hv
        have hl := ((valF_zero _).1 hs).1
        rw [show (valF l != 0) = false by rw [hv]; rfl]
        obtain ⟨p1, p2, p3, p4, p5⟩ := getT_parts l n0
        rcases setF_cases l n0 val with ⟨c, hc0, hset⟩ | ⟨hro, hset⟩
        · -- nothing is changed
          have J : ∀ (is : Bool) (a b : ByteArray) (m1 m2 : ByteArray) (m3 m4 m5 : Bool) (w1 w2 : ByteArray) (w3 w4 w5 : Bool), Ev (fun k => jobshelllaw15_VarsKeeps.j1 k val c is false a b m1 m2 m3 m4 m5 w1 w2 w3 w4 w5) true := by
            intro is a b m1 m2 m3 m4 m5 w1 w2 w3 w4 w5
            refine Ev.step (fun k => ?_) ev_awake
            simp only [jobshelllaw15_VarsKeeps.j1]
            rw [if_neg (by simp), if_neg hc0]
          have S := ev_Set l n0 val h3 (by omega)
          rw [hset] at S
          refine Ev.step (fun k => by simp only [jobshelllaw15_VarsKeeps.j0]; rw [if_neg (by simp)]) ?_
          refine Ev.bind (ev_Get l n1 hm) (Ev.bind (ev_Get l n0 hm) (Ev.bind S (Ev.bind (ev_Get l n1 hm) (Ev.bind (ev_Get l n0 hm) ?_))))
          simp only [beq_self_eq_true, Bool.not_true, Bool.or_false, bne_self_eq_false, Bool.false_eq_true, if_false]
          by_cases hn : n0.toList = n1.toList
          · simp only [if_pos hn]
            by_cases hr : (getT l n0).2.2.2.2.1 = true
            · simp only [if_pos hr]; exact J _ _ _ _ _ _ _ _ _ _ _ _ _
            · simp only [if_neg hr]; exact J _ _ _ _ _ _ _ _ _ _ _ _ _
          · simp only [if_neg hn]
            by_cases hr : (getT l n0).2.2.2.2.1 = true
            · simp only [if_pos hr]; exact J _ _ _ _ _ _ _ _ _ _ _ _ _
            · simp only [if_neg hr]; exact J _ _ _ _ _ _ _ _ _ _ _ _ _
        · rw [hset] at hl
          have S := ev_Set l n0 val h3 (by omega)
          rw [hset] at S
          obtain ⟨V, hV⟩ : ∃ V : S26, V = ⟨n0, val, true, (cur l n0).f3, false⟩ := ⟨_, rfl⟩
          rw [← hV] at S hl
          have hV0 : V.f0 = n0 := by rw [hV]
          have hw : getT (putF l V) n0 = (n0, val, true, (cur l n0).f3, false, true) := by
            have := at_put_same h3 V
            rw [hV0] at this
            unfold getT
            rw [this, hV]
          have hother : n0.toList ≠ n1.toList → getT (putF l V) n1 = getT l n1 := by
            intro hn
            unfold getT
            rw [at_put_other h3 V (fun h => hn (by rw [h, hV0]))]
          have J : ∀ (b : ByteArray) (m1 m2 : ByteArray) (m3 m5 : Bool), Ev (fun k => jobshelllaw15_VarsKeeps.j1 k val 0 true false n0 b m1 m2 m3 (cur l n0).f3 m5 n0 val true (cur l n0).f3 false) true := by
            intro b m1 m2 m3 m5
            refine Ev.step (fun k => ?_) ev_awake
            simp only [jobshelllaw15_VarsKeeps.j1]
            rw [if_neg (by simp), if_pos trivial, if_pos trivial, if_neg (by simp)]
          refine Ev.step (fun k => by simp only [jobshelllaw15_VarsKeeps.j0]; rw [if_neg (by simp)]) ?_
          refine Ev.bind (ev_Get l n1 hm) (Ev.bind (ev_Get l n0 hm) (Ev.bind S (Ev.bind (ev_Get _ n1 (by omega)) (Ev.bind (ev_Get _ n0 (by omega)) ?_))))
          have hr : (getT l n0).2.2.2.2.1 = false := by rw [p4]; exact hro
          have he : (getT l n0).2.2.2.1 = (cur l n0).f3 := p3
          by_cases hn : n0.toList = n1.toList
          · simp only [if_pos hn, hr, he, hw, Bool.false_eq_true, if_false]
            exact J _ _ _ _ _
          · simp only [if_neg hn, hother hn, hr, he, hw, beq_self_eq_true, Bool.not_true, Bool.or_false, bne_self_eq_false, Bool.false_eq_true, if_false]
            exact J _ _ _ _ _
      · rw [show (valF l != 0) = true from bne_iff_ne.2 hv]
        exact stop
end Go.Proofs.Ytlcobphakhcmiaa.Pure
