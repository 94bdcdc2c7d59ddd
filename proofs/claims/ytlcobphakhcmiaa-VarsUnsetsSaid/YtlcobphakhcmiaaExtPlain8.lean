/- Unset: what both sides answer on an ascending list; validity kept. -/
import Derived.Test.YtlcobphakhcmiaaPAllx0
import Derived.Test.YtlcobphakhcmiaaPAllx15
import Derived.Test.YtlcobphakhcmiaaExtPlain6
namespace Go.Proofs.Ytlcobphakhcmiaa.PAll
open Go.RowKit Go.Proofs.YtlcobphakhcmiaaW.PrintWords Go.Proofs.YtlcobphakhcmiaaW.PrintLast
set_option linter.unusedVariables false
set_option linter.unusedSimpArgs false

/-! ### Unset -/
def unsetF (l : List S26) (n : ByteArray) : List S26 × Int := if (cur l n).f4 = true then (l, 11) else (bef n l ++ aft n l, 0)
theorem filter_parts {l : List S26} {n : ByteArray} (ha : Asc l) : l.filter (fun x => x.f0.toList != n.toList) = bef n l ++ aft n l := by
  obtain ⟨e, _, hv, hb, haf⟩ := asc_parts (n := n) ha
  have e2 : l.filter (fun x => x.f0.toList != n.toList) = (bef n l ++ (at' n l).toList ++ aft n l).filter (fun x => x.f0.toList != n.toList) := by rw [← e]
  rw [e2, List.filter_append, List.filter_append]
  have f1 : (bef n l).filter (fun x => x.f0.toList != n.toList) = bef n l := List.filter_eq_self.2 fun x hx => by simpa using less_ne (hb x hx)
  have f2 : (aft n l).filter (fun x => x.f0.toList != n.toList) = aft n l := List.filter_eq_self.2 fun x hx => by simpa using fun hh => less_ne (haf x hx) hh.symm
  have f3 : (at' n l).toList.filter (fun x => x.f0.toList != n.toList) = [] := by
    cases ho : at' n l with
    | none => rfl
    | some x => simp [hv x ho]
  rw [f1, f2, f3, List.append_nil]
theorem ev_rUnset_l0 (l : List S26) (n : ByteArray) (hm : l.length ≤ 1000) : ∀ (d i : Nat) (out : List S26), l.length - i = d → i ≤ l.length → out.length ≤ i → Ev (fun k => jobshellref15_Unset.l0 k l n out i) (out ++ (l.drop i).filter (fun x => x.f0.toList != n.toList), 0) := by
  intro d
  induction d with
  | zero =>
    intro i out h1 h2 h3
    refine Ev.step (fun k => ?_) (Ev.now _)
    simp only [jobshellref15_Unset.l0]
    rw [if_neg (by omega), List.drop_of_length_le (by omega)]
    simp
  | succ d ih =>
    intro i out h1 h2 h3
    have hi : i < l.length := by omega
    rw [dropc l i hi, List.filter_cons]
    by_cases h : l[i].f0.toList = n.toList
    · refine Ev.step (fun k => ?_) (show Ev (fun k => jobshellref15_Unset.l0 k l n out ((i + 1 : Nat) : Int)) _ from ?_)
      · simp only [jobshellref15_Unset.l0]
        rw [if_pos (ilt hi), if_pos (ige i), rdn l i hi, if_pos h, wrapS (by omega)]
      · rw [if_neg (by simpa using h)]
        exact ih (i + 1) out (by omega) (by omega) (by omega)
    · refine Ev.step (fun k => ?_) (show Ev (fun k => jobshellref15_Unset.l0 k l n (out ++ [l[i]]) ((i + 1 : Nat) : Int)) _ from ?_)
      · simp only [jobshellref15_Unset.l0]
        rw [if_pos (ilt hi), if_pos (ige i), rdn l i hi, if_neg h, if_pos (by omega), wrapS (by omega)]
      · rw [if_pos (by simpa using h)]
        have := ih (i + 1) (out ++ [l[i]]) (by omega) (by omega) (by simp; omega)
        simpa using this
theorem ev_rUnset (l : List S26) (n : ByteArray) (ha : Asc l) (hm : l.length ≤ 1000) : Ev (fun k => jobshellref15_Unset.f k l n) (unsetF l n) := by
  unfold jobshellref15_Unset.f unsetF
  refine Ev.bind (ev_rGet l n (by omega)) ?_
  obtain ⟨g1, g2, g3, g4, g5⟩ := getT_parts l n
  rw [g4]
  by_cases h : (cur l n).f4 = true
  · simp only [if_pos h]; exact Ev.now _
  · simp only [if_neg h]
    have := ev_rUnset_l0 l n hm l.length 0 [] (by omega) (by omega) (by simp)
    rw [List.drop_zero, List.nil_append, filter_parts ha] at this
    exact this
theorem unset_eq (l : List S26) (n : ByteArray) (ha : Asc l) (hm : l.length ≤ 1000) : vars_Unset.f l n = some (unsetF l n) := by
  obtain ⟨e, hw, hv, hb, haf⟩ := asc_parts (n := n) ha
  have L : ∀ (a b : List S26), a.length ≤ 2002 → b.length ≤ 2002 → a.length + b.length < 3518437208883 := fun a b ha hb => by omega
  unfold vars_Unset.f unsetF
  rw [where_eq l n hm, hw, Option.bind_some]
  cases ho : at' n l with
  | none =>
    have hc : cur l n = ⟨n, ⟨#[]⟩, false, false, false⟩ := by rw [cur, ho]; rfl
    rw [ho] at e
    simp only [Option.toList_none, List.append_nil] at e
    rw [if_neg (by simp), if_neg (by rw [hc]; simp), ← e]
  | some x =>
    rw [cur_of ho]
    rw [ho] at e
    obtain ⟨B, hB⟩ : ∃ B, bef n l = B := ⟨_, rfl⟩
    obtain ⟨A, hA⟩ : ∃ A, aft n l = A := ⟨_, rfl⟩
    rw [hB, hA] at e ⊢
    simp only [Option.toList_some] at e
    have hl : l.length = B.length + 1 + A.length := by rw [e]; simp only [List.length_append, List.length_cons, List.length_nil]
    have hi : B.length < l.length := by omega
    have hx : l[B.length] = x := by
      have h2 : l[B.length]? = some x := by rw [e]; simp
      exact (List.getElem?_eq_some_iff.1 h2).2
    have e1 : l.take B.length = B := by rw [e]; simp
    have e2 : l.drop (B.length + 1) = A := by
      rw [e, show B.length + 1 = (B ++ [x]).length by simp, List.drop_left]
    rw [if_pos (show (some x).isSome = true from rfl), if_pos (ige _), if_pos (ilt hi), rdn l _ hi, hx]
    by_cases h4 : x.f4 = true
    · rw [if_pos h4, if_pos h4]
    · rw [if_neg h4, if_neg h4, if_pos (ige _), if_pos (by rw [Int.toNat_natCast]; omega), Option.bind_some, if_pos (by omega), Option.bind_some, Int.toNat_natCast, e1, if_pos (L _ _ (by simp) (by omega)), Option.bind_some, wrapS (by omega), if_pos (ige _), if_pos (by omega), Option.bind_some, Int.toNat_natCast, e2, if_pos (L _ _ (by rw [List.nil_append]; omega) (by omega)), List.nil_append]
theorem unset_valid {l : List S26} {n : ByteArray} (h : valF l = 0) : valF (unsetF l n).1 = 0 := by
  obtain ⟨h1, h2, h3⟩ := (valF_zero l).1 h
  unfold unsetF
  split
  · exact h
  · show valF (bef n l ++ aft n l) = 0
    rw [← filter_parts h3]
    exact (valF_zero _).2 ⟨Nat.le_trans (List.length_filter_le _ _) h1, fun v hv => h2 v (List.mem_filter.1 hv).1, List.Pairwise.sublist List.filter_sublist h3⟩
end Go.Proofs.Ytlcobphakhcmiaa.PAll
