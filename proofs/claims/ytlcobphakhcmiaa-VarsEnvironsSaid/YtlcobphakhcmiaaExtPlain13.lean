/- Divide, From, Environ of the reference: what they answer. -/
import Derived.Test.YtlcobphakhcmiaaPAllx0
import Derived.Test.YtlcobphakhcmiaaPAllx11
import Derived.Test.YtlcobphakhcmiaaExtPlain9
import Derived.Test.YtlcobphakhcmiaaExtPlain11
namespace Go.Proofs.Ytlcobphakhcmiaa.PAll
open Go.RowKit Go.Proofs.YtlcobphakhcmiaaW.PrintWords Go.Proofs.YtlcobphakhcmiaaW.PrintLast
set_option linter.unusedVariables false
set_option linter.unusedSimpArgs false

theorem ev_Divide_l0 (s : ByteArray) (hm : s.size ≤ 9223372036854775807) : ∀ (d i : Nat), s.size - i = d → i ≤ s.size → (∀ j, j < i → s.data.toList[j]? ≠ some 61) → Ev (fun k => jobshellref15_Divide.l0 k s i) (divF s) := by
  intro d
  induction d with
  | zero =>
    intro i h1 h2 h3
    have hc : cutAt s 61 = -1 := by
      rcases cutAt_cases s 61 with h | ⟨q, h, hq⟩
      · exact h
      · exact absurd (Lib.indexByte_some h).1 (h3 q (by omega))
    refine Ev.step (fun k => ?_) (Ev.now _)
    simp only [jobshellref15_Divide.l0, divF]
    rw [if_neg (by omega), if_pos hc]
  | succ d ih =>
    intro i h1 h2 h3
    have hi : i < s.size := by omega
    by_cases h : s.data.toList[i]? = some 61
    · have hc : cutAt s 61 = (i : Int) := by
        rcases cutAt_cases s 61 with h' | ⟨q, h', hq⟩
        · exact absurd h (Lib.indexByte_none h' i)
        · obtain ⟨e1, e2⟩ := Lib.indexByte_some h'
          have : q = i := by
            rcases Nat.lt_trichotomy q i with hl | hl | hl
            · exact absurd e1 (h3 q hl)
            · exact hl
            · exact absurd h (e2 i hl)
          rw [h', this]
      have hb : bt s (i : Int) = 61 := (bt61 s i hi).2 h
      have hd : divF s = (s.extract 0 i, s.extract (i + 1) s.size, nameB (s.extract 0 i)) := by
        unfold divF
        rw [if_neg (by omega), hc, Int.toNat_natCast]
      rw [hd]
      refine Ev.step (fun k => ?_) (Ev.bind (ev_rName (s.extract 0 i)) (f := fun k t => some (s.extract 0 i, s.extract (i + 1) s.size, t)) (Ev.now _))
      simp only [jobshellref15_Divide.l0]
      rw [if_pos (ilt hi), if_pos (ige i), if_pos hb, if_pos (by omega), wrapS (by omega), if_pos (ige _), if_pos (by omega), Int.toNat_natCast, Int.toNat_natCast]
    · have hb : ¬ bt s (i : Int) = 61 := fun e => h ((bt61 s i hi).1 e)
      refine Ev.step (fun k => ?_) (show Ev (fun k => jobshellref15_Divide.l0 k s ((i + 1 : Nat) : Int)) _ from ih (i + 1) (by omega) (by omega) ?_)
      · simp only [jobshellref15_Divide.l0]
        rw [if_pos (ilt hi), if_pos (ige i), if_neg hb, wrapS (by omega)]
      · intro j hj
        rcases Nat.lt_or_ge j i with hl | hl
        · exact h3 j hl
        · rw [show j = i by omega]
          exact h
theorem ev_Divide (s : ByteArray) (hm : s.size ≤ 9223372036854775807) : Ev (fun k => jobshellref15_Divide.f k s) (divF s) := ev_Divide_l0 s hm s.size 0 (by omega) (by omega) (fun j hj => absurd hj (Nat.not_lt_zero _))
theorem ev_rFrom_l0 (l : List ByteArray) (hm : l.length ≤ 138) (hs : ∀ x ∈ l, x.size ≤ 9223372036854775807) : ∀ (d i : Nat) (out : List S26), l.length - i = d → i ≤ l.length → Asc out → out.length ≤ i → Ev (fun k => jobshellref15_From.l0 k l out i) (fromF out (l.drop i)) := by
  intro d
  induction d with
  | zero =>
    intro i out h1 h2 ha ho
    refine Ev.step (f := fun _ => some (fromF out [])) (fun k => ?_) ?_
    · simp only [jobshellref15_From.l0, fromF]
      rw [if_neg (by omega)]
      by_cases h : (out.length : Int) > 128
      · rw [if_pos h, if_pos h]
      · rw [if_neg h, if_neg h]
    · rw [List.drop_of_length_le (by omega)]
      exact Ev.now _
  | succ d ih =>
    intro i out h1 h2 ha ho
    have hi : i < l.length := by omega
    have hsz := hs _ (List.getElem_mem hi)
    rw [dropc l i hi]
    simp only [fromF]
    refine Ev.step (fun k => by simp only [jobshellref15_From.l0]; rw [if_pos (ilt hi), if_pos (ige i), rdo l i hi]) (Ev.bind (ev_Divide _ hsz) ?_)
    by_cases h : (divF l[i]).2.2 = true
    · simp only [if_pos h]
      by_cases h4 : ((divF l[i]).2.1.size : Int) > 4096
      · simp only [if_pos h4, decide_eq_true h4]
        exact Ev.step (fun k => by simp only [jobshellref15_From.j1]; rfl) (Ev.now _)
      · simp only [if_neg h4, decide_eq_false h4]
        have P := ev_put out ⟨(divF l[i]).1, (divF l[i]).2.1, true, true, false⟩ (by omega)
        have hl := put_len ha ⟨(divF l[i]).1, (divF l[i]).2.1, true, true, false⟩
        have hl' : (putF out ⟨(divF l[i]).1, (divF l[i]).2.1, true, true, false⟩).length ≤ i + 1 := by omega
        refine Ev.step (fun k => by simp only [jobshellref15_From.j1]; rw [if_neg (by simp), if_pos h, wrapS (by omega)]) (Ev.bind P (ih (i + 1) _ (by omega) (by omega) (asc_put ha) hl'))
    · simp only [if_neg h]
      refine Ev.step (fun k => by simp only [jobshellref15_From.j1]; rw [if_neg (by simp), if_neg h, wrapS (by omega)]) (ih (i + 1) _ (by omega) (by omega) ha (by omega))
theorem ev_rFrom (l : List ByteArray) (hm : l.length ≤ 138) (hs : ∀ x ∈ l, x.size ≤ 9223372036854775807) : Ev (fun k => jobshellref15_From.f k l) (fromF [] l) := by
  have := ev_rFrom_l0 l hm hs l.length 0 [] (by omega) (by omega) List.Pairwise.nil (by simp)
  exact this
theorem ev_rEnviron_l0 (l : List S26) (hm : l.length ≤ 128) (hv : ∀ v ∈ l, okV v) : ∀ (d i : Nat) (out : List ByteArray), l.length - i = d → i ≤ l.length → out.length ≤ i → Ev (fun k => jobshellref15_Environ.l0 k l out i) (out ++ envF (l.drop i)) := by
  intro d
  induction d with
  | zero =>
    intro i out h1 h2 h3
    refine Ev.step (fun k => ?_) (Ev.now _)
    simp only [jobshellref15_Environ.l0]
    rw [if_neg (by omega), List.drop_of_length_le (by omega)]
    simp [envF]
  | succ d ih =>
    intro i out h1 h2 h3
    have hi : i < l.length := by omega
    obtain ⟨o1, o2, o3⟩ := hv _ (List.getElem_mem hi)
    have hn := name_size o1
    rw [dropc l i hi, envF_cons]
    by_cases h : l[i].f2 = true
    · by_cases h' : l[i].f3 = true
      · refine Ev.step (fun k => ?_) (show Ev (fun k => jobshellref15_Environ.l0 k l (out ++ [entry l[i]]) ((i + 1 : Nat) : Int)) _ from ?_)
        · simp only [jobshellref15_Environ.l0]
          rw [if_pos (ilt hi), if_pos (ige i), rdn l i hi, if_pos h, if_pos h', if_pos (by omega), if_pos (by omega), if_pos (by omega), wrapS (by omega)]
          rfl
        · rw [if_pos h, if_pos h']
          have := ih (i + 1) (out ++ [entry l[i]]) (by omega) (by omega) (by simp; omega)
          simpa using this
      · refine Ev.step (fun k => ?_) (show Ev (fun k => jobshellref15_Environ.l0 k l out ((i + 1 : Nat) : Int)) _ from ?_)
        · simp only [jobshellref15_Environ.l0]
          rw [if_pos (ilt hi), if_pos (ige i), rdn l i hi, if_pos h, if_neg h', wrapS (by omega)]
        · rw [if_pos h, if_neg h']
          exact ih (i + 1) out (by omega) (by omega) (by omega)
    · refine Ev.step (fun k => ?_) (show Ev (fun k => jobshellref15_Environ.l0 k l out ((i + 1 : Nat) : Int)) _ from ?_)
      · simp only [jobshellref15_Environ.l0]
        rw [if_pos (ilt hi), if_pos (ige i), rdn l i hi, if_neg h, wrapS (by omega)]
      · rw [if_neg h]
        exact ih (i + 1) out (by omega) (by omega) (by omega)
theorem ev_rEnviron (l : List S26) (hm : l.length ≤ 128) (hv : ∀ v ∈ l, okV v) : Ev (fun k => jobshellref15_Environ.f k l) (envF l) := by
  have := ev_rEnviron_l0 l hm hv l.length 0 [] (by omega) (by omega) (by simp)
  rw [List.drop_zero, List.nil_append] at this
  exact this
end Go.Proofs.Ytlcobphakhcmiaa.PAll
