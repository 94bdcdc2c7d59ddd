/- small, Short, Text, Join: what both sides answer. -/
import Derived.Test.YtbkhdgfehgfjpaaPAllx0
import Derived.Test.YtbkhdgfehgfjpaaPAllx2
import Derived.Test.YtbkhdgfehgfjpaaPAllx7
import Derived.Test.YtbkhdgfehgfjpaaPAllx17
import Derived.Test.YtbkhdgfehgfjpaaPAllx18
import Derived.Test.YtbkhdgfehgfjpaaExtOpen
import Derived.Test.YtbkhdgfehgfjpaaExtPlain2
namespace Go.Proofs.Ytbkhdgfehgfjpaa.PAll
open Go.RowKit Go.Proofs.YtbkhdgfehgfjpaaW.PrintWords Go.Proofs.YtbkhdgfehgfjpaaW.PrintLast
set_option linter.unusedVariables false
set_option linter.unusedSimpArgs false
theorem ev_Small_l0 (l : List S38) (hg : ∀ x ∈ l, good38 x) (hm : l.length ≤ 9223372036854775807) : ∀ (d i n : Nat), l.length - i = d → i ≤ l.length → n + tot (l.drop i) = tot l → n ≤ 140737488351312 →
    ∃ b, Ev (fun k => jobshellref04_Small.l0 k l 12 80 (n : Int) (i : Int)) b ∧ (b = true → l.length ≤ 12 ∧ tot l ≤ 80) := by
  intro d
  induction d with
  | zero =>
    intro i n h1 h2 h3 h4
    have hi : i = l.length := by omega
    have ht : tot l = n := by
      rw [hi, List.drop_length] at h3
      have : tot ([] : List S38) = 0 := rfl
      omega
    by_cases h : (l.length : Int) ≤ 12
    · refine ⟨decide ((n : Int) ≤ 80), Ev.step (f := fun _ => some (decide ((n : Int) ≤ 80))) (fun k => ?_) (Ev.now _), fun hb => ⟨by omega, by have := of_decide_eq_true hb; omega⟩⟩
      simp only [jobshellref04_Small.l0]
      rw [if_neg (by omega), if_pos h]
    · refine ⟨false, Ev.step (f := fun _ => some false) (fun k => ?_) (Ev.now _), fun hb => by cases hb⟩
      simp only [jobshellref04_Small.l0]
      rw [if_neg (by omega), if_neg h]
  | succ d ih =>
    intro i n h1 h2 h3 h4
    have hi : i < l.length := by omega
    have hs : l[i].f0.size ≤ 140737488351232 := hg _ (List.getElem_mem hi)
    by_cases h12 : (i : Int) ≤ 12
    · by_cases h80 : (n : Int) ≤ 80
      · obtain ⟨b, hb, hb2⟩ := ih (i + 1) (n + l[i].f0.size) (by omega) (by omega) (by rw [dropc l i hi, tot_cons] at h3; omega) (by omega)
        refine ⟨b, Ev.step (fun k => ?_) hb, hb2⟩
        simp only [jobshellref04_Small.l0]
        rw [if_pos (ilt hi), if_pos h12, if_pos h80, if_pos (ige i), rd38 l i hi, wrapS (by omega), wrapA (by omega)]
      · refine ⟨false, Ev.step (f := fun _ => some false) (fun k => ?_) (Ev.now _), fun hb => by cases hb⟩
        simp only [jobshellref04_Small.l0]
        rw [if_pos (ilt hi), if_pos h12, if_neg h80]
        by_cases h : (l.length : Int) ≤ 12
        · rw [if_pos h, decide_eq_false h80]
        · rw [if_neg h]
    · refine ⟨false, Ev.step (f := fun _ => some false) (fun k => ?_) (Ev.now _), fun hb => by cases hb⟩
      simp only [jobshellref04_Small.l0]
      rw [if_pos (ilt hi), if_neg h12, if_neg (by omega)]
theorem ev_small (l : List S38) (hm : l.length ≤ 9223372036854775807) (hg : ∀ x ∈ l, good38 x) : ∃ b, Ev (fun k => jobshelllaw18_small.f k l) b ∧ (b = true → l.length ≤ 12 ∧ tot l ≤ 80) := by
  obtain ⟨b, hb, h2⟩ := ev_Small_l0 l hg hm l.length 0 0 (by omega) (by omega) (by simp) (by omega)
  exact ⟨b, Ev.bind (show Ev (fun k => jobshellref04_Small.f k l 12 80) b from hb) (Ev.now _), h2⟩
theorem ev_Short_l0 (l : List ByteArray) (hm : l.length ≤ 9223372036854775807) : ∀ (d i : Nat), l.length - i = d → i ≤ l.length → (∀ j (h : j < l.length), j < i → l[j].size ≤ 40) →
    ∃ b, Ev (fun k => jobshellref03_Short.l0 k l 12 40 (i : Int)) b ∧ (b = true → l.length ≤ 12 ∧ ∀ x ∈ l, x.size ≤ 40) := by
  intro d
  induction d with
  | zero =>
    intro i h1 h2 h3
    refine ⟨decide ((l.length : Int) ≤ 12), Ev.step (f := fun k => jobshellref03_Short.j1 k l 12 40 i false) (fun k => ?_) (Ev.step (f := fun _ => some (decide ((l.length : Int) ≤ 12))) (fun k => ?_) (Ev.now _)), fun hb => ⟨by have := of_decide_eq_true hb; omega, fun x hx => ?_⟩⟩
    · simp only [jobshellref03_Short.l0]
      rw [if_neg (by omega)]
    · simp only [jobshellref03_Short.j1]
      rw [if_neg (by simp)]
    · obtain ⟨j, hj, rfl⟩ := List.getElem_of_mem hx
      exact h3 j hj (by omega)
  | succ d ih =>
    intro i h1 h2 h3
    have hi : i < l.length := by omega
    by_cases h12 : (i : Int) ≤ 12
    · by_cases h40 : (l[i].size : Int) > 40
      · refine ⟨false, Ev.step (f := fun k => jobshellref03_Short.j1 k l 12 40 i true) (fun k => ?_) (Ev.step (f := fun _ => some false) (fun k => ?_) (Ev.now _)), fun hb => by cases hb⟩
        · simp only [jobshellref03_Short.l0]
          rw [if_pos (ilt hi), decide_eq_true h12]
        · simp only [jobshellref03_Short.j1]
          rw [if_pos trivial, if_pos (ige i), if_pos (ilt hi), rdo l i hi, if_pos h40]
      · obtain ⟨b, hb, hb2⟩ := ih (i + 1) (by omega) (by omega) (fun j hj hji => by
          rcases Nat.lt_or_ge j i with h | h
          · exact h3 j hj h
          · have : j = i := by omega
            subst this
            omega)
        refine ⟨b, Ev.step (f := fun k => jobshellref03_Short.j1 k l 12 40 i true) (fun k => ?_) (Ev.step (fun k => ?_) hb), hb2⟩
        · simp only [jobshellref03_Short.l0]
          rw [if_pos (ilt hi), decide_eq_true h12]
        · simp only [jobshellref03_Short.j1]
          rw [if_pos trivial, if_pos (ige i), if_pos (ilt hi), rdo l i hi, if_neg h40, wrapS (by omega)]
    · refine ⟨false, Ev.step (f := fun k => jobshellref03_Short.j1 k l 12 40 i false) (fun k => ?_) (Ev.step (f := fun _ => some (decide ((l.length : Int) ≤ 12))) (fun k => ?_) ?_), fun hb => by cases hb⟩
      · simp only [jobshellref03_Short.l0]
        rw [if_pos (ilt hi), decide_eq_false h12]
      · simp only [jobshellref03_Short.j1]
        rw [if_neg (by simp)]
      · rw [decide_eq_false (by omega)]
        exact Ev.now _
theorem ev_Short (l : List ByteArray) (hm : l.length ≤ 9223372036854775807) : ∃ b, Ev (fun k => jobshellref03_Short.f k l 12 40) b ∧ (b = true → l.length ≤ 12 ∧ ∀ x ∈ l, x.size ≤ 40) :=
  ev_Short_l0 l hm l.length 0 (by omega) (by omega) (fun j _ h => absurd h (Nat.not_lt_zero _))
theorem size_mk (l : List UInt8) : (⟨l.toArray⟩ : ByteArray).size = l.length := by
  show l.toArray.size = _
  simp
theorem app_mk (a b : List UInt8) : (⟨a.toArray⟩ : ByteArray) ++ ⟨b.toArray⟩ = ⟨(a ++ b).toArray⟩ := by
  apply ba_ext
  rw [ByteArray.data_append]
  simp
theorem app_ba (a : List UInt8) (b : ByteArray) : (⟨a.toArray⟩ : ByteArray) ++ b = ⟨(a ++ b.data.toList).toArray⟩ := by
  apply ba_ext
  rw [ByteArray.data_append]
  simp
/-- The text of runs. -/
def textF (l : List S38) : ByteArray := ⟨(catL (l.map (·.f0))).toArray⟩
theorem ev_rText_l0 (l : List S38) (hm : l.length ≤ 9223372036854775807) (ht : tot l ≤ 9223372036854775807) : ∀ (d i : Nat) (acc : List UInt8), l.length - i = d → i ≤ l.length → acc ++ catL ((l.drop i).map (·.f0)) = catL (l.map (·.f0)) → Ev (fun k => jobshellref18_Text.l0 k l ⟨acc.toArray⟩ (i : Int)) (textF l) := by
  intro d
  induction d with
  | zero =>
    intro i acc h1 h2 h3
    refine Ev.step (f := fun _ => some (textF l)) (fun k => ?_) (Ev.now _)
    simp only [jobshellref18_Text.l0]
    rw [if_neg (by omega)]
    rw [List.drop_of_length_le (by omega), List.map_nil, catL, List.append_nil] at h3
    rw [textF, ← h3]
  | succ d ih =>
    intro i acc h1 h2 h3
    have hi : i < l.length := by omega
    rw [dropc l i hi, List.map_cons, catL, ← List.append_assoc] at h3
    refine Ev.step (fun k => ?_) (ih (i + 1) (acc ++ l[i].f0.data.toList) (by omega) (by omega) h3)
    have hl := congrArg List.length h3
    rw [List.length_append, List.length_append, dl_len] at hl
    have : (catL (l.map (·.f0))).length = tot l := rfl
    simp only [jobshellref18_Text.l0]
    rw [if_pos (ilt hi), if_pos (ige i), rd38 l i hi, if_pos (by rw [size_mk]; omega), wrapS (by omega), app_ba]
theorem ev_rText (l : List S38) (hm : l.length ≤ 9223372036854775807) (ht : tot l ≤ 9223372036854775807) : Ev (fun k => jobshellref18_Text.f k l) (textF l) :=
  ev_rText_l0 l hm ht l.length 0 [] (by omega) (by omega) (by simp)
theorem text_eq (l : List S38) (hm : l.length ≤ 9223372036854775807) (ht : tot l ≤ 140737488355328) : split_Text.f l = some (textF l) := by
  unfold split_Text.f
  have ht' : (catL (l.map (·.f0))).length ≤ 140737488355328 := ht
  rw [if_pos ht', if_pos hm]
  rfl
/-! ### Join -/
/-- Texts, each behind the separator. -/
def jrest (sep : List UInt8) : List ByteArray → List UInt8
  | [] => []
  | s :: t => sep ++ s.data.toList ++ jrest sep t
theorem joinL_cons (sep : ByteArray) : ∀ (s : ByteArray) (t : List ByteArray), joinL (s :: t) sep = s.data.toList ++ jrest sep.data.toList t
  | s, [] => by simp [joinL, Lib.join, jrest, List.intercalate]
  | s, u :: t => by
    have ih := joinL_cons sep u t
    have e : joinL (s :: u :: t) sep = s.data.toList ++ (sep.data.toList ++ joinL (u :: t) sep) := by
      simp [joinL, Lib.join, List.intercalate]
    rw [e, ih, jrest]
    simp only [List.append_assoc]
theorem jrest_len (sep : List UInt8) (B : Nat) (hs : sep.length ≤ 20) : ∀ (l : List ByteArray), (∀ x ∈ l, x.size ≤ 40) → (jrest sep l).length ≤ 60 * l.length
  | [], _ => by simp [jrest]
  | s :: t, h => by
    have ih := jrest_len sep B hs t (fun x hx => h x (List.mem_cons_of_mem _ hx))
    have h0 := h s (by simp)
    rw [jrest, List.length_append, List.length_append, dl_len, List.length_cons]
    omega
theorem ev_rJoin_l0 (l : List ByteArray) (sep : ByteArray) (hm : l.length ≤ 9223372036854775807) (J : List UInt8) (hJ : J.length ≤ 9223372036854775807) : ∀ (d i : Nat) (acc : List UInt8), l.length - i = d → i ≤ l.length → 0 < i → acc ++ jrest sep.data.toList (l.drop i) = J → Ev (fun k => jobshellref18_Join.l0 k l sep ⟨acc.toArray⟩ (i : Int)) ⟨J.toArray⟩ := by
  intro d
  induction d with
  | zero =>
    intro i acc h1 h2 h0 h3
    refine Ev.step (f := fun _ => some (⟨J.toArray⟩ : ByteArray)) (fun k => ?_) (Ev.now _)
    simp only [jobshellref18_Join.l0]
    rw [if_neg (by omega)]
    rw [List.drop_of_length_le (by omega), jrest, List.append_nil] at h3
    rw [← h3]
  | succ d ih =>
    intro i acc h1 h2 h0 h3
    have hi : i < l.length := by omega
    rw [dropc l i hi, jrest, ← List.append_assoc, ← List.append_assoc] at h3
    refine Ev.step (fun k => ?_) (ih (i + 1) (acc ++ sep.data.toList ++ l[i].data.toList) (by omega) (by omega) (by omega) h3)
    have hl := congrArg List.length h3
    rw [List.length_append, List.length_append, List.length_append, dl_len, dl_len] at hl
    simp only [jobshellref18_Join.l0]
    rw [if_pos (ilt hi), if_pos (by omega), if_pos (by rw [size_mk]; omega), if_pos (ige i), rdo l i hi, if_pos (by rw [size_mk]; omega), wrapS (by omega), app_ba, app_ba]
theorem ev_rJoin_j0 (l : List ByteArray) (sep : ByteArray) (hm : l.length ≤ 9223372036854775807) (hJ : (joinL l sep).length ≤ 9223372036854775807) : Ev (fun k => jobshellref18_Join.j0 k l sep) ⟨(joinL l sep).toArray⟩ := by
  refine Ev.step (f := fun k => jobshellref18_Join.l0 k l sep ⟨#[]⟩ 0) (fun k => by simp only [jobshellref18_Join.j0]) ?_
  cases l with
  | nil =>
    refine Ev.step (f := fun _ => some (⟨#[]⟩ : ByteArray)) (fun k => ?_) (Ev.now _)
    simp only [jobshellref18_Join.l0]
    rfl
  | cons s t =>
    have hj := joinL_cons sep s t
    refine Ev.step (fun k => ?_) (ev_rJoin_l0 (s :: t) sep hm (joinL (s :: t) sep) hJ t.length 1 s.data.toList (by simp) (by simp) (by omega) (by rw [hj]; rfl))
    have hl := congrArg List.length hj
    rw [List.length_append, dl_len] at hl
    have r0 : rdOf ByteArray.empty (s :: t) 0 = s := rdo (s :: t) 0 (by simp)
    have e1 : wrap64 (0 + 1) = ((1 : Nat) : Int) := wrapS (i := 0) (by omega)
    have e2 : (⟨#[]⟩ : ByteArray) ++ s = ⟨s.data.toList.toArray⟩ := app_ba [] s
    have e3 : (⟨#[]⟩ : ByteArray).size = 0 := rfl
    simp only [jobshellref18_Join.l0]
    rw [if_pos (by simp), if_neg (by omega), if_pos (by omega), r0, if_pos (by rw [e3]; omega), e1, e2]
end Go.Proofs.Ytbkhdgfehgfjpaa.PAll
