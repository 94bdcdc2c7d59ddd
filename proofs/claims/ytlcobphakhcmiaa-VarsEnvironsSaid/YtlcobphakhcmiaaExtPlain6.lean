/- Validity, the current variable of a name, and what putting a variable in keeps. -/
import Derived.Test.YtlcobphakhcmiaaPAllx0
import Derived.Test.YtlcobphakhcmiaaExtPlain5
namespace Go.Proofs.Ytlcobphakhcmiaa.PAll
open Go.RowKit Go.Proofs.YtlcobphakhcmiaaW.PrintWords Go.Proofs.YtlcobphakhcmiaaW.PrintLast
set_option linter.unusedVariables false
set_option linter.unusedSimpArgs false

def okV (v : S26) : Prop := nameB v.f0 = true ∧ ¬ (v.f1.size : Int) > 4096 ∧ (v.f2 = true ∨ v.f1.toList = [])
theorem valFrom_zero : ∀ (l : List S26) (p : Option ByteArray), valFrom p l = 0 ↔ (∀ v ∈ l, okV v) ∧ Asc l ∧ ∀ v ∈ l, okPrev p v = true := by
  intro l
  induction l with
  | nil => intro p; simp [valFrom, Asc]
  | cons v t ih =>
    intro p
    simp only [valFrom]
    constructor
    · intro h
      split at h
      case isFalse => cases h
      rename_i h1
      split at h
      case isTrue => cases h
      rename_i h2
      split at h
      case isFalse => cases h
      rename_i h3
      split at h
      case isFalse => cases h
      rename_i h4
      obtain ⟨i1, i2, i3⟩ := (ih _).1 h
      refine ⟨fun w hw => ?_, List.pairwise_cons.2 ⟨fun b hb => i3 b hb, i2⟩, fun w hw => ?_⟩
      · rcases List.mem_cons.1 hw with rfl | hw
        · exact ⟨h1, h2, h3⟩
        · exact i1 w hw
      · rcases List.mem_cons.1 hw with rfl | hw
        · exact h4
        · cases p with
          | none => rfl
          | some p => exact less_trans _ _ _ h4 (i3 w hw)
    · rintro ⟨h1, h2, h3⟩
      obtain ⟨a1, a2, a3⟩ := h1 v (by simp)
      obtain ⟨b1, b2⟩ := Asc.cons h2
      rw [if_pos a1, if_neg a2, if_pos a3, if_pos (h3 v (by simp))]
      exact (ih _).2 ⟨fun w hw => h1 w (by simp [hw]), b2, fun w hw => b1 w hw⟩
theorem valF_zero (l : List S26) : valF l = 0 ↔ l.length ≤ 128 ∧ (∀ v ∈ l, okV v) ∧ Asc l := by
  unfold valF
  constructor
  · intro h
    split at h
    case isTrue => cases h
    rename_i h1
    obtain ⟨h2, h3, _⟩ := (valFrom_zero l none).1 h
    exact ⟨by omega, h2, h3⟩
  · rintro ⟨h1, h2, h3⟩
    rw [if_neg (by omega)]
    exact (valFrom_zero l none).2 ⟨h2, h3, fun _ _ => rfl⟩

/-- The variable of a name, or a new one. -/
def cur (l : List S26) (n : ByteArray) : S26 := (at' n l).getD ⟨n, ⟨#[]⟩, false, false, false⟩
theorem getT_parts (l : List S26) (n : ByteArray) : (getT l n).2.1 = (cur l n).f1 ∧ (getT l n).2.2.1 = (cur l n).f2 ∧ (getT l n).2.2.2.1 = (cur l n).f3 ∧ (getT l n).2.2.2.2.1 = (cur l n).f4 ∧ (getT l n).2.2.2.2.2 = (at' n l).isSome := by
  unfold getT cur
  cases at' n l <;> exact ⟨rfl, rfl, rfl, rfl, rfl⟩
theorem where_eq (l : List S26) (n : ByteArray) (hm : l.length ≤ 1000) : vars_where.f l n = some (whereFrom n l 0) := by
  unfold vars_where.f
  rw [if_pos (by omega)]
theorem cur_of {l : List S26} {n : ByteArray} {x : S26} (h : at' n l = some x) : cur l n = x := by rw [cur, h]; rfl
theorem at_name {l : List S26} {n : ByteArray} {x : S26} (h : at' n l = some x) : x.f0 = n := tl_inj (by simpa using List.find?_some h)
/-! ### validity is kept -/
theorem put_mem {l : List S26} {v x : S26} (h : x ∈ putF l v) : x = v ∨ x ∈ l := by
  unfold putF at h
  rcases List.mem_append.1 h with h | h
  · exact .inr ((List.takeWhile_sublist _).subset h)
  · rcases List.mem_cons.1 h with h | h
    · exact .inl h
    · exact .inr ((List.dropWhile_sublist _).subset (List.mem_filter.1 h).1)
theorem put_len {l : List S26} (ha : Asc l) (v : S26) : (putF l v).length + (if (at' v.f0 l).isSome = true then 1 else 0) = l.length + 1 := by
  obtain ⟨e, _⟩ := asc_parts (n := v.f0) ha
  have := congrArg List.length e
  rw [List.length_append, List.length_append] at this
  unfold putF
  rw [List.length_append, List.length_cons]
  cases ho : at' v.f0 l with
  | some x => rw [ho] at this; simp at this ⊢; omega
  | none => rw [ho] at this; simp at this ⊢; omega
theorem put_valid {l : List S26} {v : S26} (h : valF l = 0) (hv : okV v) (hr : (at' v.f0 l).isSome = true ∨ ¬ (l.length : Int) ≥ 128) : valF (putF l v) = 0 := by
  obtain ⟨h1, h2, h3⟩ := (valF_zero l).1 h
  have hl := put_len h3 v
  refine (valF_zero _).2 ⟨?_, fun x hx => ?_, asc_put h3⟩
  · rcases hr with hr | hr
    · rw [if_pos hr] at hl; omega
    · split at hl <;> omega
  · rcases put_mem hx with rfl | hx
    · exact hv
    · exact h2 x hx
end Go.Proofs.Ytlcobphakhcmiaa.PAll
