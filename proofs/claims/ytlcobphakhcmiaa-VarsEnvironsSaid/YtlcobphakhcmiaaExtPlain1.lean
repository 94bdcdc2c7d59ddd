/- Plain lemmas: the order of names, lists that are ascending by it, insertion. No program in sight. -/
import Derived.Test.YtlcobphakhcmiaaExtName
import Derived.Test.YtlcobphakhcmiaaExtwhere
import Derived.Test.YtlcobphakhcmiaaExtCut
namespace Go.Proofs.Ytlcobphakhcmiaa.PAll
open Go.RowKit Go.Proofs.YtlcobphakhcmiaaW.PrintWords Go.Proofs.YtlcobphakhcmiaaW.PrintLast
set_option linter.unusedVariables false
set_option linter.unusedSimpArgs false

theorem less_irr : ∀ a : List UInt8, Op.bytesLess a a = false
  | [] => rfl
  | a :: x => by
    have h : ¬ a < a := fun hh => by have := UInt8.lt_iff_toNat_lt.1 hh; omega
    simp [Op.bytesLess, h, less_irr x]
theorem less_trans : ∀ a b c : List UInt8, Op.bytesLess a b = true → Op.bytesLess b c = true → Op.bytesLess a c = true
  | [], [], _, h, _ => by simp [Op.bytesLess] at h
  | [], _ :: _, [], _, h => by simp [Op.bytesLess] at h
  | [], _ :: _, _ :: _, _, _ => by simp [Op.bytesLess]
  | _ :: _, [], _, h, _ => by simp [Op.bytesLess] at h
  | _ :: _, _ :: _, [], _, h => by simp [Op.bytesLess] at h
  | a :: x, b :: y, c :: z, h, k => by
    simp only [Op.bytesLess, Bool.or_eq_true, Bool.and_eq_true, decide_eq_true_eq, beq_iff_eq] at h k ⊢
    rcases h with h | ⟨rfl, h⟩
    · rcases k with k | ⟨rfl, k⟩
      · exact Or.inl (UInt8.lt_iff_toNat_lt.2 (by have := UInt8.lt_iff_toNat_lt.1 h; have := UInt8.lt_iff_toNat_lt.1 k; omega))
      · exact Or.inl h
    · rcases k with k | ⟨rfl, k⟩
      · exact Or.inl k
      · exact Or.inr ⟨rfl, less_trans x y z h k⟩
theorem less_asymm {a b : List UInt8} (h : Op.bytesLess a b = true) : Op.bytesLess b a = false := by
  cases hb : Op.bytesLess b a with
  | false => rfl
  | true => have := less_trans _ _ _ h hb; rw [less_irr] at this; cases this
theorem less_ne {a b : List UInt8} (h : Op.bytesLess a b = true) : a ≠ b := by
  rintro rfl
  rw [less_irr] at h
  cases h
/-- Neither less nor the same: greater. -/
theorem less_or {a b : List UInt8} (h : Op.bytesLess a b = false) (hne : a ≠ b) : Op.bytesLess b a = true := by
  have := bytesLess_tri a b
  have h2 : (a == b) = false := beq_eq_false_iff_ne.2 hne
  rw [h, h2] at this
  simpa using this.symm

theorem tl_inj {a b : ByteArray} (h : a.toList = b.toList) : a = b := by
  rw [Go.ByteArray.toList_eq, Go.ByteArray.toList_eq] at h
  cases a; cases b
  congr
  exact Array.toList_inj.1 h
theorem tl_nil {a : ByteArray} : a.toList = [] ↔ a.size = 0 := by
  rw [Go.ByteArray.toList_eq]
  show a.data.toList = [] ↔ a.data.size = 0
  rw [← Array.length_toList]
  exact List.length_eq_zero_iff.symm
theorem tl_len (a : ByteArray) : a.toList.length = a.size := by rw [Go.ByteArray.toList_eq]; rfl

abbrev lt (a b : ByteArray) : Bool := Op.bytesLess a.toList b.toList
/-- Ascending by names. -/
def Asc (l : List S26) : Prop := l.Pairwise (fun a b => lt a.f0 b.f0 = true)
theorem Asc.cons {a : S26} {l : List S26} (h : Asc (a :: l)) : (∀ b ∈ l, lt a.f0 b.f0 = true) ∧ Asc l := List.pairwise_cons.1 h

/-- What stands before a name. -/
def bef (n : ByteArray) (l : List S26) : List S26 := l.takeWhile fun v => lt v.f0 n
/-- What stands behind: the name itself left out. -/
def aft (n : ByteArray) (l : List S26) : List S26 := (l.dropWhile fun v => lt v.f0 n).filter fun v => v.f0.toList != n.toList
/-- The variable of that name. -/
def at' (n : ByteArray) (l : List S26) : Option S26 := l.find? fun v => v.f0.toList == n.toList
def putF (l : List S26) (v : S26) : List S26 := bef v.f0 l ++ v :: aft v.f0 l

theorem all_gt {n : ByteArray} {l : List S26} (h : ∀ b ∈ l, lt n b.f0 = true) : bef n l = [] ∧ aft n l = l ∧ at' n l = none := by
  refine ⟨?_, ?_, ?_⟩
  · cases l with
    | nil => rfl
    | cons b t => simp [bef, less_asymm (h b (by simp))]
  · have e : (l.dropWhile fun v => lt v.f0 n) = l := by
      cases l with
      | nil => rfl
      | cons b t => simp [less_asymm (h b (by simp))]
    rw [aft, e]
    refine List.filter_eq_self.2 fun b hb => ?_
    have := less_ne (h b hb)
    simpa [bne_iff_ne] using fun hh => this hh.symm
  · refine List.find?_eq_none.2 fun b hb => ?_
    have := less_ne (h b hb)
    simpa using fun hh => this hh.symm
/-- An ascending list at a name: what stands before, the variable, what stands behind. -/
theorem asc_parts {n : ByteArray} : ∀ {l : List S26}, Asc l → l = bef n l ++ (at' n l).toList ++ aft n l ∧ whereFrom n l 0 = (((bef n l).length : Int), (at' n l).isSome) ∧ (∀ v, at' n l = some v → v.f0 = n) ∧ (∀ b ∈ bef n l, lt b.f0 n = true) ∧ (∀ b ∈ aft n l, lt n b.f0 = true) := by
  have shift : ∀ (l : List S26) (i : Int), whereFrom n l i = (i + (whereFrom n l 0).1, (whereFrom n l 0).2) := by
    intro l
    induction l with
    | nil => intro i; simp [whereFrom]
    | cons v t ih =>
      intro i
      simp only [whereFrom]
      split
      · simp
      · split
        · rw [ih (i + 1), ih (0 + 1)]
          simp only [Prod.mk.injEq, and_true]
          omega
        · simp
  intro l
  induction l with
  | nil => intro _; exact ⟨rfl, rfl, by simp [at'], by simp [bef], by simp [aft]⟩
  | cons v t ih =>
    intro h
    obtain ⟨hv, ht⟩ := h.cons
    by_cases heq : v.f0.toList = n.toList
    · have hn := tl_inj heq
      subst hn
      obtain ⟨h1, h2, h3⟩ := all_gt hv
      have e1 : bef v.f0 (v :: t) = [] := by simp [bef, less_irr]
      have e2 : at' v.f0 (v :: t) = some v := by simp [at']
      have e3 : aft v.f0 (v :: t) = t := by
        have : aft v.f0 (v :: t) = aft v.f0 t := by
          cases t with
          | nil => simp [aft, less_irr]
          | cons b u => simp [aft, less_irr, less_asymm (hv b (by simp))]
        rw [this, h2]
      rw [e1, e2, e3]
      refine ⟨rfl, ?_, fun w hw => by cases hw; rfl, by simp, fun b hb => hv b hb⟩
      simp [whereFrom]
    · by_cases hlt : lt v.f0 n = true
      · obtain ⟨i1, i2, i3, i4, i5⟩ := ih ht
        have e1 : bef n (v :: t) = v :: bef n t := by simp [bef, hlt]
        have e2 : at' n (v :: t) = at' n t := by simp [at', heq]
        have e3 : aft n (v :: t) = aft n t := by simp [aft, hlt]
        rw [e1, e2, e3]
        refine ⟨by simpa using i1, ?_, i3, fun b hb => ?_, i5⟩
        · simp only [whereFrom]
          rw [if_neg (by simpa using heq), if_pos hlt, shift, i2]
          simp
          omega
        · rcases List.mem_cons.1 hb with rfl | hb
          · exact hlt
          · exact i4 b hb
      · have hlt' : lt v.f0 n = false := by simpa using hlt
        have hgt : lt n v.f0 = true := less_or hlt' heq
        have hall : ∀ b ∈ v :: t, lt n b.f0 = true := by
          intro b hb
          rcases List.mem_cons.1 hb with rfl | hb
          · exact hgt
          · exact less_trans _ _ _ hgt (hv b hb)
        obtain ⟨h1, h2, h3⟩ := all_gt hall
        rw [h1, h2, h3]
        refine ⟨rfl, ?_, by simp, by simp, hall⟩
        simp only [whereFrom]
        rw [if_neg (by simpa using heq), if_neg (by simpa using hlt)]
        simp
/-- .. a variable with that name put in: ascending still. -/
theorem asc_put {v : S26} {l : List S26} (h : Asc l) : Asc (putF l v) := by
  obtain ⟨e, _, _, hb, ha⟩ := asc_parts (n := v.f0) h
  have hs : Asc (bef v.f0 l) := List.Pairwise.sublist (List.takeWhile_sublist _) h
  have hs2 : Asc (aft v.f0 l) := List.Pairwise.sublist ((List.filter_sublist).trans (List.dropWhile_sublist _)) h
  unfold putF
  refine List.pairwise_append.2 ⟨hs, List.pairwise_cons.2 ⟨ha, hs2⟩, fun a ha1 b hb1 => ?_⟩
  rcases List.mem_cons.1 hb1 with rfl | hb1
  · exact hb a ha1
  · exact less_trans _ _ _ (hb a ha1) (ha b hb1)
end Go.Proofs.Ytlcobphakhcmiaa.PAll
