/- What the printed functions answer, told by plain functions on lists. -/
import Derived.Test.YtlcobphakhcmiaaPAllx0
import Derived.Test.YtlcobphakhcmiaaPAllx2
import Derived.Test.YtlcobphakhcmiaaExtPlain1
namespace Go.Proofs.Ytlcobphakhcmiaa.PAll
open Go.RowKit Go.Proofs.YtlcobphakhcmiaaW.PrintWords Go.Proofs.YtlcobphakhcmiaaW.PrintLast
set_option linter.unusedVariables false
set_option linter.unusedSimpArgs false

theorem wrapS {i : Nat} (h : i < 9223372036854775807) : wrap64 ((i : Int) + 1) = ((i + 1 : Nat) : Int) := by unfold wrap64; omega
theorem wrapP {i : Nat} (h0 : 0 < i) (h : i < 9223372036854775807) : wrap64 ((i : Int) - 1) = ((i - 1 : Nat) : Int) := by unfold wrap64; omega
theorem rdn (l : List S26) (i : Nat) (h : i < l.length) : rd_T26 l (i : Int) = l[i] := by
  unfold rd_T26
  rw [Int.toNat_natCast, List.getD_eq_getElem?_getD, List.getElem?_eq_getElem h]
  rfl
theorem rdo (l : List ByteArray) (i : Nat) (h : i < l.length) : rdOf ByteArray.empty l (i : Int) = l[i] := by
  unfold rdOf
  rw [Int.toNat_natCast, List.getD_eq_getElem?_getD, List.getElem?_eq_getElem h]
  rfl
theorem dropc {α : Type} (l : List α) (i : Nat) (h : i < l.length) : l.drop i = l[i] :: l.drop (i + 1) := List.drop_eq_getElem_cons h
theorem ilt {i n : Nat} (h : i < n) : (i : Int) < (n : Int) := by omega
theorem ige (i : Nat) : (0 : Int) ≤ (i : Int) := by omega

/-! ### Name -/
def wordB (c : Int) : Bool := letB c || digB c || c == 95
theorem digit_eq (c : Int) : jobshellref01_Digit.f c = some (digB c) := by
  unfold jobshellref01_Digit.f digB
  by_cases h : c ≥ 48
  · rw [if_pos h]
    congr 1
    exact decide_eq_decide.2 ⟨fun k => ⟨h, k⟩, fun k => k.2⟩
  · rw [if_neg h]
    congr 1
    exact (decide_eq_false (fun k => h k.1)).symm
theorem letter_eq (c : Int) : jobshellref01_Letter.f c = some (letB c) := by
  unfold jobshellref01_Letter.f letB
  repeat' split
  all_goals congr 1
  all_goals first | exact (decide_eq_true (by omega)).symm | exact (decide_eq_false (by omega)).symm | exact decide_eq_decide.2 (by omega)
theorem word_eq (c : Int) : jobshellref01_Word.f c = some (wordB c) := by
  unfold jobshellref01_Word.f
  rw [letter_eq, digit_eq]
  simp only [Option.bind_some]
  unfold wordB
  cases letB c <;> cases digB c <;> simp
def wordFrom (s : ByteArray) : Nat → Nat → Bool
  | 0, _ => true
  | n + 1, i => wordB (bt s i) && wordFrom s n (i + 1)
theorem nm_word (s : ByteArray) : ∀ n i, 0 < i → nmFrom s n i = wordFrom s n i
  | 0, i, h => rfl
  | n + 1, i, h => by
    have h2 : (i != 0) = true := bne_iff_ne.2 (by omega)
    simp only [nmFrom, wordFrom, nm_word s n (i + 1) (by omega), nmOk, h2, wordB]
    cases letB (bt s i) <;> cases digB (bt s i) <;> cases (bt s i == 95) <;> rfl
theorem let_dig {c : Int} (h : letB c = true) : digB c = false := by
  have := of_decide_eq_true h
  exact decide_eq_false (by omega)
theorem ev_rName_l0 (s : ByteArray) (hm : s.size < 9223372036854775807) : ∀ d i : Nat, s.size - i = d → i ≤ s.size → Ev (fun k => jobshellref01_Name.l0 k s i) (wordFrom s d i) := by
  intro d
  induction d with
  | zero =>
    intro i h1 h2
    refine Ev.step (fun k => ?_) (Ev.now _)
    simp only [jobshellref01_Name.l0]
    rw [if_neg (by omega)]
    rfl
  | succ d ih =>
    intro i h1 h2
    cases hw : wordB (bt s i) with
    | true =>
      refine Ev.step (fun k => ?_) (show Ev (fun k => jobshellref01_Name.l0 k s ((i + 1 : Nat) : Int)) _ from ?_)
      · simp only [jobshellref01_Name.l0]
        rw [if_pos (by omega), if_pos (ige i), word_eq, hw, wrapS (by omega)]
        rfl
      · simp only [wordFrom, hw, Bool.true_and]
        exact ih (i + 1) (by omega) (by omega)
    | false =>
      refine Ev.step (fun k => ?_) (Ev.now _)
      simp only [jobshellref01_Name.l0, wordFrom]
      rw [if_pos (by omega), if_pos (ige i), word_eq, hw]
      rfl
theorem ev_rName (s : ByteArray) : Ev (fun k => jobshellref01_Name.f k s) (nameB s) := by
  have stop : Ev (fun k => jobshellref01_Name.j0 k s true) false := Ev.step (fun k => by simp only [jobshellref01_Name.j0]; rfl) (Ev.now _)
  unfold jobshellref01_Name.f
  by_cases h0 : s.toList = []
  · simp only [if_pos h0]
    have : nameB s = false := by have := tl_nil.1 h0; simp [nameB, this]
    rw [this]
    exact stop
  · have hs : 0 < s.size := Nat.pos_of_ne_zero (fun h => h0 (tl_nil.2 h))
    simp only [if_neg h0]
    by_cases h1 : (s.size : Int) > 32
    · simp only [if_pos h1]
      have : nameB s = false := by simp [nameB]; omega
      rw [this]
      exact stop
    · simp only [if_neg h1]
      simp only [if_pos (show (0 : Int) < (s.size : Int) by omega), digit_eq, Option.bind_some]
      have e : nameB s = nmFrom s s.size 0 := by simp [nameB, hs]; omega
      obtain ⟨n, hn⟩ : ∃ n, s.size = n + 1 := ⟨s.size - 1, by omega⟩
      rw [e, hn]
      cases hd : digB (bt s 0) with
      | true =>
        have hl : letB (bt s 0) = false := by
          cases hl : letB (bt s 0) with
          | false => rfl
          | true => rw [let_dig hl] at hd; cases hd
        have h9 : (bt s 0 == 95) = false := by
          have := of_decide_eq_true hd
          exact beq_eq_false_iff_ne.2 (by omega)
        have : nmFrom s (n + 1) 0 = false := by
          have : bt s ((0 : Nat) : Int) = bt s 0 := rfl
          simp [nmFrom, nmOk, hl, h9]
        rw [this]
        exact stop
      | false =>
        refine Ev.step (fun k => ?_) (show Ev (fun k => jobshellref01_Name.l0 k s ((0 : Nat) : Int)) _ from ?_)
        · simp only [jobshellref01_Name.j0]
          rw [if_neg (by simp)]
          rfl
        · have := ev_rName_l0 s (by omega) s.size 0 (by omega) (by omega)
          rw [hn] at this
          have e2 : wordFrom s (n + 1) 0 = nmFrom s (n + 1) 0 := by
            have hd' : digB (bt s ((0 : Nat) : Int)) = false := hd
            simp only [wordFrom, nmFrom, nm_word s n 1 (by omega), nmOk, wordB, hd']
            cases letB (bt s ((0 : Nat) : Int)) <;> cases (bt s ((0 : Nat) : Int) == 95) <;> rfl
          rw [← e2]
          exact this
/-! ### Get -/
def getT (l : List S26) (n : ByteArray) : ByteArray × ByteArray × Bool × Bool × Bool × Bool :=
  match at' n l with
  | some v => (v.f0, v.f1, v.f2, v.f3, v.f4, true)
  | none => (⟨#[]⟩, ⟨#[]⟩, false, false, false, false)
theorem getT_cons (v : S26) (t : List S26) (n : ByteArray) : getT (v :: t) n = if v.f0.toList = n.toList then (v.f0, v.f1, v.f2, v.f3, v.f4, true) else getT t n := by
  unfold getT at'
  by_cases h : v.f0.toList = n.toList
  · rw [if_pos h, List.find?_cons_of_pos (by simpa using h)]
  · rw [if_neg h, List.find?_cons_of_neg (by simpa using h)]
theorem ev_rGet_l0 (l : List S26) (n : ByteArray) (hm : l.length ≤ 9223372036854775807) : ∀ d i : Nat, l.length - i = d → i ≤ l.length → Ev (fun k => jobshellref15_Get.l0 k l n i) (getT (l.drop i) n) := by
  intro d
  induction d with
  | zero =>
    intro i h1 h2
    refine Ev.step (fun k => ?_) (Ev.now _)
    simp only [jobshellref15_Get.l0]
    rw [if_neg (by omega), List.drop_of_length_le (by omega)]
    rfl
  | succ d ih =>
    intro i h1 h2
    have hi : i < l.length := by omega
    rw [dropc l i hi, getT_cons]
    by_cases h : l[i].f0.toList = n.toList
    · refine Ev.step (fun k => ?_) (Ev.now _)
      simp only [jobshellref15_Get.l0]
      rw [if_pos (ilt hi), if_pos (ige i), rdn l i hi, if_pos h, if_pos h]
    · refine Ev.step (fun k => ?_) (show Ev (fun k => jobshellref15_Get.l0 k l n ((i + 1 : Nat) : Int)) _ from ?_)
      · simp only [jobshellref15_Get.l0]
        rw [if_pos (ilt hi), if_pos (ige i), rdn l i hi, if_neg h, wrapS (by omega)]
      · rw [if_neg h]
        exact ih (i + 1) (by omega) (by omega)
theorem ev_rGet (l : List S26) (n : ByteArray) (hm : l.length ≤ 9223372036854775807) : Ev (fun k => jobshellref15_Get.f k l n) (getT l n) := ev_rGet_l0 l n hm l.length 0 (by omega) (by omega)
theorem ev_Get_l0 (l : List S26) (n : ByteArray) (hm : l.length ≤ 9223372036854775807) : ∀ d i : Nat, l.length - i = d → i ≤ l.length → Ev (fun k => vars_Get.l0 k n l (l.length : Int) i) (getT (l.drop i) n) := by
  intro d
  induction d with
  | zero =>
    intro i h1 h2
    refine Ev.step (fun k => ?_) (Ev.now _)
    simp only [vars_Get.l0]
    rw [if_neg (by omega), List.drop_of_length_le (by omega)]
    rfl
  | succ d ih =>
    intro i h1 h2
    have hi : i < l.length := by omega
    rw [dropc l i hi, getT_cons]
    by_cases h : l[i].f0.toList = n.toList
    · refine Ev.step (fun k => ?_) (Ev.now _)
      simp only [vars_Get.l0]
      rw [if_pos (ilt hi), if_pos (ige i), if_pos (ilt hi), rdn l i hi, if_pos h, if_pos h]
    · refine Ev.step (fun k => ?_) (show Ev (fun k => vars_Get.l0 k n l (l.length : Int) ((i + 1 : Nat) : Int)) _ from ?_)
      · simp only [vars_Get.l0]
        rw [if_pos (ilt hi), if_pos (ige i), if_pos (ilt hi), rdn l i hi, if_neg h, wrapS (by omega)]
      · rw [if_neg h]
        exact ih (i + 1) (by omega) (by omega)
theorem ev_Get (l : List S26) (n : ByteArray) (hm : l.length ≤ 9223372036854775807) : Ev (fun k => vars_Get.f k l n) (getT l n) := ev_Get_l0 l n hm l.length 0 (by omega) (by omega)
end Go.Proofs.Ytlcobphakhcmiaa.PAll
