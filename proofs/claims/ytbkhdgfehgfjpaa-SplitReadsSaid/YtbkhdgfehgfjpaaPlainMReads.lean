/- Plain lemmas of this claim, out of the session's texts. -/
import Derived.Test.YtbkhdgfehgfjpaaExtText
import Derived.Test.YtbkhdgfehgfjpaaExtJoin
import Derived.Test.YtbkhdgfehgfjpaaPAllx0
import Derived.Test.YtbkhdgfehgfjpaaPAllx10
import Derived.KernelRfl
import Derived.Test.YtbkhdgfehgfjpaaPAllx2
import Derived.Test.YtbkhdgfehgfjpaaExtOpen
import Derived.Test.YtbkhdgfehgfjpaaPAllx5
import Derived.Test.YtbkhdgfehgfjpaaPAllx13
import Derived.Test.YtbkhdgfehgfjpaaPAllx14
import Derived.Test.YtbkhdgfehgfjpaaPAllx11
import Derived.Test.YtbkhdgfehgfjpaaPAllx12
import Derived.Test.YtbkhdgfehgfjpaaPAllx3
import Derived.Test.YtbkhdgfehgfjpaaPAllx4
import Derived.Test.YtbkhdgfehgfjpaaPAllx8
import Derived.Test.YtbkhdgfehgfjpaaPAllx19
import Derived.Test.YtbkhdgfehgfjpaaPAllx20
namespace Go.Proofs.Ytbkhdgfehgfjpaa.PAll
section
open Go.RowKit Go.Proofs.YtbkhdgfehgfjpaaW.PrintWords Go.Proofs.YtbkhdgfehgfjpaaW.PrintLast
set_option linter.unusedVariables false
set_option linter.unusedSimpArgs false
theorem wrapS {i : Nat} (h : i < 9223372036854775807) : wrap64 ((i : Int) + 1) = ((i + 1 : Nat) : Int) := by unfold wrap64; omega
theorem wrapA {i j : Nat} (h : i + j ≤ 9223372036854775807) : wrap64 ((i : Int) + (j : Int)) = ((i + j : Nat) : Int) := by unfold wrap64; omega
theorem ilt {i n : Nat} (h : i < n) : (i : Int) < (n : Int) := by omega
theorem ige (i : Nat) : (0 : Int) ≤ (i : Int) := by omega
theorem dropc {α : Type} (l : List α) (i : Nat) (h : i < l.length) : l.drop i = l[i] :: l.drop (i + 1) := List.drop_eq_getElem_cons h
theorem rd38 (l : List S38) (i : Nat) (h : i < l.length) : rd_T38 l (i : Int) = l[i] := by
  unfold rd_T38
  rw [Int.toNat_natCast, List.getD_eq_getElem?_getD, List.getElem?_eq_getElem h]
  rfl
theorem dl_len (a : ByteArray) : a.data.toList.length = a.size := by rw [Array.length_toList]; rfl
theorem ba_ext {a b : ByteArray} (h : a.data.toList = b.data.toList) : a = b := by
  cases a; cases b
  congr
  exact Array.toList_inj.1 h
/-- The bytes of the texts together. -/
def tot (l : List S38) : Nat := (catL (l.map (·.f0))).length
theorem tot_cons (x : S38) (l : List S38) : tot (x :: l) = x.f0.size + tot l := by
  unfold tot
  rw [List.map_cons, catL, List.length_append, dl_len]
theorem catL_app (a b : List ByteArray) : catL (a ++ b) = catL a ++ catL b := by
  induction a with
  | nil => rfl
  | cons x t ih => rw [List.cons_append, catL, catL, ih, List.append_assoc]
end
section
open Go.RowKit Go.Proofs.YtbkhdgfehgfjpaaW.PrintWords Go.Proofs.YtbkhdgfehgfjpaaW.PrintLast
theorem awake_at : jobshelllaw18_awake.f 40 = some true := by kernel_rfl
theorem ev_awake : Ev (fun k => (jobshelllaw18_awake.f k).bind fun t => some t) true := Ev.bind (Ev.of jobshelllaw18_awake.mono awake_at) (Ev.now _)
end
section
open Go.RowKit Go.Proofs.YtbkhdgfehgfjpaaW.PrintWords Go.Proofs.YtbkhdgfehgfjpaaW.PrintLast
set_option linter.unusedVariables false
set_option linter.unusedSimpArgs false
theorem ev_Small_l0 (l : List S38) (hg : ∀ x ∈ l, good38 x) (hm : l.length ≤ 9223372036854775807) : ∀ (d i n : Nat), l.length - i = d → i ≤ l.length → n + tot (l.drop i) = tot l → n ≤ 140737488351312 →
    ∃ b, Ev (fun k => jobshellref04_Small.l0 k l 12 80 (n : Int) (i : Int)) b ∧ (b = true → l.length ≤ 12 ∧ tot l ≤ 80) := by
  intro d
  induction d with
  | zero =>
    intro i n h1 h2 h3 h4
    have hi : i = l.length := by omega
    have ht : tot l = n := by
      rw [hi, List.drop_length] at h3
      have : tot ([] : List S38) = 0 := rfl
      omega
    by_cases h : (l.length : Int) ≤ 12
    · refine ⟨decide ((n : Int) ≤ 80), Ev.step (f := fun _ => some (decide ((n : Int) ≤ 80))) (fun k => ?_) (Ev.now _), fun hb => ⟨by omega, by have := of_decide_eq_true hb; omega⟩⟩
      simp only [jobshellref04_Small.l0]
      rw [if_neg (by omega), if_pos h]
    · refine ⟨false, Ev.step (f := fun _ => some false) (fun k => ?_) (Ev.now _), fun hb => by cases hb⟩
      simp only [jobshellref04_Small.l0]
      rw [if_neg (by omega), if_neg h]
  | succ d ih =>
    intro i n h1 h2 h3 h4
    have hi : i < l.length := by omega
    have hs : l[i].f0.size ≤ 140737488351232 := hg _ (List.getElem_mem hi)
    by_cases h12 : (i : Int) ≤ 12
    · by_cases h80 : (n : Int) ≤ 80
      · obtain ⟨b, hb, hb2⟩ := ih (i + 1) (n + l[i].f0.size) (by omega) (by omega) (by rw [dropc l i hi, tot_cons] at h3; omega) (by omega)
        refine ⟨b, Ev.step (fun k => ?_) hb, hb2⟩
        simp only [jobshellref04_Small.l0]
        rw [if_pos (ilt hi), if_pos h12, if_pos h80, if_pos (ige i), rd38 l i hi, wrapS (by omega), wrapA (by omega)]
      · refine ⟨false, Ev.step (f := fun _ => some false) (fun k => ?_) (Ev.now _), fun hb => by cases hb⟩
        simp only [jobshellref04_Small.l0]
        rw [if_pos (ilt hi), if_pos h12, if_neg h80]
        by_cases h : (l.length : Int) ≤ 12
        · rw [if_pos h, decide_eq_false h80]
        · rw [if_neg h]
    · refine ⟨false, Ev.step (f := fun _ => some false) (fun k => ?_) (Ev.now _), fun hb => by cases hb⟩
      simp only [jobshellref04_Small.l0]
      rw [if_pos (ilt hi), if_neg h12, if_neg (by omega)]
theorem ev_small (l : List S38) (hm : l.length ≤ 9223372036854775807) (hg : ∀ x ∈ l, good38 x) : ∃ b, Ev (fun k => jobshelllaw18_small.f k l) b ∧ (b = true → l.length ≤ 12 ∧ tot l ≤ 80) := by
  obtain ⟨b, hb, h2⟩ := ev_Small_l0 l hg hm l.length 0 0 (by omega) (by omega) (by simp) (by omega)
  exact ⟨b, Ev.bind (show Ev (fun k => jobshellref04_Small.f k l 12 80) b from hb) (Ev.now _), h2⟩
theorem size_mk (l : List UInt8) : (⟨l.toArray⟩ : ByteArray).size = l.length := by
  show l.toArray.size = _
  simp
theorem app_ba (a : List UInt8) (b : ByteArray) : (⟨a.toArray⟩ : ByteArray) ++ b = ⟨(a ++ b.data.toList).toArray⟩ := by
  apply ba_ext
  rw [ByteArray.data_append]
  simp
end
section
open Go.RowKit Go.Proofs.YtbkhdgfehgfjpaaW.PrintWords Go.Proofs.YtbkhdgfehgfjpaaW.PrintLast
set_option linter.unusedVariables false
set_option linter.unusedSimpArgs false
theorem index_mem : ∀ (l : List UInt8) (c : UInt8), (0 ≤ Lib.indexByte l c) ↔ c ∈ l
  | [], c => by simp [Lib.indexByte]
  | b :: l, c => by
    have ih := index_mem l c
    have hge := Lib.indexByte_ge l c
    unfold Lib.indexByte
    by_cases h : (b == c) = true
    · rw [if_pos h]
      have : b = c := by simpa using h
      simp [this]
    · rw [if_neg h]
      have hne : ¬ c = b := fun e => h (by simp [e])
      by_cases h2 : (Lib.indexByte l c == -1) = true
      · rw [if_pos h2]
        have e : Lib.indexByte l c = -1 := by simpa using h2
        have : ¬ c ∈ l := fun hc => by have := ih.2 hc; omega
        simp [hne, this]
      · rw [if_neg h2]
        have e : ¬ Lib.indexByte l c = -1 := by simpa using h2
        have h0 : 0 ≤ Lib.indexByte l c := by omega
        have := ih.1 h0
        simp [this]
        omega
/-- The role of a byte that is divided at. -/
def kd (ifs : ByteArray) (c : UInt8) : Int := if c ∈ ifs.data.toList then (if c = 32 ∨ c = 9 ∨ c = 10 then 1 else 2) else 0
def rl (ifs : ByteArray) (e : S66) : Int := if e.f1 = 3 then 3 else if e.f1 = 2 then (match e.f0 with | ⟨⟨[c]⟩⟩ => kd ifs c | _ => 0) else 0
/-- An element as the walk makes them. -/
def okE (e : S66) : Prop := e.f1 = 2 → ∃ c, e.f0 = ⟨#[c]⟩
theorem one_eq (c d : UInt8) : (⟨#[c]⟩ : ByteArray).toList = ([d] : List UInt8) ↔ c = d := by
  rw [Go.ByteArray.toList_eq]
  simp
theorem ev_role (ifs : ByteArray) (e : S66) (h : okE e) : Ev (fun k => split_role.f k e.f0 e.f1 ifs) (rl ifs e) := by
  unfold split_role.f rl
  by_cases h3 : e.f1 = 3
  · simp only [if_pos h3]
    exact Ev.now _
  · by_cases h2 : e.f1 = 2
    · obtain ⟨c, hc⟩ := h h2
      simp only [if_neg h3, if_pos h2, hc]
      have hcon : strings_Contains.f ifs ⟨#[c]⟩ = some (decide (c ∈ ifs.data.toList)) := by
        show some (decide (0 ≤ Lib.indexByte ifs.data.toList c)) = _
        congr 1
        exact decide_eq_decide.2 (index_mem _ _)
      simp only [hcon, Option.bind_some]
      show Ev _ (kd ifs c)
      unfold kd
      by_cases hm : c ∈ ifs.data.toList
      · rw [if_pos hm, decide_eq_true hm]
        refine Ev.step (f := fun _ => some (if c = 32 ∨ c = 9 ∨ c = 10 then (1 : Int) else 2)) (fun k => ?_) (Ev.now _)
        simp only [split_role.j0]
        rw [if_neg (by simp)]
        by_cases a1 : c = 32
        · rw [if_pos ((one_eq c 32).2 a1), if_pos (Or.inl a1)]
        · rw [if_neg (fun h => a1 ((one_eq c 32).1 h))]
          by_cases a2 : c = 9
          · rw [if_pos ((one_eq c 9).2 a2), if_pos (Or.inr (Or.inl a2))]
          · rw [if_neg (fun h => a2 ((one_eq c 9).1 h))]
            by_cases a3 : c = 10
            · rw [if_pos ((one_eq c 10).2 a3), if_pos (Or.inr (Or.inr a3))]
            · rw [if_neg (fun h => a3 ((one_eq c 10).1 h)), if_neg (fun h => h.elim a1 (fun h => h.elim a2 a3))]
      · rw [if_neg hm, decide_eq_false hm]
        refine Ev.step (f := fun _ => some (0 : Int)) (fun k => ?_) (Ev.now _)
        simp only [split_role.j0]
        rw [if_pos (by simp)]
    · simp only [if_neg h3, if_neg h2]
      refine Ev.step (f := fun _ => some (0 : Int)) (fun k => ?_) (Ev.now _)
      simp only [split_role.j0]
      rw [if_pos trivial]
theorem bt_nat (s : ByteArray) (i : Nat) (h : i < s.size) : bt s (i : Int) = ((s.data.toList[i]'(by rw [dl_len]; exact h)).toNat : Int) := by
  unfold bt
  rw [dif_pos (show (i : Int).toNat < s.size by rw [Int.toNat_natCast]; exact h)]
  simp [ByteArray.getElem_eq_getElem_data]
theorem ev_kind_l0 (ifs : ByteArray) (hm : ifs.size ≤ 9223372036854775807) (c : UInt8) : ∀ (d i : Nat), ifs.size - i = d → i ≤ ifs.size → (∀ j (h : j < ifs.data.toList.length), j < i → ifs.data.toList[j] ≠ c) → Ev (fun k => jobshellref18_kind.l0 k (c.toNat : Int) ifs (i : Int)) (kd ifs c) := by
  intro d
  induction d with
  | zero =>
    intro i h1 h2 h3
    have : ¬ c ∈ ifs.data.toList := fun hc => by
      obtain ⟨j, hj, e⟩ := List.getElem_of_mem hc
      exact h3 j hj (by rw [dl_len] at hj; omega) e
    unfold kd
    rw [if_neg this]
    refine Ev.step (f := fun _ => some (0 : Int)) (fun k => ?_) (Ev.now _)
    simp only [jobshellref18_kind.l0]
    rw [if_neg (by omega)]
  | succ d ih =>
    intro i h1 h2 h3
    have hi : i < ifs.size := by omega
    have hi' : i < ifs.data.toList.length := by rw [dl_len]; exact hi
    by_cases he : ifs.data.toList[i] = c
    · have hc : c ∈ ifs.data.toList := by rw [← he]; exact List.getElem_mem _
      have hb : bt ifs (i : Int) = (c.toNat : Int) := by rw [bt_nat ifs i hi, he]
      unfold kd
      rw [if_pos hc]
      have j1 : ∀ b : Bool, (b = true ↔ (c = 32 ∨ c = 9 ∨ c = 10)) → Ev (fun k => jobshellref18_kind.j1 k (c.toNat : Int) ifs (i : Int) b) (if c = 32 ∨ c = 9 ∨ c = 10 then (1 : Int) else 2) := by
        intro b hbb
        refine Ev.step (f := fun _ => some (if c = 32 ∨ c = 9 ∨ c = 10 then (1 : Int) else 2)) (fun k => ?_) (Ev.now _)
        simp only [jobshellref18_kind.j1]
        by_cases ht : b = true
        · rw [if_pos ht, if_pos (hbb.1 ht)]
        · rw [if_neg ht, if_pos (ige i), if_pos (ilt hi), if_pos hb, if_neg (fun h => ht (hbb.2 h))]
      have num : ∀ (n : UInt8), ((c.toNat : Int) = (n.toNat : Int)) ↔ c = n := fun n => ⟨fun h => UInt8.toNat_inj.1 (by omega), fun h => by rw [h]⟩
      have n32 : ((c.toNat : Int) = 32) ↔ c = 32 := num 32
      have n9 : ((c.toNat : Int) = 9) ↔ c = 9 := num 9
      have n10 : ((c.toNat : Int) = 10) ↔ c = 10 := num 10
      by_cases a1 : c = 32
      · refine Ev.step (fun k => ?_) (j1 true (by simp [a1]))
        simp only [jobshellref18_kind.l0]
        rw [if_pos (ilt hi), if_pos (ige i), if_pos hb, if_pos (n32.2 a1)]
      · by_cases a2 : c = 9
        · refine Ev.step (fun k => ?_) (j1 true (by simp [a2]))
          simp only [jobshellref18_kind.l0]
          rw [if_pos (ilt hi), if_pos (ige i), if_pos hb, if_neg (fun h => a1 (n32.1 h)), if_pos (n9.2 a2)]
        · refine Ev.step (fun k => ?_) (j1 ((c.toNat : Int) == 10) (by rw [beq_iff_eq, n10]; exact ⟨fun h => Or.inr (Or.inr h), fun h => h.elim (fun h => absurd h a1) (fun h => h.elim (fun h => absurd h a2) id)⟩))
          simp only [jobshellref18_kind.l0]
          rw [if_pos (ilt hi), if_pos (ige i), if_pos hb, if_neg (fun h => a1 (n32.1 h)), if_neg (fun h => a2 (n9.1 h))]
    · have hb : ¬ bt ifs (i : Int) = (c.toNat : Int) := by
        rw [bt_nat ifs i hi]
        intro h
        exact he (UInt8.toNat_inj.1 (by omega))
      refine Ev.step (f := fun k => jobshellref18_kind.j1 k (c.toNat : Int) ifs (i : Int) false) (fun k => ?_) (Ev.step (fun k => ?_) (ih (i + 1) (by omega) (by omega) (fun j hj hji => ?_)))
      · simp only [jobshellref18_kind.l0]
        rw [if_pos (ilt hi), if_pos (ige i), if_neg hb]
      · simp only [jobshellref18_kind.j1]
        rw [if_neg (by simp), if_pos (ige i), if_pos (ilt hi), if_neg hb, wrapS (by omega)]
      · rcases Nat.lt_or_ge j i with h | h
        · exact h3 j hj h
        · have : j = i := by omega
          subst this
          exact he
/-- The kind of a byte of a class, and the role of its element. -/
theorem ev_kind (ifs : ByteArray) (hm : ifs.size ≤ 9223372036854775807) (c : UInt8) (cls : Int) (h3 : cls ≠ 3) : Ev (fun k => jobshellref18_kind.f k (c.toNat : Int) cls ifs) (rl ifs ⟨⟨#[c]⟩, cls⟩) := by
  unfold jobshellref18_kind.f rl
  dsimp only
  rw [if_neg h3]
  by_cases h2 : cls = 2
  · simp only [if_pos h2]
    exact ev_kind_l0 ifs hm c ifs.size 0 (by omega) (by omega) (fun j _ h => absurd h (Nat.not_lt_zero _))
  · simp only [if_neg h2]
    exact Ev.now _
end
section
open Go.RowKit Go.Proofs.YtbkhdgfehgfjpaaW.PrintWords Go.Proofs.YtbkhdgfehgfjpaaW.PrintLast
set_option linter.unusedVariables false
set_option linter.unusedSimpArgs false
def oneE (cls : Int) (c : UInt8) : S66 := ⟨⟨#[c]⟩, cls⟩
def elR (b : Bool) (x : S38) : List S66 :=
  if x.f1 = 3 then (if b = true then [⟨⟨#[]⟩, 3⟩] else [])
  else if x.f1 = 0 ∨ x.f1 = 1 ∨ x.f1 = 2 then (if x.f1 = 1 ∧ x.f0.toList = [] then [⟨⟨#[]⟩, 1⟩] else x.f0.data.toList.map (oneE x.f1)) else []
def elF (b : Bool) : List S38 → List S66
  | [] => []
  | x :: t => elR b x ++ elF b t
theorem elR_len (b : Bool) (x : S38) : (elR b x).length ≤ x.f0.size + 1 := by
  unfold elR
  split
  · split <;> simp
  · split
    · split
      · simp
      · rw [List.length_map, dl_len]; omega
    · simp
theorem elF_len (b : Bool) : ∀ l : List S38, (elF b l).length ≤ tot l + l.length
  | [] => by simp [elF]
  | x :: t => by
    have ih := elF_len b t
    have h := elR_len b x
    rw [elF, List.length_append, tot_cons, List.length_cons]
    omega
theorem ext1 (s : ByteArray) (j : Nat) (h : j < s.size) : s.extract j (j + 1) = ⟨#[s.data.toList[j]'(by rw [dl_len]; exact h)]⟩ := by
  apply ba_ext
  have e : (s.extract j (j + 1)).data = s.data.extract j (j + 1) := by simp
  rw [e, Array.toList_extract]
  have h' : j < s.data.toList.length := by rw [dl_len]; exact h
  rw [List.extract_eq_take_drop, dropc _ j h', show j + 1 - j = 1 by omega]
  rfl
theorem ev_el_l1 (b : Bool) (l : List S38) (R : List S66) (i : Nat) (txt : ByteArray) (cls : Int) (ht : txt.size ≤ 1000) (hi : i < 9223372036854775807) : ∀ (d j : Nat) (acc : List S66), txt.size - j = d → j ≤ txt.size → acc.length + (txt.size - j) ≤ 5000 →
    Ev (fun k => split_elements.l0 k b (acc ++ (txt.data.toList.drop j).map (oneE cls)) l (l.length : Int) ((i + 1 : Nat) : Int)) R → Ev (fun k => split_elements.l1 k b acc l (l.length : Int) (i : Int) (txt.size : Int) (j : Int) txt cls) R := by
  intro d
  induction d with
  | zero =>
    intro j acc h1 h2 h3 h
    have hj : j = txt.size := by omega
    rw [List.drop_of_length_le (by rw [dl_len]; omega), List.map_nil, List.append_nil] at h
    refine Ev.step (fun k => ?_) h
    simp only [split_elements.l1]
    rw [if_neg (by omega), wrapS hi]
  | succ d ih =>
    intro j acc h1 h2 h3 h
    have hj : j < txt.size := by omega
    rw [dropc _ j (by rw [dl_len]; exact hj), List.map_cons] at h
    refine Ev.step (fun k => ?_) (ih (j + 1) (acc ++ [oneE cls (txt.data.toList[j]'(by rw [dl_len]; exact hj))]) (by omega) (by omega) (by rw [List.length_append]; simp; omega) (by rw [List.append_assoc]; exact h))
    simp only [split_elements.l1]
    rw [if_pos (ilt hj), if_pos (ige j), wrapS (by omega), if_pos (by omega), if_pos (by omega), if_pos (by omega), Int.toNat_natCast, Int.toNat_natCast, ext1 txt j hj]
    rfl
theorem ev_elements_l0 (b : Bool) (l : List S38) (hm : l.length ≤ 1000) (ht : tot l ≤ 1000) : ∀ (d i : Nat) (acc : List S66), l.length - i = d → i ≤ l.length → tot (l.drop i) ≤ 1000 → acc.length + tot (l.drop i) + (l.length - i) ≤ 5000 → Ev (fun k => split_elements.l0 k b acc l (l.length : Int) (i : Int)) (acc ++ elF b (l.drop i)) := by
  intro d
  induction d with
  | zero =>
    intro i acc h1 h2 h3 h4
    rw [List.drop_of_length_le (by omega)]
    refine Ev.step (f := fun _ => some (acc ++ elF b [])) (fun k => ?_) (Ev.now _)
    simp only [split_elements.l0]
    rw [if_neg (by omega)]
    simp [elF]
  | succ d ih =>
    intro i acc h1 h2 h3 h4
    have hi : i < l.length := by omega
    rw [dropc l i hi] at h3 h4 ⊢
    rw [tot_cons] at h3 h4
    obtain ⟨x, hx⟩ : ∃ x, l[i] = x := ⟨_, rfl⟩
    rw [hx] at h3 h4 ⊢
    have rx := rd38 l i hi
    rw [hx] at rx
    rw [elF]
    have next : ∀ acc2 : List S66, acc2.length ≤ acc.length + x.f0.size + 1 → Ev (fun k => split_elements.l0 k b acc2 l (l.length : Int) ((i + 1 : Nat) : Int)) (acc2 ++ elF b (l.drop (i + 1))) := fun acc2 hl => ih (i + 1) acc2 (by omega) (by omega) (by omega) (by omega)
    have W1 : wrap64 ((i : Int) + 1) = ((i + 1 : Nat) : Int) := wrapS (by omega)
    have zeroE : acc.length < 5864062014805 := by omega
    by_cases c3 : x.f1 = 3
    · have e : elR b x = if b = true then [⟨⟨#[]⟩, 3⟩] else [] := by unfold elR; rw [if_pos c3]
      rw [e]
      by_cases hb : b = true
      · rw [if_pos hb, ← List.append_assoc]
        refine Ev.step (fun k => ?_) (next (acc ++ [⟨⟨#[]⟩, 3⟩]) (by rw [List.length_append]; simp))
        simp only [split_elements.l0]
        rw [if_pos (ilt hi), if_pos (ige i), if_pos (ilt hi), rx, if_pos c3, if_pos hb, if_pos zeroE, W1]
      · rw [if_neg hb, List.nil_append]
        refine Ev.step (fun k => ?_) (next acc (by omega))
        simp only [split_elements.l0]
        rw [if_pos (ilt hi), if_pos (ige i), if_pos (ilt hi), rx, if_pos c3, if_neg hb, W1]
    · -- what follows the choice
      have J1 : ∀ y : Bool, (y = true ↔ (x.f1 = 0 ∨ x.f1 = 1 ∨ x.f1 = 2)) → Ev (fun k => split_elements.j1 k b acc l (l.length : Int) (i : Int) y x.f0 x.f1) (acc ++ (elR b x ++ elF b (l.drop (i + 1)))) := by
        intro y hy
        by_cases ht2 : y = true
        · have hc := hy.1 ht2
          have J3 : ∀ acc2 : List S66, acc2.length ≤ acc.length + 1 → acc2 ++ (x.f0.data.toList.map (oneE x.f1) ++ elF b (l.drop (i + 1))) = acc ++ (elR b x ++ elF b (l.drop (i + 1))) → Ev (fun k => split_elements.j3 k b acc2 l (l.length : Int) (i : Int) x.f0 x.f1) (acc ++ (elR b x ++ elF b (l.drop (i + 1)))) := by
            intro acc2 hl e
            refine Ev.step (f := fun k => split_elements.l1 k b acc2 l (l.length : Int) (i : Int) (x.f0.size : Int) 0 x.f0 x.f1) (fun k => by simp only [split_elements.j3]) ?_
            rw [← e, ← List.append_assoc]
            exact ev_el_l1 b l _ i x.f0 x.f1 (by omega) (by omega) x.f0.size 0 acc2 (by omega) (by omega) (by omega) (next _ (by rw [List.length_append, List.length_map]; simp [dl_len]; omega))
          have J2 : ∀ z : Bool, (z = true ↔ (x.f1 = 1 ∧ x.f0.toList = [])) → Ev (fun k => split_elements.j2 k b acc l (l.length : Int) (i : Int) z x.f0 x.f1) (acc ++ (elR b x ++ elF b (l.drop (i + 1)))) := by
            intro z hz
            by_cases hz2 : z = true
            · have hq := hz.1 hz2
              have e : elR b x = [⟨⟨#[]⟩, 1⟩] := by unfold elR; rw [if_neg c3, if_pos hc, if_pos hq]
              have e2 : x.f0.data.toList = [] := by rw [← Go.ByteArray.toList_eq]; exact hq.2
              refine Ev.step (fun k => ?_) (J3 (acc ++ [⟨⟨#[]⟩, 1⟩]) (by rw [List.length_append]; simp) (by rw [e, e2]; simp))
              simp only [split_elements.j2]
              rw [if_pos hz2, if_pos zeroE]
            · have e : elR b x = x.f0.data.toList.map (oneE x.f1) := by unfold elR; rw [if_neg c3, if_pos hc, if_neg (fun h => hz2 (hz.2 h))]
              refine Ev.step (fun k => ?_) (J3 acc (by omega) (by rw [e]))
              simp only [split_elements.j2]
              rw [if_neg hz2]
          by_cases hn : x.f0.toList = []
          · refine Ev.step (fun k => ?_) (J2 (x.f1 == 1) (by rw [beq_iff_eq]; exact ⟨fun h => ⟨h, hn⟩, fun h => h.1⟩))
            simp only [split_elements.j1]
            rw [if_pos ht2, if_pos hn]
          · refine Ev.step (fun k => ?_) (J2 false ⟨fun h => (by cases h), fun h => absurd h.2 hn⟩)
            simp only [split_elements.j1]
            rw [if_pos ht2, if_neg hn]
        · have e : elR b x = [] := by unfold elR; rw [if_neg c3, if_neg (fun h => ht2 (hy.2 h))]
          rw [e, List.nil_append]
          refine Ev.step (fun k => ?_) (next acc (by omega))
          simp only [split_elements.j1]
          rw [if_neg ht2, W1]
      by_cases c0 : x.f1 = 0
      · refine Ev.step (fun k => ?_) (J1 (x.f1 == 0) (by rw [beq_iff_eq]; exact ⟨Or.inl, fun _ => c0⟩))
        simp only [split_elements.l0]
        rw [if_pos (ilt hi), if_pos (ige i), if_pos (ilt hi), rx, if_neg c3, if_pos c0]
      · by_cases c1 : x.f1 = 1
        · refine Ev.step (fun k => ?_) (J1 (x.f1 == 1) (by rw [beq_iff_eq]; exact ⟨fun h => Or.inr (Or.inl h), fun _ => c1⟩))
          simp only [split_elements.l0]
          rw [if_pos (ilt hi), if_pos (ige i), if_pos (ilt hi), rx, if_neg c3, if_neg c0, if_pos c1]
        · refine Ev.step (fun k => ?_) (J1 (x.f1 == 2) (by rw [beq_iff_eq]; exact ⟨fun h => Or.inr (Or.inr h), fun h => h.elim (fun h => absurd h c0) (fun h => h.elim (fun h => absurd h c1) id)⟩))
          simp only [split_elements.l0]
          rw [if_pos (ilt hi), if_pos (ige i), if_pos (ilt hi), rx, if_neg c3, if_neg c0, if_neg c1]
theorem ev_elements (b : Bool) (l : List S38) (hm : l.length ≤ 1000) (ht : tot l ≤ 1000) : Ev (fun k => split_elements.f k l b) (elF b l) :=
  ev_elements_l0 b l hm ht l.length 0 [] (by omega) (by omega) (by simpa using ht) (by simp; omega)
end
section
open Go.RowKit Go.Proofs.YtbkhdgfehgfjpaaW.PrintWords Go.Proofs.YtbkhdgfehgfjpaaW.PrintLast
set_option linter.unusedVariables false
set_option linter.unusedSimpArgs false
/-- An element with its role. -/
def withR (ifs : ByteArray) (e : S66) : S69 := ⟨e.f0, e.f1, rl ifs e⟩
theorem ev_rel_l1 (ifs : ByteArray) (hs : ifs.size ≤ 9223372036854775807) (l : List S38) (R : List S69) (i : Nat) (txt : ByteArray) (cls : Int) (h3c : cls ≠ 3) (ht : txt.size ≤ 1000) (hi : i < 9223372036854775807) : ∀ (d j : Nat) (acc : List S69), txt.size - j = d → j ≤ txt.size → acc.length + (txt.size - j) ≤ 5000 →
    Ev (fun k => jobshellref18_elements.l0 k l ifs (acc ++ ((txt.data.toList.drop j).map (oneE cls)).map (withR ifs)) ((i + 1 : Nat) : Int)) R → Ev (fun k => jobshellref18_elements.l1 k l ifs acc (i : Int) (j : Int) txt cls) R := by
  intro d
  induction d with
  | zero =>
    intro j acc h1 h2 h3 h
    have hj : j = txt.size := by omega
    rw [List.drop_of_length_le (by rw [dl_len]; omega), List.map_nil, List.map_nil, List.append_nil] at h
    refine Ev.step (fun k => ?_) h
    simp only [jobshellref18_elements.l1]
    rw [if_neg (by omega), wrapS hi]
  | succ d ih =>
    intro j acc h1 h2 h3 h
    have hj : j < txt.size := by omega
    rw [dropc _ j (by rw [dl_len]; exact hj), List.map_cons, List.map_cons] at h
    obtain ⟨c, hc⟩ : ∃ c, txt.data.toList[j]'(by rw [dl_len]; exact hj) = c := ⟨_, rfl⟩
    have B := bt_nat txt j hj
    have X := ext1 txt j hj
    rw [hc] at h B X
    have K := ev_kind ifs hs c cls h3c
    have hl : acc.length < 4398046511104 := by omega
    have next := ih (j + 1) (acc ++ [withR ifs (oneE cls c)]) (by omega) (by omega) (by rw [List.length_append]; simp; omega) (by rw [List.append_assoc]; exact h)
    refine Ev.step (f := fun k => (jobshellref18_kind.f k (c.toNat : Int) cls ifs).bind fun t => jobshellref18_elements.l1 k l ifs (acc ++ [(⟨⟨#[c]⟩, cls, t⟩ : S69)]) (i : Int) ((j + 1 : Nat) : Int) txt cls) (fun k => ?_) (Ev.bind K next)
    simp only [jobshellref18_elements.l1]
    rw [if_pos (ilt hj), if_pos (ige j), wrapS (by omega), if_pos (by omega), if_pos (by omega), B, Int.toNat_natCast, Int.toNat_natCast, X]
    simp only [if_pos hl]
theorem ev_relements_l0 (ifs : ByteArray) (hs : ifs.size ≤ 9223372036854775807) (l : List S38) (hm : l.length ≤ 1000) (ht : tot l ≤ 1000) : ∀ (d i : Nat) (acc : List S69), l.length - i = d → i ≤ l.length → tot (l.drop i) ≤ 1000 → acc.length + tot (l.drop i) + (l.length - i) ≤ 5000 → Ev (fun k => jobshellref18_elements.l0 k l ifs acc (i : Int)) (acc ++ (elF true (l.drop i)).map (withR ifs)) := by
  intro d
  induction d with
  | zero =>
    intro i acc h1 h2 h3 h4
    rw [List.drop_of_length_le (by omega)]
    refine Ev.step (f := fun _ => some (acc ++ (elF true []).map (withR ifs))) (fun k => ?_) (Ev.now _)
    simp only [jobshellref18_elements.l0]
    rw [if_neg (by omega)]
    simp [elF]
  | succ d ih =>
    intro i acc h1 h2 h3 h4
    have hi : i < l.length := by omega
    rw [dropc l i hi] at h3 h4 ⊢
    rw [tot_cons] at h3 h4
    obtain ⟨x, hx⟩ : ∃ x, l[i] = x := ⟨_, rfl⟩
    rw [hx] at h3 h4 ⊢
    have rx := rd38 l i hi
    rw [hx] at rx
    rw [elF, List.map_append]
    have next : ∀ acc2 : List S69, acc2.length ≤ acc.length + x.f0.size + 1 → Ev (fun k => jobshellref18_elements.l0 k l ifs acc2 ((i + 1 : Nat) : Int)) (acc2 ++ (elF true (l.drop (i + 1))).map (withR ifs)) := fun acc2 hl => ih (i + 1) acc2 (by omega) (by omega) (by omega) (by omega)
    have W1 : wrap64 ((i : Int) + 1) = ((i + 1 : Nat) : Int) := wrapS (by omega)
    have zeroE : acc.length < 4398046511104 := by omega
    by_cases c3 : x.f1 = 3
    · have e : (elR true x).map (withR ifs) = [⟨⟨#[]⟩, x.f1, 3⟩] := by unfold elR; rw [if_pos c3, if_pos rfl, c3]; rfl
      rw [e, ← List.append_assoc]
      refine Ev.step (fun k => ?_) (next (acc ++ [⟨⟨#[]⟩, x.f1, 3⟩]) (by rw [List.length_append]; simp))
      simp only [jobshellref18_elements.l0]
      rw [if_pos (ilt hi), if_pos (ige i), rx, if_pos c3, if_pos zeroE, W1]
    · have J1 : ∀ y : Bool, (y = true ↔ (x.f1 = 1 ∧ x.f0.toList = [])) → Ev (fun k => jobshellref18_elements.j1 k l ifs acc (i : Int) y x.f0 x.f1) (acc ++ ((elR true x).map (withR ifs) ++ (elF true (l.drop (i + 1))).map (withR ifs))) := by
        intro y hy
        by_cases ht2 : y = true
        · have hq := hy.1 ht2
          have e : (elR true x).map (withR ifs) = [⟨⟨#[]⟩, x.f1, 0⟩] := by unfold elR; rw [if_neg c3, if_pos (Or.inr (Or.inl hq.1)), if_pos hq, hq.1]; rfl
          rw [e, ← List.append_assoc]
          refine Ev.step (fun k => ?_) (next (acc ++ [⟨⟨#[]⟩, x.f1, 0⟩]) (by rw [List.length_append]; simp))
          simp only [jobshellref18_elements.j1]
          rw [if_pos ht2, if_pos zeroE, W1]
        · have J2 : ∀ z : Bool, (z = true ↔ (x.f1 = 0 ∨ x.f1 = 1 ∨ x.f1 = 2)) → Ev (fun k => jobshellref18_elements.j2 k l ifs acc (i : Int) z x.f0 x.f1) (acc ++ ((elR true x).map (withR ifs) ++ (elF true (l.drop (i + 1))).map (withR ifs))) := by
            intro z hz
            by_cases hz2 : z = true
            · have e : elR true x = x.f0.data.toList.map (oneE x.f1) := by unfold elR; rw [if_neg c3, if_pos (hz.1 hz2), if_neg (fun h => ht2 (hy.2 h))]
              refine Ev.step (f := fun k => jobshellref18_elements.l1 k l ifs acc (i : Int) 0 x.f0 x.f1) (fun k => ?_) ?_
              · simp only [jobshellref18_elements.j2]
                rw [if_pos hz2]
              · rw [e, ← List.append_assoc]
                exact ev_rel_l1 ifs hs l _ i x.f0 x.f1 c3 (by omega) (by omega) x.f0.size 0 acc (by omega) (by omega) (by omega) (next _ (by rw [List.length_append, List.length_map, List.length_map, List.drop_zero, dl_len]; omega))
            · have e : elR true x = [] := by unfold elR; rw [if_neg c3, if_neg (fun h => hz2 (hz.2 h))]
              rw [e, List.map_nil, List.nil_append]
              refine Ev.step (fun k => ?_) (next acc (by omega))
              simp only [jobshellref18_elements.j2]
              rw [if_neg hz2, W1]
          by_cases c0 : x.f1 = 0
          · refine Ev.step (fun k => ?_) (J2 true ⟨fun _ => Or.inl c0, fun _ => rfl⟩)
            simp only [jobshellref18_elements.j1]
            rw [if_neg ht2, if_pos c0]
          · by_cases c1 : x.f1 = 1
            · refine Ev.step (fun k => ?_) (J2 true ⟨fun _ => Or.inr (Or.inl c1), fun _ => rfl⟩)
              simp only [jobshellref18_elements.j1]
              rw [if_neg ht2, if_neg c0, if_pos c1]
            · refine Ev.step (fun k => ?_) (J2 (x.f1 == 2) (by rw [beq_iff_eq]; exact ⟨fun h => Or.inr (Or.inr h), fun h => h.elim (fun h => absurd h c0) (fun h => h.elim (fun h => absurd h c1) id)⟩))
              simp only [jobshellref18_elements.j1]
              rw [if_neg ht2, if_neg c0, if_neg c1]
      by_cases c1 : x.f1 = 1
      · refine Ev.step (fun k => ?_) (J1 (x.f0.toList == []) (by rw [beq_iff_eq]; exact ⟨fun h => ⟨c1, h⟩, fun h => h.2⟩))
        simp only [jobshellref18_elements.l0]
        rw [if_pos (ilt hi), if_pos (ige i), rx, if_neg c3, if_pos c1]
      · refine Ev.step (fun k => ?_) (J1 false ⟨fun h => (by cases h), fun h => absurd h.1 c1⟩)
        simp only [jobshellref18_elements.l0]
        rw [if_pos (ilt hi), if_pos (ige i), rx, if_neg c3, if_neg c1]
theorem ev_relements (ifs : ByteArray) (hs : ifs.size ≤ 9223372036854775807) (l : List S38) (hm : l.length ≤ 1000) (ht : tot l ≤ 1000) : Ev (fun k => jobshellref18_elements.f k l ifs) ((elF true l).map (withR ifs)) :=
  ev_relements_l0 ifs hs l hm ht l.length 0 [] (by omega) (by omega) (by simpa using ht) (by simp; omega)
end
section
open Go.RowKit Go.Proofs.YtbkhdgfehgfjpaaW.PrintWords Go.Proofs.YtbkhdgfehgfjpaaW.PrintLast
set_option linter.unusedVariables false
set_option linter.unusedSimpArgs false
section
variable {E : Type} (ρ : E → Int)
/-- What is left behind the whites. -/
def skipN : List E → List E
  | [] => []
  | e :: t => if ρ e = 1 then skipN t else e :: t
/-- How many whites lead. -/
def wl : List E → Nat
  | [] => 0
  | e :: t => if ρ e = 1 then wl t + 1 else 0
def hr : List E → Int
  | [] => 0
  | e :: _ => ρ e
def clo (f : List E) : List (List E) := if f.length = 0 then [] else [f]
theorem skipN_len : ∀ l : List E, (skipN ρ l).length ≤ l.length
  | [] => Nat.le_refl _
  | e :: t => by
    have ih := skipN_len t
    unfold skipN
    split
    · rw [List.length_cons]; omega
    · exact Nat.le_refl _
theorem wl_drop : ∀ l : List E, l.drop (wl ρ l) = skipN ρ l
  | [] => rfl
  | e :: t => by
    unfold wl skipN
    split
    · rw [List.drop_succ_cons]; exact wl_drop t
    · rfl
theorem wl_le : ∀ l : List E, wl ρ l ≤ l.length
  | [] => Nat.le_refl _
  | e :: t => by
    have ih := wl_le t
    unfold wl
    split
    · rw [List.length_cons]; omega
    · omega
theorem drop_wl (l : List E) (i : Nat) : l.drop (i + wl ρ (l.drop i)) = skipN ρ (l.drop i) := by
  obtain ⟨u, hu⟩ : ∃ u, l.drop i = u := ⟨_, rfl⟩
  have h : l.drop (i + wl ρ u) = u.drop (wl ρ u) := by rw [← hu, List.drop_drop]
  rw [hu, h, wl_drop]
def dv (f : List E) : List E → List (List E)
  | [] => clo f
  | e :: t => if ρ e = 0 then dv (f ++ [e]) t else if ρ e = 3 then clo f ++ dv [] t else if ρ e = 2 then f :: dv [] (skipN ρ t) else if hr ρ (skipN ρ t) = 2 then f :: dv [] (skipN ρ (skipN ρ t).tail) else clo f ++ dv [] (skipN ρ t)
termination_by l => l.length
decreasing_by
  all_goals simp_wf
  all_goals have h1 := skipN_len ρ t
  all_goals have h2 := skipN_len ρ (skipN ρ t).tail
  all_goals have h3 : (skipN ρ t).tail.length ≤ (skipN ρ t).length := by rw [List.length_tail]; omega
  all_goals omega
end
theorem rd69 (l : List S69) (i : Nat) (h : i < l.length) : rd_T69 l (i : Int) = l[i] := by
  unfold rd_T69
  rw [Int.toNat_natCast, List.getD_eq_getElem?_getD, List.getElem?_eq_getElem h]
  rfl
theorem ev_skip_l0 (l : List S69) (hm : l.length ≤ 1000) : ∀ (d i : Nat), l.length - i = d → i ≤ l.length → Ev (fun k => jobshellref18_skip.l0 k l (i : Int)) ((i + wl S69.f2 (l.drop i) : Nat) : Int) := by
  intro d
  induction d with
  | zero =>
    intro i h1 h2
    rw [List.drop_of_length_le (by omega)]
    refine Ev.step (f := fun _ => some ((i + wl S69.f2 [] : Nat) : Int)) (fun k => ?_) (Ev.now _)
    simp only [jobshellref18_skip.l0]
    rw [if_neg (by omega)]
    rfl
  | succ d ih =>
    intro i h1 h2
    have hi : i < l.length := by omega
    rw [dropc l i hi]
    by_cases h : l[i].f2 = 1
    · have e : i + wl S69.f2 (l[i] :: l.drop (i + 1)) = (i + 1) + wl S69.f2 (l.drop (i + 1)) := by rw [wl, if_pos h]; omega
      rw [e]
      refine Ev.step (fun k => ?_) (ih (i + 1) (by omega) (by omega))
      simp only [jobshellref18_skip.l0]
      rw [if_pos (ilt hi), if_pos (ige i), rd69 l i hi, if_pos h, wrapS (by omega)]
    · have e : i + wl S69.f2 (l[i] :: l.drop (i + 1)) = i := by rw [wl, if_neg h]; omega
      rw [e]
      refine Ev.step (f := fun _ => some (i : Int)) (fun k => ?_) (Ev.now _)
      simp only [jobshellref18_skip.l0]
      rw [if_pos (ilt hi), if_pos (ige i), rd69 l i hi, if_neg h]
theorem ev_skip (l : List S69) (hm : l.length ≤ 1000) (i : Nat) (hi : i ≤ l.length) : Ev (fun k => jobshellref18_skip.f k l (i : Int)) ((i + wl S69.f2 (l.drop i) : Nat) : Int) := ev_skip_l0 l hm _ i rfl hi
theorem hr_drop (l : List S69) (i : Nat) (h : i < l.length) : hr S69.f2 (l.drop i) = l[i].f2 := by rw [dropc l i h]; rfl
theorem ev_rdivide_l0 (l : List S69) (hm : l.length ≤ 1000) (hρ : ∀ e ∈ l, e.f2 = 0 ∨ e.f2 = 1 ∨ e.f2 = 2 ∨ e.f2 = 3) : ∀ (n i : Nat) (f : List S69) (out : List (List S69)), l.length - i ≤ n → i ≤ l.length → f.length ≤ i → out.length ≤ i →
    Ev (fun k => jobshellref18_divide.l0 k l out f (i : Int)) (out ++ dv S69.f2 f (l.drop i)) := by
  intro n
  induction n with
  | zero =>
    intro i f out h1 h2 h3 h4
    rw [List.drop_of_length_le (by omega), dv]
    by_cases h : (f.length : Int) > 0
    · refine Ev.step (f := fun _ => some (out ++ [f])) (fun k => ?_) ?_
      · simp only [jobshellref18_divide.l0]
        rw [if_neg (by omega), if_pos h, if_pos (by omega)]
      · rw [clo, if_neg (by omega)]; exact Ev.now _
    · refine Ev.step (f := fun _ => some out) (fun k => ?_) ?_
      · simp only [jobshellref18_divide.l0]
        rw [if_neg (by omega), if_neg h]
      · rw [clo, if_pos (by omega), List.append_nil]; exact Ev.now _
  | succ n ih =>
    intro i f out h1 h2 h3 h4
    rcases Nat.lt_or_ge i l.length with hi | hi
    case inr =>
      rw [List.drop_of_length_le (by omega), dv]
      by_cases h : (f.length : Int) > 0
      · refine Ev.step (f := fun _ => some (out ++ [f])) (fun k => ?_) ?_
        · simp only [jobshellref18_divide.l0]
          rw [if_neg (by omega), if_pos h, if_pos (by omega)]
        · rw [clo, if_neg (by omega)]; exact Ev.now _
      · refine Ev.step (f := fun _ => some out) (fun k => ?_) ?_
        · simp only [jobshellref18_divide.l0]
          rw [if_neg (by omega), if_neg h]
        · rw [clo, if_pos (by omega), List.append_nil]; exact Ev.now _
    have hd := dropc l i hi
    have hs := ev_skip l hm i (by omega)
    obtain ⟨e, he⟩ : ∃ e, l[i] = e := ⟨_, rfl⟩
    have re := rd69 l i hi
    have hre := hρ e (by rw [← he]; exact List.getElem_mem hi)
    rw [he] at hd re
    by_cases h0 : e.f2 = 0
    · rw [hd, dv, if_pos h0]
      refine Ev.step (fun k => ?_) (ih (i + 1) (f ++ [e]) out (by omega) (by omega) (by rw [List.length_append]; simp; omega) (by omega))
      simp only [jobshellref18_divide.l0]
      rw [if_pos (ilt hi), if_pos (ige i), re, if_pos h0, if_pos (by omega), wrapS (by omega)]
    · -- closing a field, or none, and going on at j
      have close : ∀ (j : Nat), i < j → j ≤ l.length → (f.length > 0 → Ev (fun k => jobshellref18_divide.l0 k l (out ++ [f]) [] (j : Int)) (out ++ (clo f ++ dv S69.f2 [] (l.drop j)))) ∧ (¬ f.length > 0 → Ev (fun k => jobshellref18_divide.l0 k l out f (j : Int)) (out ++ (clo f ++ dv S69.f2 [] (l.drop j)))) := by
        intro j hj hjl
        refine ⟨fun hf => ?_, fun hf => ?_⟩
        · rw [clo, if_neg (by omega), ← List.append_assoc]
          exact ih j [] (out ++ [f]) (by omega) hjl (by simp) (by rw [List.length_append]; simp; omega)
        · obtain rfl := List.eq_nil_of_length_eq_zero (show f.length = 0 by omega)
          exact ih j [] out (by omega) hjl (by simp) (by omega)
      have always : ∀ (j : Nat), i < j → j ≤ l.length → Ev (fun k => jobshellref18_divide.l0 k l (out ++ [f]) [] (j : Int)) (out ++ (f :: dv S69.f2 [] (l.drop j))) := by
        intro j hj hjl
        have := ih j [] (out ++ [f]) (by omega) hjl (by simp) (by rw [List.length_append]; simp; omega)
        rw [List.append_assoc] at this
        exact this
      have T : ∀ (p : Nat), i ≤ p → p < l.length → Ev (fun k => jobshellref18_divide.j1 k l out f (i : Int) (decide ((f.length : Int) > 0)) (p : Int) true) (out ++ (f :: dv S69.f2 [] (skipN S69.f2 (l.drop (p + 1))))) := by
        intro p hp hpl
        have hs2 := ev_skip l hm (p + 1) (by omega)
        have hw := wl_le S69.f2 (l.drop (p + 1))
        rw [List.length_drop] at hw
        have A := always (p + 1 + wl S69.f2 (l.drop (p + 1))) (by omega) (by omega)
        rw [drop_wl] at A
        have ho : out.length < 5864062014805 := by omega
        refine Ev.step (f := fun k => (jobshellref18_skip.f k l ((p + 1 : Nat) : Int)).bind fun t => jobshellref18_divide.l0 k l (out ++ [f]) [] t) (fun k => ?_) (Ev.bind hs2 A)
        simp only [jobshellref18_divide.j1]
        rw [if_pos trivial, wrapS (by omega)]
        simp only [if_pos ho]
      have N : ∀ (p : Nat), i ≤ p → p ≤ l.length → Ev (fun k => jobshellref18_divide.j1 k l out f (i : Int) (decide ((f.length : Int) > 0)) (p : Int) false) (out ++ (clo f ++ dv S69.f2 [] (l.drop (if p = i then i + 1 else p)))) := by
        intro p hp hpl
        obtain ⟨c1, c2⟩ := close (if p = i then i + 1 else p) (by split <;> omega) (by split <;> omega)
        have ho : out.length < 5864062014805 := by omega
        by_cases hf : (f.length : Int) > 0
        · refine Ev.step (fun k => ?_) (c1 (by omega))
          simp only [jobshellref18_divide.j1]
          rw [if_neg (by simp), decide_eq_true hf]
          by_cases hpi : p = i
          · rw [if_pos (by omega), if_pos rfl, if_pos ho, if_pos hpi, wrapS (by omega)]
          · rw [if_neg (by omega), if_pos rfl, if_pos ho, if_neg hpi]
        · refine Ev.step (fun k => ?_) (c2 (by omega))
          simp only [jobshellref18_divide.j1]
          rw [if_neg (by simp), decide_eq_false hf]
          by_cases hpi : p = i
          · rw [if_pos (by omega), if_neg (by simp), if_pos hpi, wrapS (by omega)]
          · rw [if_neg (by omega), if_neg (by simp), if_neg hpi]
      have enter : ∀ (p : Nat) (R : List (List S69)), i + wl S69.f2 (l.drop i) = p → (∀ b : Bool, (b = true ↔ hr S69.f2 (l.drop p) = 2) → Ev (fun k => jobshellref18_divide.j1 k l out f (i : Int) (decide ((f.length : Int) > 0)) (p : Int) b) R) → Ev (fun k => jobshellref18_divide.l0 k l out f (i : Int)) R := by
        intro p R hp hJ
        rw [hp] at hs
        rcases Nat.lt_or_ge p l.length with hpl | hpl
        · have J := hJ (l[p].f2 == 2) (by rw [hr_drop l p hpl, beq_iff_eq])
          refine Ev.step (f := fun k => (jobshellref18_skip.f k l (i : Int)).bind fun t280 => (if t280 < (l.length : Int) then (if 0 ≤ t280 then (jobshellref18_divide.j1 k l out f (i : Int) (decide ((f.length : Int) > 0)) t280 (((rd_T69 l t280).f2) == 2)) else (none)) else (jobshellref18_divide.j1 k l out f (i : Int) (decide ((f.length : Int) > 0)) t280 false))) (fun k => ?_) (Ev.bind hs ?_)
          · simp only [jobshellref18_divide.l0]
            rw [if_pos (ilt hi), if_pos (ige i), re, if_neg h0]
          · simp only [if_pos (ilt hpl), if_pos (ige p), rd69 l p hpl]
            exact J
        · have J := hJ false (by rw [List.drop_of_length_le hpl]; exact ⟨fun h => (by cases h), fun h => absurd h (by decide)⟩)
          have hng : ¬ (p : Int) < (l.length : Int) := by omega
          refine Ev.step (f := fun k => (jobshellref18_skip.f k l (i : Int)).bind fun t280 => (if t280 < (l.length : Int) then (if 0 ≤ t280 then (jobshellref18_divide.j1 k l out f (i : Int) (decide ((f.length : Int) > 0)) t280 (((rd_T69 l t280).f2) == 2)) else (none)) else (jobshellref18_divide.j1 k l out f (i : Int) (decide ((f.length : Int) > 0)) t280 false))) (fun k => ?_) (Ev.bind hs ?_)
          · simp only [jobshellref18_divide.l0]
            rw [if_pos (ilt hi), if_pos (ige i), re, if_neg h0]
          · simp only [if_neg hng]
            exact J
      have hwl := wl_le S69.f2 (l.drop (i + 1))
      rw [List.length_drop] at hwl
      by_cases h3 : e.f2 = 3
      · have hw : i + wl S69.f2 (l.drop i) = i := by rw [hd, wl, if_neg (by omega)]; rfl
        refine enter i _ hw (fun b hb => ?_)
        have hbf : b = false := by
          cases b with
          | false => rfl
          | true => have := hb.1 rfl; rw [hd] at this; have h9 : e.f2 = 2 := this; omega
        subst hbf
        have := N i (by omega) (by omega)
        rw [if_pos rfl] at this
        rw [hd, dv, if_neg h0, if_pos h3]
        exact this
      · by_cases h2 : e.f2 = 2
        · have hw : i + wl S69.f2 (l.drop i) = i := by rw [hd, wl, if_neg (by omega)]; rfl
          refine enter i _ hw (fun b hb => ?_)
          have hbt : b = true := hb.2 (by rw [hd]; exact h2)
          subst hbt
          rw [hd, dv, if_neg h0, if_neg h3, if_pos h2]
          exact T i (by omega) hi
        · have h1e : e.f2 = 1 := by omega
          obtain ⟨p, hp⟩ : ∃ p, i + 1 + wl S69.f2 (l.drop (i + 1)) = p := ⟨_, rfl⟩
          have hw : i + wl S69.f2 (l.drop i) = p := by rw [hd, wl, if_pos h1e]; omega
          have hdp : l.drop p = skipN S69.f2 (l.drop (i + 1)) := by rw [← hp, drop_wl]
          refine enter p _ hw (fun b hb => ?_)
          rw [hd, dv, if_neg h0, if_neg h3, if_neg h2]
          rw [hdp] at hb
          by_cases h2p : hr S69.f2 (skipN S69.f2 (l.drop (i + 1))) = 2
          · have hbt := hb.2 h2p
            subst hbt
            rw [if_pos h2p]
            have hpl : p < l.length := by
              rcases Nat.lt_or_ge p l.length with h | h
              · exact h
              · rw [← hdp, List.drop_of_length_le h] at h2p
                exact absurd h2p (by decide)
            have := T p (by omega) hpl
            rw [← hdp, List.tail_drop]
            exact this
          · have hbf : b = false := by
              cases b with
              | false => rfl
              | true => exact absurd (hb.1 rfl) h2p
            subst hbf
            rw [if_neg h2p]
            have := N p (by omega) (by omega)
            rw [if_neg (by omega), hdp] at this
            exact this
theorem ev_rdivide (l : List S69) (hm : l.length ≤ 1000) (hρ : ∀ e ∈ l, e.f2 = 0 ∨ e.f2 = 1 ∨ e.f2 = 2 ∨ e.f2 = 3) : Ev (fun k => jobshellref18_divide.f k l) (dv S69.f2 [] l) :=
  ev_rdivide_l0 l hm hρ l.length 0 [] [] (by omega) (by omega) (by simp) (by simp)
end
section
open Go.RowKit Go.Proofs.YtbkhdgfehgfjpaaW.PrintWords Go.Proofs.YtbkhdgfehgfjpaaW.PrintLast
set_option linter.unusedVariables false
set_option linter.unusedSimpArgs false
theorem rd66 (l : List S66) (i : Nat) (h : i < l.length) : rd_T66 l (i : Int) = l[i] := by
  unfold rd_T66
  rw [Int.toNat_natCast, List.getD_eq_getElem?_getD, List.getElem?_eq_getElem h]
  rfl
theorem ev_behind_l0 (ifs : ByteArray) (l : List S66) (hm : l.length ≤ 1000) (hk : ∀ e ∈ l, okE e) : ∀ (d i : Nat), l.length - i = d → i ≤ l.length → Ev (fun k => split_behind.l0 k l (i : Int) ifs) ((i + wl (rl ifs) (l.drop i) : Nat) : Int) := by
  intro d
  induction d with
  | zero =>
    intro i h1 h2
    rw [List.drop_of_length_le (by omega)]
    refine Ev.step (f := fun _ => some ((i + wl (rl ifs) [] : Nat) : Int)) (fun k => ?_) (Ev.now _)
    simp only [split_behind.l0]
    rw [if_neg (by omega)]
    rfl
  | succ d ih =>
    intro i h1 h2
    have hi : i < l.length := by omega
    rw [dropc l i hi]
    have R := ev_role ifs l[i] (hk _ (List.getElem_mem hi))
    refine Ev.step (f := fun k => (split_role.f k l[i].f0 l[i].f1 ifs).bind fun t => if t = 1 then split_behind.l0 k l ((i + 1 : Nat) : Int) ifs else some (i : Int)) (fun k => ?_) (Ev.bind R ?_)
    · simp only [split_behind.l0]
      rw [if_pos (ilt hi), if_pos (ige i), rd66 l i hi, wrapS (by omega)]
    · by_cases h : rl ifs l[i] = 1
      · have e : i + wl (rl ifs) (l[i] :: l.drop (i + 1)) = (i + 1) + wl (rl ifs) (l.drop (i + 1)) := by rw [wl, if_pos h]; omega
        rw [e]
        simp only [if_pos h]
        exact ih (i + 1) (by omega) (by omega)
      · have e : i + wl (rl ifs) (l[i] :: l.drop (i + 1)) = i := by rw [wl, if_neg h]; omega
        rw [e]
        simp only [if_neg h]
        exact Ev.now _
theorem ev_behind (ifs : ByteArray) (l : List S66) (hm : l.length ≤ 1000) (hk : ∀ e ∈ l, okE e) (i : Nat) (hi : i ≤ l.length) : Ev (fun k => split_behind.f k l (i : Int) ifs) ((i + wl (rl ifs) (l.drop i) : Nat) : Int) := ev_behind_l0 ifs l hm hk _ i rfl hi
theorem rl_range (ifs : ByteArray) (e : S66) : rl ifs e = 0 ∨ rl ifs e = 1 ∨ rl ifs e = 2 ∨ rl ifs e = 3 := by
  unfold rl
  split
  · omega
  · split
    · split
      · unfold kd
        split
        · split <;> omega
        · omega
      · omega
    · omega
end
section
open Go.RowKit Go.Proofs.YtbkhdgfehgfjpaaW.PrintWords Go.Proofs.YtbkhdgfehgfjpaaW.PrintLast
set_option linter.unusedVariables false
set_option linter.unusedSimpArgs false
/-- The part of a list from s on, up to i. -/
def part {E : Type} (l : List E) (s i : Nat) : List E := (l.take i).drop s
theorem part_len {E : Type} {l : List E} {s i : Nat} (hi : i ≤ l.length) : (part l s i).length = i - s := by
  unfold part
  rw [List.length_drop, List.length_take]
  omega
theorem part_self {E : Type} (l : List E) (s : Nat) : part l s s = [] := by
  apply List.eq_nil_of_length_eq_zero
  unfold part
  rw [List.length_drop, List.length_take]
  omega
theorem part_succ {E : Type} (l : List E) (s i : Nat) (h : i < l.length) (hs : s ≤ i) : part l s (i + 1) = part l s i ++ [l[i]] := by
  unfold part
  rw [List.take_succ_eq_append_getElem h, List.drop_append_of_le_length (by rw [List.length_take]; omega)]
theorem hr_drop66 (ρ : S66 → Int) (l : List S66) (i : Nat) (h : i < l.length) : hr ρ (l.drop i) = ρ l[i] := by rw [dropc l i h]; rfl
theorem ev_divide_l0 (ifs : ByteArray) (l : List S66) (hm : l.length ≤ 1000) (hk : ∀ e ∈ l, okE e) : ∀ (n s i : Nat) (out : List (List S66)), l.length - i ≤ n → s ≤ i → i ≤ l.length → out.length ≤ s →
    Ev (fun k => split_divide.l0 k l ifs out (s : Int) (i : Int)) (out ++ dv (rl ifs) (part l s i) (l.drop i)) := by
  have fin : ∀ (s i : Nat) (out : List (List S66)), i = l.length → s ≤ i → out.length ≤ s → Ev (fun k => split_divide.l0 k l ifs out (s : Int) (i : Int)) (out ++ dv (rl ifs) (part l s i) (l.drop i)) := by
    intro s i out h1 h2 h4
    rw [List.drop_of_length_le (by omega), dv, clo, part_len (by omega)]
    by_cases h : (s : Int) < (l.length : Int)
    · refine Ev.step (f := fun _ => some (out ++ [part l s i])) (fun k => ?_) ?_
      · simp only [split_divide.l0]
        rw [if_neg (by omega), if_pos h, if_pos (ige s), if_pos (by omega), if_pos (by omega), Int.toNat_natCast]
        rw [part, List.take_of_length_le (by omega)]
      · rw [if_neg (by omega)]; exact Ev.now _
    · refine Ev.step (f := fun _ => some out) (fun k => ?_) ?_
      · simp only [split_divide.l0]
        rw [if_neg (by omega), if_neg h]
      · rw [if_pos (by omega), List.append_nil]; exact Ev.now _
  intro n
  induction n with
  | zero =>
    intro s i out h1 h2 h3 h4
    exact fin s i out (by omega) h2 h4
  | succ n ih =>
    intro s i out h1 h2 h3 h4
    rcases Nat.lt_or_ge i l.length with hi | hi
    case inr => exact fin s i out (by omega) h2 h4
    have hd := dropc l i hi
    have R := ev_role ifs l[i] (hk _ (List.getElem_mem hi))
    have rng := rl_range ifs l[i]
    have ri := rd66 l i hi
    have ho : out.length < 5864062014805 := by omega
    have fl : (part l s i).length = i - s := part_len (by omega)
    have P : (l.take (i : Int).toNat).drop (s : Int).toNat = part l s i := by rw [Int.toNat_natCast, Int.toNat_natCast]; rfl
    -- going on at j with nothing in hand
    have go1 : ∀ (j : Nat) (out2 : List (List S66)), i < j → j ≤ l.length → out2.length ≤ i + 1 → Ev (fun k => split_divide.l0 k l ifs out2 (j : Int) (j : Int)) (out2 ++ dv (rl ifs) [] (l.drop j)) := by
      intro j out2 hj hjl ho2
      have := ih j j out2 (by omega) (Nat.le_refl _) hjl (by omega)
      rw [part_self] at this
      exact this
    have always : ∀ (j : Nat), i < j → j ≤ l.length → Ev (fun k => split_divide.l0 k l ifs (out ++ [part l s i]) (j : Int) (j : Int)) (out ++ (part l s i :: dv (rl ifs) [] (l.drop j))) := by
      intro j hj hjl
      have := go1 j (out ++ [part l s i]) hj hjl (by rw [List.length_append]; simp; omega)
      rw [List.append_assoc] at this
      exact this
    have close : ∀ (j : Nat), i < j → j ≤ l.length → Ev (fun k => if (i : Int) > (s : Int) then split_divide.l0 k l ifs (out ++ [part l s i]) (j : Int) (j : Int) else split_divide.l0 k l ifs out (j : Int) (j : Int)) (out ++ (clo (part l s i) ++ dv (rl ifs) [] (l.drop j))) := by
      intro j hj hjl
      by_cases hg : (i : Int) > (s : Int)
      · simp only [if_pos hg]
        rw [clo, if_neg (by omega)]
        exact always j hj hjl
      · simp only [if_neg hg]
        rw [clo, if_pos (by omega), List.nil_append]
        exact go1 j out hj hjl (by omega)
    have W1 : wrap64 ((i : Int) + 1) = ((i + 1 : Nat) : Int) := wrapS (by omega)
    have hsi : (s : Int) ≤ (i : Int) := by omega
    have hil : (i : Int) ≤ (l.length : Int) := by omega
    have hw1 := wl_le (rl ifs) (l.drop (i + 1))
    rw [List.length_drop] at hw1
    refine Ev.step (fun k => by simp only [split_divide.l0]; rw [if_pos (ilt hi), if_pos (ige i), ri]) (Ev.bind R ?_)
    rw [hd, dv]
    by_cases h0 : rl ifs l[i] = 0
    · simp only [if_pos h0, W1]
      have := ih s (i + 1) out (by omega) (by omega) (by omega) (by omega)
      rw [part_succ l s i hi h2] at this
      exact this
    · by_cases h3' : rl ifs l[i] = 3
      · simp only [if_neg h0, if_pos h3', if_pos (ige s), if_pos hsi, if_pos hil, if_pos ho, P, W1]
        exact close (i + 1) (by omega) (by omega)
      · by_cases h2' : rl ifs l[i] = 2
        · have h1' : ¬ rl ifs l[i] = 1 := by omega
          simp only [if_neg h0, if_neg h3', if_neg h1', if_pos h2', if_pos (ige s), if_pos hsi, if_pos hil, if_pos ho, P, W1]
          have A := always (i + 1 + wl (rl ifs) (l.drop (i + 1))) (by omega) (by omega)
          rw [drop_wl] at A
          exact Ev.bind (f := fun k t => split_divide.l0 k l ifs (out ++ [part l s i]) t t) (ev_behind ifs l hm hk (i + 1) (by omega)) A
        · have h1' : rl ifs l[i] = 1 := by omega
          simp only [if_neg h0, if_neg h3', if_pos h1', if_neg h2']
          obtain ⟨p, hp⟩ : ∃ p, i + 1 + wl (rl ifs) (l.drop (i + 1)) = p := ⟨_, rfl⟩
          have hw : i + wl (rl ifs) (l.drop i) = p := by rw [hd, wl, if_pos h1']; omega
          have hdp : l.drop p = skipN (rl ifs) (l.drop (i + 1)) := by rw [← hp, drop_wl]
          have B := ev_behind ifs l hm hk i (by omega)
          rw [hw] at B
          refine Ev.bind B ?_
          have hpl0 : p ≤ l.length := by omega
          have F : Ev (fun k => split_divide.j1 k l ifs out (s : Int) (i : Int) (p : Int) false) (out ++ (clo (part l s i) ++ dv (rl ifs) [] (l.drop p))) := by
            refine Ev.step (fun k => ?_) (close p (by omega) hpl0)
            simp only [split_divide.j1]
            rw [if_neg (by simp)]
            simp only [if_pos (ige s), if_pos hsi, if_pos hil, if_pos ho, P]
          by_cases hg : (i : Int) > (s : Int)
          · have nil : ¬ (part l s i).length = 0 := by omega
            rcases Nat.lt_or_ge p l.length with hpl | hpl
            · have Rp := ev_role ifs l[p] (hk _ (List.getElem_mem hpl))
              simp only [if_pos hg, if_pos (ilt hpl), if_pos (ige p), rd66 l p hpl]
              refine Ev.bind Rp ?_
              by_cases hm2 : rl ifs l[p] = 2
              · have hh : hr (rl ifs) (skipN (rl ifs) (l.drop (i + 1))) = 2 := by rw [← hdp, hr_drop66 _ l p hpl]; exact hm2
                rw [if_pos hh, ← hdp, List.tail_drop]
                have A := always (p + 1 + wl (rl ifs) (l.drop (p + 1))) (by omega) (by have := wl_le (rl ifs) (l.drop (p + 1)); rw [List.length_drop] at this; omega)
                rw [drop_wl] at A
                have e : (rl ifs l[p] == 2) = true := by rw [hm2]; rfl
                simp only [e]
                refine Ev.step (f := fun k => (split_behind.f k l ((p + 1 : Nat) : Int) ifs).bind fun t => split_divide.l0 k l ifs (out ++ [part l s i]) t t) (fun k => ?_) (Ev.bind (ev_behind ifs l hm hk (p + 1) (by omega)) A)
                simp only [split_divide.j1]
                rw [if_pos trivial, wrapS (by omega)]
                simp only [if_pos hg, if_pos (ige s), if_pos hsi, if_pos hil, if_pos ho, P]
              · have hh : ¬ hr (rl ifs) (skipN (rl ifs) (l.drop (i + 1))) = 2 := by rw [← hdp, hr_drop66 _ l p hpl]; exact hm2
                rw [if_neg hh, ← hdp]
                have e : (rl ifs l[p] == 2) = false := beq_eq_false_iff_ne.2 hm2
                simp only [e]
                exact F
            · have hng : ¬ (p : Int) < (l.length : Int) := by omega
              simp only [if_pos hg, if_neg hng]
              have hh : ¬ hr (rl ifs) (skipN (rl ifs) (l.drop (i + 1))) = 2 := by rw [← hdp, List.drop_of_length_le hpl]; exact (by decide : ¬ (0 : Int) = 2)
              rw [if_neg hh, ← hdp]
              exact F
          · simp only [if_neg hg]
            have nil : part l s i = [] := List.eq_nil_of_length_eq_zero (by omega)
            by_cases hh : hr (rl ifs) (skipN (rl ifs) (l.drop (i + 1))) = 2
            · rw [if_pos hh]
              have c0 : clo ([] : List S66) = [] := rfl
              rw [nil, c0, List.nil_append] at F
              have hpl : p < l.length := by
                rcases Nat.lt_or_ge p l.length with h | h
                · exact h
                · rw [← hdp, List.drop_of_length_le h] at hh
                  exact absurd hh (by decide : ¬ (0 : Int) = 2)
              rw [← hdp, hr_drop66 _ l p hpl] at hh
              have e : dv (rl ifs) [] (l.drop p) = [] :: dv (rl ifs) [] (skipN (rl ifs) (l.drop p).tail) := by
                rw [dropc l p hpl, dv, if_neg (by omega), if_neg (by omega), if_pos hh]
                rfl
              rw [e, hdp] at F
              rw [nil]
              exact F
            · rw [if_neg hh, ← hdp]
              exact F
theorem ev_divide (ifs : ByteArray) (l : List S66) (hm : l.length ≤ 1000) (hk : ∀ e ∈ l, okE e) : Ev (fun k => split_divide.f k l ifs) (dv (rl ifs) [] l) := by
  have := ev_divide_l0 ifs l hm hk l.length 0 0 [] (by omega) (by omega) (by omega) (by simp)
  rw [part_self] at this
  exact this
end
section
open Go.RowKit Go.Proofs.YtbkhdgfehgfjpaaW.PrintWords Go.Proofs.YtbkhdgfehgfjpaaW.PrintLast
set_option linter.unusedVariables false
set_option linter.unusedSimpArgs false
section
variable {E E2 : Type} {g : E → E2} {ρ2 : E2 → Int} {ρ : E → Int} (h : ∀ e, ρ2 (g e) = ρ e)
include h
theorem skipN_map : ∀ l : List E, skipN ρ2 (l.map g) = (skipN ρ l).map g
  | [] => rfl
  | e :: t => by
    rw [List.map_cons, skipN, skipN, h e]
    split
    · exact skipN_map t
    · rfl
theorem hr_map (l : List E) : hr ρ2 (l.map g) = hr ρ l := by
  cases l with
  | nil => rfl
  | cons e t => exact h e
omit h in
theorem clo_map (f : List E) : clo (f.map g) = (clo f).map (List.map g) := by
  unfold clo
  rw [List.length_map]
  split <;> rfl
theorem dv_map : ∀ (n : Nat) (f l : List E), l.length ≤ n → dv ρ2 (f.map g) (l.map g) = (dv ρ f l).map (List.map g) := by
  intro n
  induction n with
  | zero =>
    intro f l hl
    obtain rfl := List.eq_nil_of_length_eq_zero (show l.length = 0 by omega)
    rw [List.map_nil, dv, dv, clo_map]
  | succ n ih =>
    intro f l hl
    cases l with
    | nil => rw [List.map_nil, dv, dv, clo_map]
    | cons e t =>
      rw [List.length_cons] at hl
      have k1 := skipN_len ρ t
      have k2 := skipN_len ρ (skipN ρ t).tail
      have k3 : (skipN ρ t).tail.length ≤ (skipN ρ t).length := by rw [List.length_tail]; omega
      have nil : ∀ u : List E, u.length ≤ n → dv ρ2 [] (u.map g) = (dv ρ [] u).map (List.map g) := fun u hu => ih [] u hu
      rw [List.map_cons, dv, dv, h e, skipN_map h, hr_map h, ← List.map_tail, skipN_map h]
      split
      · have := ih (f ++ [e]) t (by omega)
        rw [List.map_append] at this
        exact this
      · split
        · rw [List.map_append, clo_map, nil t (by omega)]
        · split
          · rw [List.map_cons, nil _ (by omega)]
          · split
            · rw [List.map_cons, nil _ (by omega)]
            · rw [List.map_append, clo_map, nil _ (by omega)]
end
theorem dv_withR (ifs : ByteArray) (l : List S66) : dv S69.f2 [] (l.map (withR ifs)) = (dv (rl ifs) [] l).map (List.map (withR ifs)) :=
  dv_map (g := withR ifs) (ρ2 := S69.f2) (ρ := rl ifs) (fun _ => rfl) l.length [] l (Nat.le_refl _)
end
section
open Go.RowKit Go.Proofs.YtbkhdgfehgfjpaaW.PrintWords Go.Proofs.YtbkhdgfehgfjpaaW.PrintLast
set_option linter.unusedVariables false
set_option linter.unusedSimpArgs false
theorem wrapM {n : Nat} (h : n > 0) (hm : n ≤ 9223372036854775807) : wrap64 ((n : Int) - 1) = ((n - 1 : Nat) : Int) := by unfold wrap64; omega
def txt66 (l : List S66) : Nat := (catL (l.map (·.f0))).length
theorem txt66_cons (x : S66) (l : List S66) : txt66 (x :: l) = x.f0.size + txt66 l := by
  unfold txt66
  rw [List.map_cons, catL, List.length_append, dl_len]
def txt69 (l : List S69) : Nat := (catL (l.map (·.f0))).length
theorem txt69_cons (x : S69) (l : List S69) : txt69 (x :: l) = x.f0.size + txt69 l := by
  unfold txt69
  rw [List.map_cons, catL, List.length_append, dl_len]
end
section
open Go.RowKit Go.Proofs.YtbkhdgfehgfjpaaW.PrintWords Go.Proofs.YtbkhdgfehgfjpaaW.PrintLast
set_option linter.unusedVariables false
set_option linter.unusedSimpArgs false
section
variable {E : Type} (ρ : E → Int)
theorem skipN_sub : ∀ l : List E, (skipN ρ l).Sublist l
  | [] => List.Sublist.refl _
  | e :: t => by
    rw [skipN]
    split
    · exact (skipN_sub t).cons e
    · exact List.Sublist.refl _
theorem clo_flat (f : List E) : (clo f).flatten = f := by
  unfold clo
  split
  · rename_i h
    rw [List.eq_nil_of_length_eq_zero h]
    rfl
  · simp
theorem dv_sub : ∀ (n : Nat) (f l : List E), l.length ≤ n → (dv ρ f l).flatten.Sublist (f ++ l) ∧ (dv ρ f l).length ≤ l.length + 1 := by
  intro n
  induction n with
  | zero =>
    intro f l hl
    obtain rfl := List.eq_nil_of_length_eq_zero (show l.length = 0 by omega)
    rw [dv, clo_flat, List.append_nil]
    refine ⟨List.Sublist.refl _, ?_⟩
    unfold clo
    split <;> simp
  | succ n ih =>
    intro f l hl
    cases l with
    | nil =>
      rw [dv, clo_flat, List.append_nil]
      refine ⟨List.Sublist.refl _, ?_⟩
      unfold clo
      split <;> simp
    | cons e t =>
      rw [List.length_cons] at hl ⊢
      have k1 := skipN_len ρ t
      have k2 := skipN_len ρ (skipN ρ t).tail
      have k3 : (skipN ρ t).tail.length ≤ (skipN ρ t).length := by rw [List.length_tail]; omega
      have cl : (clo f).length ≤ 1 := by unfold clo; split <;> simp
      have nx : ∀ u : List E, u.length ≤ t.length → u.Sublist t → (f ++ (dv ρ [] u).flatten).Sublist (f ++ e :: t) ∧ (dv ρ [] u).length ≤ t.length + 1 := by
        intro u hu hs
        obtain ⟨a, b⟩ := ih [] u (by omega)
        exact ⟨List.Sublist.append (List.Sublist.refl _) ((a.trans hs).cons e), by omega⟩
      have s1 := skipN_sub ρ t
      have s2 : (skipN ρ (skipN ρ t).tail).Sublist t := (skipN_sub ρ _).trans ((List.tail_sublist _).trans s1)
      rw [dv]
      split
      · obtain ⟨a, b⟩ := ih (f ++ [e]) t (by omega)
        rw [List.append_assoc] at a
        exact ⟨a, by omega⟩
      · split
        · obtain ⟨a, b⟩ := nx t (Nat.le_refl _) (List.Sublist.refl _)
          rw [List.flatten_append, clo_flat, List.length_append]
          exact ⟨a, by omega⟩
        · split
          · obtain ⟨a, b⟩ := nx _ k1 s1
            rw [List.flatten_cons, List.length_cons]
            exact ⟨a, by omega⟩
          · split
            · obtain ⟨a, b⟩ := nx _ (by omega) s2
              rw [List.flatten_cons, List.length_cons]
              exact ⟨a, by omega⟩
            · obtain ⟨a, b⟩ := nx _ k1 s1
              rw [List.flatten_append, clo_flat, List.length_append]
              exact ⟨a, by omega⟩
end
end
section
open Go.RowKit Go.Proofs.YtbkhdgfehgfjpaaW.PrintWords Go.Proofs.YtbkhdgfehgfjpaaW.PrintLast
set_option linter.unusedVariables false
set_option linter.unusedSimpArgs false
theorem elR_ok (b : Bool) (x : S38) : ∀ e ∈ elR b x, okE e := by
  intro e he h2
  unfold elR at he
  split at he
  · split at he
    · rw [List.mem_singleton] at he; rw [he] at h2; exact absurd h2 (by decide)
    · cases he
  · split at he
    · split at he
      · rw [List.mem_singleton] at he; rw [he] at h2; exact absurd h2 (by decide)
      · obtain ⟨c, _, rfl⟩ := List.mem_map.1 he
        exact ⟨c, rfl⟩
    · cases he
theorem elF_ok (b : Bool) : ∀ l : List S38, ∀ e ∈ elF b l, okE e
  | [] => fun e he => by cases he
  | x :: t => fun e he => by
    rw [elF, List.mem_append] at he
    rcases he with he | he
    · exact elR_ok b x e he
    · exact elF_ok b t e he
theorem txt66_app (a b : List S66) : txt66 (a ++ b) = txt66 a + txt66 b := by
  unfold txt66
  rw [List.map_append, catL_app, List.length_append]
theorem catL_one (cls : Int) : ∀ cs : List UInt8, catL ((cs.map (oneE cls)).map (·.f0)) = cs
  | [] => rfl
  | c :: t => by
    rw [List.map_cons, List.map_cons, catL, catL_one cls t]
    rfl
theorem elR_txt (b : Bool) (x : S38) : txt66 (elR b x) ≤ x.f0.size := by
  unfold elR
  split
  · split
    · exact Nat.zero_le _
    · exact Nat.zero_le _
  · split
    · split
      · exact Nat.zero_le _
      · unfold txt66; rw [catL_one, dl_len]; exact Nat.le_refl _
    · exact Nat.zero_le _
theorem elF_txt (b : Bool) : ∀ l : List S38, txt66 (elF b l) ≤ tot l
  | [] => Nat.le_refl _
  | x :: t => by
    have ih := elF_txt b t
    have h := elR_txt b x
    rw [elF, txt66_app, tot_cons]
    omega
theorem txt66_sub {a b : List S66} (h : a.Sublist b) : txt66 a ≤ txt66 b := by
  induction h with
  | slnil => exact Nat.le_refl _
  | cons x h ih => rw [txt66_cons]; omega
  | cons_cons x h ih => rw [txt66_cons, txt66_cons]; omega
theorem mem_flat {E : Type} : ∀ {L : List (List E)} {x : List E}, x ∈ L → x.Sublist L.flatten
  | y :: L, x, h => by
    rw [List.flatten_cons]
    rcases List.mem_cons.1 h with h | h
    · rw [h]; exact List.sublist_append_left _ _
    · exact (mem_flat h).trans (List.sublist_append_right _ _)
section
variable (l : List S38) (ifs : ByteArray) (h1 : l.length ≤ 40) (h2 : tot l ≤ 300)
include h1 h2
end
end
section
open Go.RowKit Go.Proofs.YtbkhdgfehgfjpaaW.PrintWords Go.Proofs.YtbkhdgfehgfjpaaW.PrintLast
set_option linter.unusedVariables false
set_option linter.unusedSimpArgs false
section
variable {E : Type} (ρ : E → Int)
theorem dv_nil (f : List E) : dv ρ f [] = clo f := by rw [dv]
end
end
section
open Go.RowKit Go.Proofs.YtbkhdgfehgfjpaaW.PrintWords Go.Proofs.YtbkhdgfehgfjpaaW.PrintLast
set_option linter.unusedVariables false
set_option linter.unusedSimpArgs false
section
variable {E F : Type} (ρ : E → Int)
/-- Ordinary elements, told as whites. -/
def ordR (e : E) : Int := if ρ e = 0 then 1 else 0
/-- How many ordinary elements lead. -/
def ow (l : List E) : Nat := wl (ordR ρ) l
theorem ow_le (l : List E) : ow ρ l ≤ l.length := wl_le _ l
theorem ow_cons (e : E) (t : List E) : ow ρ (e :: t) = if ρ e = 0 then ow ρ t + 1 else 0 := by
  unfold ow
  rw [wl]
  unfold ordR
  by_cases h : ρ e = 0
  · rw [if_pos h, if_pos h, if_pos rfl]
  · rw [if_neg h, if_neg h, if_neg (by decide)]
/-- What stays when trailing whites are struck. -/
def trimN : Nat → List E → List E
  | 0, l => l
  | n + 1, l => match l.getLast? with
    | none => l
    | some e => if ρ e = 1 then trimN n l.dropLast else l
def trimE (l : List E) : List E := trimN ρ l.length l
def next (r : List E) : List E := if hr ρ (skipN ρ r) = 2 then skipN ρ (skipN ρ r).tail else skipN ρ r
def rdR : Nat → List E → List (List E) × List E
  | 0, r => ([], r)
  | m + 1, r => (r.take (ow ρ r) :: (rdR m (next ρ (r.drop (ow ρ r)))).1, (rdR m (next ρ (r.drop (ow ρ r)))).2)
def lastE (r : List E) : List E := if (dv ρ [] r).length = 1 then (dv ρ [] r).headD [] else trimE ρ r
def rdF (m : Nat) (l : List E) : List (List E) := (rdR ρ m (skipN ρ l)).1 ++ [lastE ρ (rdR ρ m (skipN ρ l)).2]
theorem rdR_len : ∀ (m : Nat) (r : List E), (rdR ρ m r).1.length = m
  | 0, r => rfl
  | m + 1, r => by rw [rdR, List.length_cons, rdR_len m]
/-- Whites behind don't matter to a division. -/
theorem skipN_white : ∀ (W : List E), (∀ e ∈ W, ρ e = 1) → skipN ρ W = []
  | [], _ => rfl
  | e :: t, h => by rw [skipN, if_pos (h e (by simp)), skipN_white t (fun x hx => h x (List.mem_cons_of_mem _ hx))]
theorem skipN_behind (W : List E) (h : ∀ e ∈ W, ρ e = 1) : ∀ t : List E, skipN ρ (t ++ W) = if skipN ρ t = [] then [] else skipN ρ t ++ W
  | [] => by rw [List.nil_append, skipN_white ρ W h]; rfl
  | e :: t => by
    rw [List.cons_append, skipN]
    by_cases h1 : ρ e = 1
    · rw [if_pos h1, skipN_behind W h t]
      have : skipN ρ (e :: t) = skipN ρ t := by rw [skipN, if_pos h1]
      rw [this]
    · rw [if_neg h1]
      have : skipN ρ (e :: t) = e :: t := by rw [skipN, if_neg h1]
      rw [this, if_neg (by simp)]
      rfl
theorem dv_white (W : List E) (h : ∀ e ∈ W, ρ e = 1) (f : List E) : dv ρ f W = clo f := by
  cases W with
  | nil => rw [dv]
  | cons e t =>
    have h1 := h e (by simp)
    rw [dv, if_neg (by omega), if_neg (by omega), if_neg (by omega), skipN_white ρ t (fun x hx => h x (List.mem_cons_of_mem _ hx)), if_neg (by show ¬ (0 : Int) = 2; decide), dv_nil]
    have : clo ([] : List E) = [] := rfl
    rw [this, List.append_nil]
theorem dv_trim (W : List E) (h : ∀ e ∈ W, ρ e = 1) : ∀ (n : Nat) (T f : List E), T.length ≤ n → dv ρ f (T ++ W) = dv ρ f T := by
  intro n
  induction n with
  | zero =>
    intro T f hl
    obtain rfl := List.eq_nil_of_length_eq_zero (show T.length = 0 by omega)
    rw [List.nil_append, dv_white ρ W h, dv_nil]
  | succ n ih =>
    intro T f hl
    cases T with
    | nil => rw [List.nil_append, dv_white ρ W h, dv_nil]
    | cons a t =>
      rw [List.length_cons] at hl
      have k1 := skipN_len ρ t
      have sk : ∀ u : List E, u.length ≤ n → dv ρ [] (skipN ρ (u ++ W)) = dv ρ [] (skipN ρ u) := by
        intro u hu
        have k := skipN_len ρ u
        rw [skipN_behind ρ W h u]
        split
        · rename_i e
          rw [e]
        · exact ih _ [] (by omega)
      rw [List.cons_append, dv]
      conv => rhs; rw [dv]
      by_cases c0 : ρ a = 0
      · rw [if_pos c0, if_pos c0]
        exact ih t _ (by omega)
      · rw [if_neg c0, if_neg c0]
        by_cases c3 : ρ a = 3
        · rw [if_pos c3, if_pos c3, ih t [] (by omega)]
        · rw [if_neg c3, if_neg c3]
          by_cases c2 : ρ a = 2
          · rw [if_pos c2, if_pos c2, sk t (by omega)]
          · rw [if_neg c2, if_neg c2]
            have hb := skipN_behind ρ W h t
            obtain ⟨s, hs⟩ : ∃ s, skipN ρ t = s := ⟨_, rfl⟩
            rw [hs] at hb k1 ⊢
            cases s with
            | nil =>
              rw [if_pos rfl] at hb
              rw [hb]
            | cons x s =>
              rw [if_neg (by simp)] at hb
              rw [hb]
              have e1 : hr ρ (x :: s ++ W) = hr ρ (x :: s) := rfl
              rw [e1]
              rw [List.length_cons] at k1
              by_cases hh : hr ρ (x :: s) = 2
              · rw [if_pos hh, if_pos hh]
                show f :: dv ρ [] (skipN ρ (s ++ W)) = f :: dv ρ [] (skipN ρ s)
                rw [sk s (by omega)]
              · rw [if_neg hh, if_neg hh, ih (x :: s) [] (by rw [List.length_cons]; omega)]
theorem trimN_split : ∀ (n : Nat) (l : List E), ∃ W, l = trimN ρ n l ++ W ∧ ∀ e ∈ W, ρ e = 1
  | 0, l => ⟨[], by rw [trimN, List.append_nil], fun e he => by cases he⟩
  | n + 1, l => by
    rw [trimN]
    cases hg : l.getLast? with
    | none => exact ⟨[], by simp, fun e he => by cases he⟩
    | some e =>
      dsimp only
      by_cases h1 : ρ e = 1
      · rw [if_pos h1]
        obtain ⟨W, a, b⟩ := trimN_split n l.dropLast
        have hl : l = l.dropLast ++ [e] := by
          rw [List.getLast?_eq_some_iff] at hg
          obtain ⟨u, rfl⟩ := hg
          simp
        refine ⟨W ++ [e], ?_, ?_⟩
        · rw [← List.append_assoc, ← a]
          exact hl
        · intro x hx
          rw [List.mem_append, List.mem_singleton] at hx
          rcases hx with hx | hx
          · exact b x hx
          · rw [hx]; exact h1
      · rw [if_neg h1]
        exact ⟨[], by simp, fun e he => by cases he⟩
theorem dv_trimE (l : List E) : dv ρ [] (trimE ρ l) = dv ρ [] l := by
  obtain ⟨W, a, b⟩ := trimN_split ρ l.length l
  have := dv_trim ρ W b _ (trimE ρ l) [] (Nat.le_refl _)
  unfold trimE at this ⊢
  rw [← a] at this
  exact this.symm
theorem trimE_len (l : List E) : (trimE ρ l).length ≤ l.length := by
  obtain ⟨W, a, _⟩ := trimN_split ρ l.length l
  have := congrArg List.length a
  rw [List.length_append] at this
  unfold trimE
  omega
variable {ρ} {ρ2 : F → Int} {g : E → F} (hg : ∀ e, ρ2 (g e) = ρ e)
include hg
theorem ow_map : ∀ l : List E, ow ρ2 (l.map g) = ow ρ l
  | [] => rfl
  | e :: t => by rw [List.map_cons, ow_cons, ow_cons, hg, ow_map t]
theorem trimN_map : ∀ (n : Nat) (l : List E), trimN ρ2 n (l.map g) = (trimN ρ n l).map g
  | 0, l => rfl
  | n + 1, l => by
    rw [trimN, trimN, List.getLast?_map]
    cases hl : l.getLast? with
    | none => rfl
    | some e =>
      dsimp only [Option.map_some]
      rw [hg]
      split
      · rw [← List.map_dropLast, trimN_map n]
      · rfl
theorem skipN_map2 : ∀ l : List E, skipN ρ2 (l.map g) = (skipN ρ l).map g
  | [] => rfl
  | e :: t => by
    rw [List.map_cons, skipN, skipN, hg]
    split
    · exact skipN_map2 t
    · rfl
theorem hr_map2 (l : List E) : hr ρ2 (l.map g) = hr ρ l := by
  cases l with
  | nil => rfl
  | cons e t => exact hg e
theorem next_map (l : List E) : next ρ2 (l.map g) = (next ρ l).map g := by
  unfold next
  rw [skipN_map2 hg, hr_map2 hg]
  split
  · rw [← List.map_tail, skipN_map2 hg]
  · rfl
theorem rdR_map : ∀ (m : Nat) (l : List E), rdR ρ2 m (l.map g) = ((rdR ρ m l).1.map (List.map g), (rdR ρ m l).2.map g)
  | 0, l => rfl
  | m + 1, l => by
    have e : (l.map g).drop (ow ρ l) = (l.drop (ow ρ l)).map g := by rw [List.map_drop]
    rw [rdR, rdR, ow_map hg, e, next_map hg, rdR_map m, List.map_cons, List.map_take]
end
theorem rdF_withR (ifs : ByteArray) (m : Nat) (l : List S66) : rdF S69.f2 m (l.map (withR ifs)) = (rdF (rl ifs) m l).map (List.map (withR ifs)) := by
  have hg : ∀ e : S66, S69.f2 (withR ifs e) = rl ifs e := fun e => rfl
  unfold rdF
  rw [skipN_map2 hg, rdR_map hg, List.map_append, List.map_singleton]
  dsimp only
  congr 2
  unfold lastE trimE
  rw [dv_withR, List.length_map, List.length_map]
  split
  · cases dv (rl ifs) [] (rdR (rl ifs) m (skipN (rl ifs) l)).2 with
    | nil => rfl
    | cons x t => rfl
  · rw [trimN_map hg]
end
section
open Go.RowKit Go.Proofs.YtbkhdgfehgfjpaaW.PrintWords Go.Proofs.YtbkhdgfehgfjpaaW.PrintLast
set_option linter.unusedVariables false
set_option linter.unusedSimpArgs false
/-- The text of elements. -/
def txE (l : List S66) : ByteArray := ⟨(catL (l.map (·.f0))).toArray⟩
theorem join_eq (l : List S66) (h : txt66 l ≤ 1000) (hl : l.length ≤ 1000) : split_join.f l = some (txE l) := by
  unfold split_join.f
  unfold txt66 at h
  rw [if_pos (by omega), if_pos (by omega)]
  rfl
theorem txt66_sub2 {a b : List S66} (h : a.Sublist b) (hb : txt66 b ≤ 1000) : txt66 a ≤ 1000 := Nat.le_trans (txt66_sub h) hb
theorem lastIdx (r : List S66) (h : r.length > 0) : rd_T66 r ((r.length - 1 : Nat) : Int) = r[r.length - 1]'(by omega) := rd66 r _ (by omega)
theorem trimN_step (ρ : S66 → Int) (n : Nat) (r : List S66) (h : r.length > 0) : trimN ρ (n + 1) r = if ρ (r[r.length - 1]'(by omega)) = 1 then trimN ρ n (r.take (r.length - 1)) else r := by
  rw [trimN, List.getLast?_eq_getElem?, List.getElem?_eq_getElem (by omega)]
  dsimp only
  rw [List.dropLast_eq_take]
theorem ev_rd_j4 (ifs : ByteArray) (T : List S66) (hm : T.length ≤ 1000) (ht : txt66 T ≤ 1000) (hk : ∀ e ∈ T, okE e) (out : List ByteArray) (ho : out.length ≤ 1000) (R : ByteArray) (hR : (if (dv (rl ifs) [] T).length = 1 then txE ((dv (rl ifs) [] T).headD []) else txE T) = R) :
    Ev (fun k => split_Read.j4 k ifs out T) (out ++ [R]) := by
  have hob : out.length < 8796093022208 := by omega
  have D := ev_divide ifs T hm hk
  have S := (dv_sub (rl ifs) _ [] T (Nat.le_refl _)).1
  rw [List.nil_append] at S
  refine Ev.step (fun k => by simp only [split_Read.j4]; rfl) (Ev.bind D ?_)
  by_cases h1 : (dv (rl ifs) [] T).length = 1
  · rw [if_pos h1] at hR
    have c1 : ((dv (rl ifs) [] T).length : Int) = 1 := by omega
    have c2 : (0 : Int) < ((dv (rl ifs) [] T).length : Int) := by omega
    obtain ⟨f, hf⟩ : ∃ f, dv (rl ifs) [] T = [f] := List.length_eq_one_iff.1 h1
    have sf : f.Sublist T := by
      have := (mem_flat (show f ∈ dv (rl ifs) [] T by rw [hf]; simp)).trans S
      exact this
    have J := join_eq f (txt66_sub2 sf ht) (Nat.le_trans sf.length_le hm)
    have r0 : rd_L5 (dv (rl ifs) [] T) 0 = f := by rw [hf]; rfl
    have e0 : (dv (rl ifs) [] T).headD [] = f := by rw [hf]; rfl
    rw [e0] at hR
    subst hR
    simp only [if_pos c1, if_pos c2, r0, J, Option.bind_some, if_pos hob]
    exact Ev.now _
  · rw [if_neg h1] at hR
    have c1 : ¬ ((dv (rl ifs) [] T).length : Int) = 1 := by omega
    have J := join_eq T ht hm
    subst hR
    simp only [if_neg c1, J, Option.bind_some, if_pos hob]
    exact Ev.now _
theorem ev_rd_l2 (ifs : ByteArray) (out : List ByteArray) (ho : out.length ≤ 1000) (R : ByteArray) : ∀ (n : Nat) (r : List S66), r.length = n → r.length ≤ 1000 → (∀ e ∈ r, okE e) → (Ev (fun k => split_Read.j4 k ifs out (trimN (rl ifs) n r)) (out ++ [R])) → Ev (fun k => split_Read.l2 k ifs out r) (out ++ [R])
  | 0, r, hn, hm, hk, h => by
    have c : ¬ (r.length : Int) > 0 := by omega
    refine Ev.step (fun k => ?_) h
    simp only [split_Read.l2]
    rw [if_neg c]
    rfl
  | n + 1, r, hn, hm, hk, h => by
    have c : (r.length : Int) > 0 := by omega
    have hp : r.length > 0 := by omega
    have c2 : ((r.length - 1 : Nat) : Int) < (r.length : Int) := by omega
    have c3 : ((r.length - 1 : Nat) : Int) ≤ (r.length : Int) := by omega
    have W := Aside0.mk (wrapM hp (by omega))
    rw [trimN_step _ n r hp] at h
    have K := ev_role ifs (r[r.length - 1]'(by omega)) (hk _ (List.getElem_mem _))
    refine Ev.step (f := fun k => (split_role.f k (r[r.length - 1]'(by omega)).f0 (r[r.length - 1]'(by omega)).f1 ifs).bind fun t => if t = 1 then split_Read.l2 k ifs out (r.take (r.length - 1)) else split_Read.j4 k ifs out r) (fun k => ?_) (Ev.bind K ?_)
    · simp only [split_Read.l2]
      rw [if_pos c, W.out, if_pos (ige _), if_pos c2, lastIdx r hp]
      simp only [if_pos c3, Int.toNat_natCast]
    · by_cases h1 : rl ifs (r[r.length - 1]'(by omega)) = 1
      · rw [if_pos h1] at h
        simp only [if_pos h1]
        exact ev_rd_l2 ifs out ho R n (r.take (r.length - 1)) (by rw [List.length_take]; omega) (by rw [List.length_take]; omega) (fun e he => hk e (List.mem_of_mem_take he)) h
      · rw [if_neg h1] at h
        simp only [if_neg h1]
        exact h
theorem ev_rd_l1 (ifs : ByteArray) (n : Int) (l : List S66) (hm : l.length ≤ 1000) (hk : ∀ e ∈ l, okE e) (out : List ByteArray) (x10 : Int) (s : Int) (R : List ByteArray) : ∀ (d i : Nat), l.length - i = d → i ≤ l.length → Ev (fun k => split_Read.j2 k ifs n l ((i + ow (rl ifs) (l.drop i) : Nat) : Int) out x10 s) R → Ev (fun k => split_Read.l1 k ifs n l (i : Int) out x10 s) R := by
  intro d
  induction d with
  | zero =>
    intro i h1 h2 h
    rw [List.drop_of_length_le (by omega)] at h
    refine Ev.step (fun k => ?_) h
    simp only [split_Read.l1]
    rw [if_neg (by omega)]
    rfl
  | succ d ih =>
    intro i h1 h2 h
    have hi : i < l.length := by omega
    rw [dropc l i hi, ow_cons] at h
    have K := ev_role ifs l[i] (hk _ (List.getElem_mem hi))
    have W := Aside0.mk (wrapS (show i < 9223372036854775807 by omega))
    refine Ev.step (f := fun k => (split_role.f k l[i].f0 l[i].f1 ifs).bind fun t => if t = 0 then split_Read.l1 k ifs n l ((i + 1 : Nat) : Int) out x10 s else split_Read.j2 k ifs n l (i : Int) out x10 s) (fun k => ?_) (Ev.bind K ?_)
    · simp only [split_Read.l1]
      rw [if_pos (ilt hi), if_pos (ige i), rd66 l i hi]
      simp only [W.out]
    · by_cases h0 : rl ifs l[i] = 0
      · rw [if_pos h0, show i + (ow (rl ifs) (l.drop (i + 1)) + 1) = i + 1 + ow (rl ifs) (l.drop (i + 1)) by omega] at h
        simp only [if_pos h0]
        exact ih (i + 1) (by omega) (by omega) h
      · rw [if_neg h0] at h
        simp only [if_neg h0]
        exact h
theorem ev_rd_l0 (ifs : ByteArray) (n : Nat) (hn : n ≤ 100) (hn1 : 1 ≤ n) (l : List S66) (hm : l.length ≤ 1000) (ht : txt66 l ≤ 1000) (hk : ∀ e ∈ l, okE e) : ∀ (m i : Nat) (out : List ByteArray), i ≤ l.length → m + 1 ≤ n → out.length ≤ n - m →
    Ev (fun k => split_Read.l0 k ifs (n : Int) l (i : Int) out ((n - m : Nat) : Int)) (out ++ ((rdR (rl ifs) m (l.drop i)).1 ++ [lastE (rl ifs) (rdR (rl ifs) m (l.drop i)).2]).map txE) := by
  intro m
  induction m with
  | zero =>
    intro i out hi h1 h2
    rw [rdR]
    dsimp only
    rw [List.nil_append, List.map_singleton]
    have hr : (l.drop i).length ≤ 1000 := by rw [List.length_drop]; omega
    have hk2 : ∀ e ∈ l.drop i, okE e := fun e he => hk e (List.mem_of_mem_drop he)
    have c1 : ¬ ((n - 0 : Nat) : Int) < (n : Int) := by omega
    have c2 : ¬ (n : Int) < 1 := by omega
    have tl := trimE_len (rl ifs) (l.drop i)
    obtain ⟨W, a, _⟩ := trimN_split (rl ifs) (l.drop i).length (l.drop i)
    have sub : (trimE (rl ifs) (l.drop i)).Sublist l := by
      have s1 : (trimE (rl ifs) (l.drop i)).Sublist (l.drop i) := by
        conv => rhs; rw [a]
        exact List.sublist_append_left _ _
      exact s1.trans (List.drop_sublist _ _)
    have J := ev_rd_j4 ifs (trimE (rl ifs) (l.drop i)) (by omega) (txt66_sub2 sub ht) (fun e he => hk e (sub.subset he)) out (by omega) (txE (lastE (rl ifs) (l.drop i))) (by
      unfold lastE
      rw [dv_trimE]
      split <;> rfl)
    refine Ev.step (fun k => ?_) (ev_rd_l2 ifs out (by omega) _ _ (l.drop i) rfl hr hk2 J)
    simp only [split_Read.l0]
    rw [if_neg c1, if_neg c2, if_pos (ige i), if_pos (by omega), Int.toNat_natCast]
  | succ m ih =>
    intro i out hi h1 h2
    rw [rdR]
    dsimp only
    obtain ⟨e, he⟩ : ∃ e, i + ow (rl ifs) (l.drop i) = e := ⟨_, rfl⟩
    have hw := ow_le (rl ifs) (l.drop i)
    rw [List.length_drop] at hw
    have hie : i ≤ e := by omega
    have hel : e ≤ l.length := by omega
    have hd : (l.drop i).drop (ow (rl ifs) (l.drop i)) = l.drop e := by rw [List.drop_drop, he]
    have ht2 : (l.take e).drop i = (l.drop i).take (ow (rl ifs) (l.drop i)) := by rw [List.drop_take]; congr 1; omega
    rw [hd]
    have hs2 : ((l.drop i).take (ow (rl ifs) (l.drop i))).Sublist l := (List.take_sublist _ _).trans (List.drop_sublist _ _)
    obtain ⟨o, hoo⟩ : ∃ o, (l.drop i).take (ow (rl ifs) (l.drop i)) = o := ⟨_, rfl⟩
    rw [hoo] at ht2 hs2 ⊢
    have J := join_eq o (txt66_sub2 hs2 ht) (Nat.le_trans hs2.length_le hm)
    have B := ev_behind ifs l hm hk e hel
    obtain ⟨p, hp⟩ : ∃ p, e + wl (rl ifs) (l.drop e) = p := ⟨_, rfl⟩
    have hwl := wl_le (rl ifs) (l.drop e)
    rw [List.length_drop] at hwl
    have hpl : p ≤ l.length := by omega
    have hdp : l.drop p = skipN (rl ifs) (l.drop e) := by rw [← hp, drop_wl]
    rw [hp] at B
    have hb : out.length < 8796093022208 := by omega
    have NX : next (rl ifs) (l.drop e) = if hr (rl ifs) (l.drop p) = 2 then skipN (rl ifs) (l.drop (p + 1)) else l.drop p := by
      unfold next
      rw [← hdp, List.tail_drop]
    have W2 : Aside0 (wrap64 (((n - (m + 1) : Nat) : Int) + 1) = ((n - m : Nat) : Int)) := ⟨by rw [wrapS (by omega)]; congr 1; omega⟩
    have go : ∀ q : Nat, q ≤ l.length → l.drop q = next (rl ifs) (l.drop e) → Ev (fun k => split_Read.l0 k ifs (n : Int) l (q : Int) (out ++ [txE o]) ((n - m : Nat) : Int)) (out ++ ((o :: (rdR (rl ifs) m (next (rl ifs) (l.drop e))).1) ++ [lastE (rl ifs) (rdR (rl ifs) m (next (rl ifs) (l.drop e))).2]).map txE) := by
      intro q hq hqd
      have := ih q (out ++ [txE o]) hq (by omega) (by rw [List.length_append]; simp; omega)
      rw [hqd, List.append_assoc] at this
      exact this
    have c1 : ((n - (m + 1) : Nat) : Int) < (n : Int) := by omega
    refine Ev.step (f := fun k => split_Read.l1 k ifs (n : Int) l (i : Int) out ((n - (m + 1) : Nat) : Int) (i : Int)) (fun k => ?_) ?_
    · simp only [split_Read.l0]
      rw [if_pos c1]
    refine ev_rd_l1 ifs n l hm hk out _ _ _ _ i rfl hi ?_
    rw [he]
    refine Ev.step (f := fun k => (split_behind.f k l (e : Int) ifs).bind fun t206 => (if t206 < (l.length : Int) then (if 0 ≤ t206 then ((split_role.f k ((rd_T66 l t206).f0) ((rd_T66 l t206).f1) ifs).bind fun t208 => (if t208 = 2 then ((split_behind.f k l (wrap64 (t206 + 1)) ifs).bind fun t209 => (split_Read.l0 k ifs (n : Int) l t209 (out ++ [txE o]) ((n - m : Nat) : Int))) else (split_Read.l0 k ifs (n : Int) l t206 (out ++ [txE o]) ((n - m : Nat) : Int)))) else (none)) else (split_Read.l0 k ifs (n : Int) l t206 (out ++ [txE o]) ((n - m : Nat) : Int)))) (fun k => ?_) (Ev.bind B ?_)
    · simp only [split_Read.j2]
      rw [if_pos (ige i), if_pos (show (i : Int) ≤ (e : Int) by omega), if_pos (show (e : Int) ≤ (l.length : Int) by omega), Int.toNat_natCast, Int.toNat_natCast, ht2, J, Option.bind_some, if_pos hb, Option.bind_some, W2.out]
    · rcases Nat.lt_or_ge p l.length with hlt | hge
      · have K := ev_role ifs l[p] (hk _ (List.getElem_mem hlt))
        simp only [if_pos (ilt hlt), if_pos (ige p), rd66 l p hlt]
        refine Ev.bind K ?_
        rw [hr_drop66 (rl ifs) l p hlt] at NX
        by_cases h2r : rl ifs l[p] = 2
        · rw [if_pos h2r] at NX
          have B2 := ev_behind ifs l hm hk (p + 1) (by omega)
          have W3 := Aside0.mk (wrapS (show p < 9223372036854775807 by omega))
          simp only [if_pos h2r, W3.out]
          refine Ev.bind B2 ?_
          have hw2 := wl_le (rl ifs) (l.drop (p + 1))
          rw [List.length_drop] at hw2
          exact go _ (by omega) (by rw [NX, drop_wl])
        · rw [if_neg h2r] at NX
          simp only [if_neg h2r]
          exact go p hpl NX.symm
      · have cn : ¬ (p : Int) < (l.length : Int) := by omega
        simp only [if_neg cn]
        refine go p hpl ?_
        rw [NX, List.drop_of_length_le hge, if_neg (by show ¬ (0 : Int) = 2; decide)]
/-- What Read answers for at least one variable. -/
def readF (l : List S38) (ifs : ByteArray) (m : Nat) : List ByteArray := (rdF (rl ifs) m (elF false l)).map txE
theorem ev_sRead (l : List S38) (ifs : ByteArray) (h1 : l.length ≤ 40) (h2 : tot l ≤ 300) (n : Nat) (hn : n ≤ 100) (hn1 : 1 ≤ n) : Ev (fun k => split_Read.f k l ifs (n : Int)) (readF l ifs (n - 1)) := by
  have a := elF_len false l
  have b := elF_txt false l
  have hk := elF_ok false l
  unfold split_Read.f
  refine Ev.bind (ev_elements false l (by omega) (by omega)) ?_
  have B := ev_behind ifs (elF false l) (by omega) hk 0 (by omega)
  rw [List.drop_zero, Nat.zero_add] at B
  refine Ev.bind B ?_
  have hw := wl_le (rl ifs) (elF false l)
  have := ev_rd_l0 ifs n hn hn1 (elF false l) (by omega) (by omega) hk (n - 1) (wl (rl ifs) (elF false l)) [] hw (by omega) (by simp)
  rw [wl_drop, show n - (n - 1) = 1 by omega] at this
  exact this
theorem ev_sRead_none (l : List S38) (ifs : ByteArray) (h1 : l.length ≤ 40) (h2 : tot l ≤ 300) (n : Int) (hn : n < 1) : Ev (fun k => split_Read.f k l ifs n) [] := by
  have a := elF_len false l
  have b := elF_txt false l
  have hk := elF_ok false l
  unfold split_Read.f
  refine Ev.bind (ev_elements false l (by omega) (by omega)) ?_
  have B := ev_behind ifs (elF false l) (by omega) hk 0 (by omega)
  refine Ev.bind B ?_
  have c1 : ¬ (1 : Int) < n := by omega
  refine Ev.step (f := fun _ => some []) (fun k => ?_) (Ev.now _)
  simp only [split_Read.l0]
  rw [if_neg c1, if_pos hn]
end
section
open Go.RowKit Go.Proofs.YtbkhdgfehgfjpaaW.PrintWords Go.Proofs.YtbkhdgfehgfjpaaW.PrintLast
set_option linter.unusedVariables false
set_option linter.unusedSimpArgs false
def txE9 (l : List S69) : ByteArray := ⟨(catL (l.map (·.f0))).toArray⟩
theorem ev_text_l0 (l : List S69) (hm : l.length ≤ 1000) : ∀ (d i : Nat) (acc : List UInt8), l.length - i = d → i ≤ l.length → acc.length + txt69 (l.drop i) ≤ 5000 → Ev (fun k => jobshellref18_text.l0 k l ⟨acc.toArray⟩ (i : Int)) ⟨(acc ++ catL ((l.drop i).map (·.f0))).toArray⟩ := by
  intro d
  induction d with
  | zero =>
    intro i acc h1 h2 h3
    rw [List.drop_of_length_le (by omega), List.map_nil, catL, List.append_nil]
    refine Ev.step (f := fun _ => some ⟨acc.toArray⟩) (fun k => ?_) (Ev.now _)
    simp only [jobshellref18_text.l0]
    rw [if_neg (by omega)]
  | succ d ih =>
    intro i acc h1 h2 h3
    have hi : i < l.length := by omega
    rw [dropc l i hi] at h3 ⊢
    rw [txt69_cons] at h3
    rw [List.map_cons, catL, ← List.append_assoc]
    have room : (⟨acc.toArray⟩ : ByteArray).size + l[i].f0.size ≤ 9223372036854775807 := by rw [size_mk]; omega
    refine Ev.step (fun k => ?_) (ih (i + 1) (acc ++ l[i].f0.data.toList) (by omega) (by omega) (by rw [List.length_append, dl_len]; omega))
    simp only [jobshellref18_text.l0]
    rw [if_pos (ilt hi), if_pos (ige i), rd69 l i hi, if_pos room, wrapS (by omega), app_ba]
theorem ev_text (l : List S69) (hm : l.length ≤ 1000) (ht : txt69 l ≤ 1000) : Ev (fun k => jobshellref18_text.f k l) (txE9 l) :=
  ev_text_l0 l hm _ 0 [] rfl (by omega) (by rw [List.drop_zero]; simp; omega)
theorem txt69_sub {a b : List S69} (h : a.Sublist b) : txt69 a ≤ txt69 b := by
  induction h with
  | slnil => exact Nat.le_refl _
  | cons x h ih => rw [txt69_cons]; omega
  | cons_cons x h ih => rw [txt69_cons, txt69_cons]; omega
theorem lastIdx9 (r : List S69) (h : r.length > 0) : rd_T69 r ((r.length - 1 : Nat) : Int) = r[r.length - 1]'(by omega) := rd69 r _ (by omega)
theorem trimN_step9 (ρ : S69 → Int) (n : Nat) (r : List S69) (h : r.length > 0) : trimN ρ (n + 1) r = if ρ (r[r.length - 1]'(by omega)) = 1 then trimN ρ n (r.take (r.length - 1)) else r := by
  rw [trimN, List.getLast?_eq_getElem?, List.getElem?_eq_getElem (by omega)]
  dsimp only
  rw [List.dropLast_eq_take]
theorem ev_rr_l3 (out : List ByteArray) (ho : out.length ≤ 1000) : ∀ (n : Nat) (r : List S69), r.length = n → r.length ≤ 1000 → txt69 r ≤ 1000 → Ev (fun k => jobshellref18_Read.l3 k out r) (out ++ [txE9 (trimN S69.f2 n r)])
  | 0, r, hn, hm, ht => by
    have c : ¬ (r.length : Int) > 0 := by omega
    have hob : out.length < 8796093022208 := by omega
    refine Ev.step (fun k => by simp only [jobshellref18_Read.l3]; rw [if_neg c]) (Ev.bind (ev_text r hm ht) ?_)
    rw [if_pos hob]
    exact Ev.now _
  | n + 1, r, hn, hm, ht => by
    have c : (r.length : Int) > 0 := by omega
    have hp : r.length > 0 := by omega
    have hob : out.length < 8796093022208 := by omega
    have c2 : ((r.length - 1 : Nat) : Int) < (r.length : Int) := by omega
    have c3 : ((r.length - 1 : Nat) : Int) ≤ (r.length : Int) := by omega
    have hts : txt69 (r.take (r.length - 1)) ≤ 1000 := Nat.le_trans (txt69_sub (List.take_sublist _ _)) ht
    have hln : (r.take (r.length - 1)).length = n := by rw [List.length_take]; omega
    have hlm : (r.take (r.length - 1)).length ≤ 1000 := by omega
    rw [trimN_step9 _ n r hp]
    have W := Aside0.mk (wrapM hp (by omega))
    by_cases h1 : (r[r.length - 1]'(by omega)).f2 = 1
    · rw [if_pos h1]
      refine Ev.step (fun k => ?_) (ev_rr_l3 out ho n (r.take (r.length - 1)) hln hlm hts)
      simp only [jobshellref18_Read.l3]
      rw [if_pos c, W.out, if_pos (ige _), if_pos c2, lastIdx9 r hp, if_pos h1, if_pos c3, Int.toNat_natCast]
    · rw [if_neg h1]
      refine Ev.step (f := fun k => (jobshellref18_text.f k r).bind fun t393 => if out.length < 8796093022208 then some (out ++ [t393]) else none) (fun k => ?_) (Ev.bind (ev_text r hm ht) ?_)
      · simp only [jobshellref18_Read.l3]
        rw [if_pos c, W.out, if_pos (ige _), if_pos c2, lastIdx9 r hp, if_neg h1]
      · rw [if_pos hob]
        exact Ev.now _
theorem ev_rr_l2 (n : Int) (l : List S69) (hm : l.length ≤ 1000) (out : List ByteArray) (s x12 : Int) (R : List ByteArray) : ∀ (d i : Nat), l.length - i = d → i ≤ l.length → Ev (fun k => jobshellref18_Read.j3 k n l out s x12 ((i + ow S69.f2 (l.drop i) : Nat) : Int)) R → Ev (fun k => jobshellref18_Read.l2 k n l out s x12 (i : Int)) R := by
  intro d
  induction d with
  | zero =>
    intro i h1 h2 h
    rw [List.drop_of_length_le (by omega)] at h
    refine Ev.step (fun k => ?_) h
    simp only [jobshellref18_Read.l2]
    rw [if_neg (by omega)]
    rfl
  | succ d ih =>
    intro i h1 h2 h
    have hi : i < l.length := by omega
    rw [dropc l i hi, ow_cons] at h
    by_cases h0 : l[i].f2 = 0
    · rw [if_pos h0, show i + (ow S69.f2 (l.drop (i + 1)) + 1) = i + 1 + ow S69.f2 (l.drop (i + 1)) by omega] at h
      refine Ev.step (fun k => ?_) (ih (i + 1) (by omega) (by omega) h)
      simp only [jobshellref18_Read.l2]
      rw [if_pos (ilt hi), if_pos (ige i), rd69 l i hi, if_pos h0, wrapS (by omega)]
    · rw [if_neg h0] at h
      refine Ev.step (fun k => ?_) h
      simp only [jobshellref18_Read.l2]
      rw [if_pos (ilt hi), if_pos (ige i), rd69 l i hi, if_neg h0]
      rfl
theorem ev_rr_l1 (n : Nat) (hn : n ≤ 100) (hn1 : 1 ≤ n) (l : List S69) (hm : l.length ≤ 1000) (ht : txt69 l ≤ 1000) (hρ : ∀ e ∈ l, e.f2 = 0 ∨ e.f2 = 1 ∨ e.f2 = 2 ∨ e.f2 = 3) : ∀ (m i : Nat) (out : List ByteArray), i ≤ l.length → m + 1 ≤ n → out.length ≤ n - m →
    Ev (fun k => jobshellref18_Read.l1 k (n : Int) l out (i : Int) ((n - 1 - m : Nat) : Int)) (out ++ ((rdR S69.f2 m (l.drop i)).1 ++ [lastE S69.f2 (rdR S69.f2 m (l.drop i)).2]).map txE9) := by
  have WN : Aside0 (wrap64 ((n : Int) - 1) = ((n - 1 : Nat) : Int)) := ⟨wrapM (by omega) (by omega)⟩
  intro m
  induction m with
  | zero =>
    intro i out hi h1 h2
    rw [rdR]
    dsimp only
    rw [List.nil_append, List.map_singleton]
    have hr : (l.drop i).length ≤ 1000 := by rw [List.length_drop]; omega
    have htr : txt69 (l.drop i) ≤ 1000 := Nat.le_trans (txt69_sub (List.drop_sublist _ _)) ht
    have c1 : ¬ ((n - 1 - 0 : Nat) : Int) < ((n - 1 : Nat) : Int) := by omega
    have hob : out.length < 8796093022208 := by omega
    have D := ev_rdivide (l.drop i) hr (fun e he => hρ e (List.mem_of_mem_drop he))
    have S := (dv_sub S69.f2 _ [] (l.drop i) (Nat.le_refl _)).1
    rw [List.nil_append] at S
    refine Ev.step (f := fun k => (jobshellref18_divide.f k (l.drop i)).bind fun t381 => (if (t381.length : Int) = 1 then (if 0 < (t381.length : Int) then ((jobshellref18_text.f k (rd_L9 t381 0)).bind fun t385 => (if out.length < 8796093022208 then (some (out ++ [t385])) else (none))) else (none)) else (jobshellref18_Read.l3 k out (l.drop i)))) (fun k => ?_) (Ev.bind D ?_)
    · simp only [jobshellref18_Read.l1]
      rw [WN.out, if_neg c1, if_pos (ige i), if_pos (by omega), Option.bind_some, Int.toNat_natCast]
    · unfold lastE
      by_cases h1 : (dv S69.f2 [] (l.drop i)).length = 1
      · have c1 : ((dv S69.f2 [] (l.drop i)).length : Int) = 1 := by omega
        have c2 : (0 : Int) < ((dv S69.f2 [] (l.drop i)).length : Int) := by omega
        obtain ⟨f, hf⟩ : ∃ f, dv S69.f2 [] (l.drop i) = [f] := List.length_eq_one_iff.1 h1
        have sf : f.Sublist (l.drop i) := (mem_flat (show f ∈ dv S69.f2 [] (l.drop i) by rw [hf]; simp)).trans S
        have r0 : rd_L9 (dv S69.f2 [] (l.drop i)) 0 = f := by rw [hf]; rfl
        have e0 : (dv S69.f2 [] (l.drop i)).headD [] = f := by rw [hf]; rfl
        rw [if_pos h1, e0]
        simp only [if_pos c1, if_pos c2, r0]
        refine Ev.bind (ev_text f (Nat.le_trans sf.length_le hr) (Nat.le_trans (txt69_sub sf) htr)) ?_
        rw [if_pos hob]
        exact Ev.now _
      · have c1 : ¬ ((dv S69.f2 [] (l.drop i)).length : Int) = 1 := by omega
        rw [if_neg h1]
        simp only [if_neg c1]
        exact ev_rr_l3 out (by omega) _ (l.drop i) rfl hr htr
  | succ m ih =>
    intro i out hi h1 h2
    rw [rdR]
    dsimp only
    obtain ⟨e, he⟩ : ∃ e, i + ow S69.f2 (l.drop i) = e := ⟨_, rfl⟩
    have hw := ow_le S69.f2 (l.drop i)
    rw [List.length_drop] at hw
    have hie : i ≤ e := by omega
    have hel : e ≤ l.length := by omega
    have hd : (l.drop i).drop (ow S69.f2 (l.drop i)) = l.drop e := by rw [List.drop_drop, he]
    have ht2 : (l.take e).drop i = (l.drop i).take (ow S69.f2 (l.drop i)) := by rw [List.drop_take]; congr 1; omega
    rw [hd]
    have hs2 : ((l.drop i).take (ow S69.f2 (l.drop i))).Sublist l := (List.take_sublist _ _).trans (List.drop_sublist _ _)
    obtain ⟨o, hoo⟩ : ∃ o, (l.drop i).take (ow S69.f2 (l.drop i)) = o := ⟨_, rfl⟩
    rw [hoo] at ht2 hs2 ⊢
    have J := ev_text o (Nat.le_trans hs2.length_le hm) (Nat.le_trans (txt69_sub hs2) ht)
    have B := ev_skip l hm e hel
    obtain ⟨p, hp⟩ : ∃ p, e + wl S69.f2 (l.drop e) = p := ⟨_, rfl⟩
    have hwl := wl_le S69.f2 (l.drop e)
    rw [List.length_drop] at hwl
    have hpl : p ≤ l.length := by omega
    have hdp : l.drop p = skipN S69.f2 (l.drop e) := by rw [← hp, drop_wl]
    rw [hp] at B
    have hb : out.length < 8796093022208 := by omega
    have NX : next S69.f2 (l.drop e) = if hr S69.f2 (l.drop p) = 2 then skipN S69.f2 (l.drop (p + 1)) else l.drop p := by
      unfold next
      rw [← hdp, List.tail_drop]
    have W2 : Aside0 (wrap64 (((n - 1 - (m + 1) : Nat) : Int) + 1) = ((n - 1 - m : Nat) : Int)) := ⟨by rw [wrapS (by omega)]; congr 1; omega⟩
    have go : ∀ q : Nat, q ≤ l.length → l.drop q = next S69.f2 (l.drop e) → Ev (fun k => jobshellref18_Read.l1 k (n : Int) l (out ++ [txE9 o]) (q : Int) ((n - 1 - m : Nat) : Int)) (out ++ ((o :: (rdR S69.f2 m (next S69.f2 (l.drop e))).1) ++ [lastE S69.f2 (rdR S69.f2 m (next S69.f2 (l.drop e))).2]).map txE9) := by
      intro q hq hqd
      have := ih q (out ++ [txE9 o]) hq (by omega) (by rw [List.length_append]; simp; omega)
      rw [hqd, List.append_assoc] at this
      exact this
    have c1 : ((n - 1 - (m + 1) : Nat) : Int) < ((n - 1 : Nat) : Int) := by omega
    refine Ev.step (f := fun k => jobshellref18_Read.l2 k (n : Int) l out (i : Int) ((n - 1 - (m + 1) : Nat) : Int) (i : Int)) (fun k => ?_) ?_
    · simp only [jobshellref18_Read.l1]
      rw [WN.out, if_pos c1]
    refine ev_rr_l2 n l hm out _ _ _ _ i rfl hi ?_
    rw [he]
    have tail : Ev (fun k => (jobshellref18_skip.f k l (e : Int)).bind fun t375 => (if t375 < (l.length : Int) then (if 0 ≤ t375 then (if ((rd_T69 l t375).f2) = 2 then ((jobshellref18_skip.f k l (wrap64 (t375 + 1))).bind fun t377 => (jobshellref18_Read.l1 k (n : Int) l (out ++ [txE9 o]) t377 ((n - 1 - m : Nat) : Int))) else (jobshellref18_Read.l1 k (n : Int) l (out ++ [txE9 o]) t375 ((n - 1 - m : Nat) : Int))) else (none)) else (jobshellref18_Read.l1 k (n : Int) l (out ++ [txE9 o]) t375 ((n - 1 - m : Nat) : Int)))) (out ++ ((o :: (rdR S69.f2 m (next S69.f2 (l.drop e))).1) ++ [lastE S69.f2 (rdR S69.f2 m (next S69.f2 (l.drop e))).2]).map txE9) := by
      refine Ev.bind B ?_
      rcases Nat.lt_or_ge p l.length with hlt | hge
      · simp only [if_pos (ilt hlt), if_pos (ige p), rd69 l p hlt]
        rw [hr_drop l p hlt] at NX
        by_cases h2r : l[p].f2 = 2
        · rw [if_pos h2r] at NX
          have B2 := ev_skip l hm (p + 1) (by omega)
          have W3 := Aside0.mk (wrapS (show p < 9223372036854775807 by omega))
          simp only [if_pos h2r, W3.out]
          refine Ev.bind B2 ?_
          have hw2 := wl_le S69.f2 (l.drop (p + 1))
          rw [List.length_drop] at hw2
          exact go _ (by omega) (by rw [NX, drop_wl])
        · rw [if_neg h2r] at NX
          simp only [if_neg h2r]
          exact go p hpl NX.symm
      · have cn : ¬ (p : Int) < (l.length : Int) := by omega
        simp only [if_neg cn]
        refine go p hpl ?_
        rw [NX, List.drop_of_length_le hge, if_neg (by show ¬ (0 : Int) = 2; decide)]
    refine Ev.step (f := fun k => (jobshellref18_text.f k o).bind fun t371 => if out.length < 8796093022208 then ((some (out ++ [t371] : List ByteArray)).bind fun y372 => (jobshellref18_skip.f k l (e : Int)).bind fun t375 => (if t375 < (l.length : Int) then (if 0 ≤ t375 then (if ((rd_T69 l t375).f2) = 2 then ((jobshellref18_skip.f k l (wrap64 (t375 + 1))).bind fun t377 => (jobshellref18_Read.l1 k (n : Int) l y372 t377 ((n - 1 - m : Nat) : Int))) else (jobshellref18_Read.l1 k (n : Int) l y372 t375 ((n - 1 - m : Nat) : Int))) else (none)) else (jobshellref18_Read.l1 k (n : Int) l y372 t375 ((n - 1 - m : Nat) : Int)))) else none) (fun k => ?_) (Ev.bind J ?_)
    · simp only [jobshellref18_Read.j3]
      rw [if_pos (ige i), if_pos (show (i : Int) ≤ (e : Int) by omega), if_pos (show (e : Int) ≤ (l.length : Int) by omega), Int.toNat_natCast, Int.toNat_natCast, ht2, W2.out]
    · simp only [if_pos hb, Option.bind_some]
      exact tail
theorem kd_no3 (ifs : ByteArray) (c : UInt8) : kd ifs c ≠ 3 := by
  unfold kd
  split
  · split <;> decide
  · decide
theorem rl_no3 (ifs : ByteArray) (e : S66) (h : e.f1 ≠ 3) : rl ifs e ≠ 3 := by
  unfold rl
  rw [if_neg h]
  split
  · split
    · exact kd_no3 _ _
    · decide
  · decide
theorem filt_elR (ifs : ByteArray) (x : S38) : ((elR true x).map (withR ifs)).filter (fun e => !(e.f2 == 3)) = (elR false x).map (withR ifs) := by
  by_cases c3 : x.f1 = 3
  · unfold elR
    rw [if_pos c3, if_pos rfl, if_pos c3]
    rfl
  · have e : elR true x = elR false x := by
      unfold elR
      rw [if_neg c3, if_neg c3]
    rw [e, List.filter_eq_self]
    intro y hy
    obtain ⟨z, hz, rfl⟩ := List.mem_map.1 hy
    have hf : z.f1 = x.f1 := by
      unfold elR at hz
      rw [if_neg c3] at hz
      split at hz
      · split at hz
        · rename_i hc
          rw [List.mem_singleton] at hz
          rw [hz]
          exact hc.1.symm
        · obtain ⟨c, _, rfl⟩ := List.mem_map.1 hz
          rfl
      · cases hz
    have := rl_no3 ifs z (by rw [hf]; exact c3)
    show (!(rl ifs z == 3)) = true
    simpa using this
theorem filt_elF (ifs : ByteArray) : ∀ l : List S38, ((elF true l).map (withR ifs)).filter (fun e => !(e.f2 == 3)) = (elF false l).map (withR ifs)
  | [] => rfl
  | x :: t => by rw [elF, elF, List.map_append, List.filter_append, filt_elR, filt_elF ifs t, List.map_append]
theorem ev_rr_l0 (n : Int) (l : List S69) (hm : l.length ≤ 1000) (R : List ByteArray) (X : List S69) (fin : Ev (fun k => if n < 1 then some ([] : List ByteArray) else (jobshellref18_skip.f k X 0).bind fun t365 => jobshellref18_Read.l1 k n X ([] : List ByteArray) t365 0) R) : ∀ (d i : Nat) (acc : List S69), l.length - i = d → i ≤ l.length → acc.length ≤ i → acc ++ (l.drop i).filter (fun e => !(e.f2 == 3)) = X → Ev (fun k => jobshellref18_Read.l0 k n acc l (i : Int)) R := by
  intro d
  induction d with
  | zero =>
    intro i acc h1 h2 h3 h4
    rw [List.drop_of_length_le (by omega), List.filter_nil, List.append_nil] at h4
    subst h4
    refine Ev.step (fun k => ?_) fin
    simp only [jobshellref18_Read.l0]
    rw [if_neg (by omega)]
  | succ d ih =>
    intro i acc h1 h2 h3 h4
    have hi : i < l.length := by omega
    rw [dropc l i hi] at h4
    by_cases hc : l[i].f2 = 3
    · rw [List.filter_cons_of_neg (by rw [hc]; decide)] at h4
      refine Ev.step (fun k => ?_) (ih (i + 1) acc (by omega) (by omega) (by omega) h4)
      simp only [jobshellref18_Read.l0]
      rw [if_pos (ilt hi), if_pos (ige i), rd69 l i hi, if_pos hc, wrapS (by omega)]
    · rw [List.filter_cons_of_pos (by simpa using hc)] at h4
      refine Ev.step (fun k => ?_) (ih (i + 1) (acc ++ [l[i]]) (by omega) (by omega) (by rw [List.length_append]; simp; omega) (by rw [← h4]; simp))
      simp only [jobshellref18_Read.l0]
      rw [if_pos (ilt hi), if_pos (ige i), rd69 l i hi, if_neg hc, if_pos (by omega), wrapS (by omega)]
theorem ev_rRead (l : List S38) (ifs : ByteArray) (hs : ifs.size ≤ 9223372036854775807) (h1 : l.length ≤ 40) (h2 : tot l ≤ 300) (n : Int) (N : Nat) (hN : N ≤ 100) (h : n < 1 ∧ N = 0 ∨ 1 ≤ N ∧ n = (N : Int)) : Ev (fun k => jobshellref18_Read.f k l ifs n) (if N = 0 then [] else readF l ifs (N - 1)) := by
  have a := elF_len true l
  have af := elF_len false l
  have b := elF_txt false l
  unfold jobshellref18_Read.f
  refine Ev.bind (ev_relements ifs hs l (by omega) (by omega)) ?_
  refine ev_rr_l0 n _ (by rw [List.length_map]; omega) _ ((elF false l).map (withR ifs)) ?_ _ 0 [] rfl (by omega) (by simp) (by rw [List.drop_zero, List.nil_append, filt_elF])
  rcases h with ⟨hn, rfl⟩ | ⟨hN1, rfl⟩
  · simp only [if_pos hn, if_true]
    exact Ev.now _
  · have c1 : ¬ (N : Int) < 1 := by omega
    rw [if_neg (by omega)]
    simp only [if_neg c1]
    have lm : ((elF false l).map (withR ifs)).length ≤ 1000 := by rw [List.length_map]; omega
    have tm : txt69 ((elF false l).map (withR ifs)) ≤ 1000 := by
      have e : txt69 ((elF false l).map (withR ifs)) = txt66 (elF false l) := by unfold txt69 txt66; rw [List.map_map]; rfl
      omega
    have S := ev_skip ((elF false l).map (withR ifs)) lm 0 (by omega)
    rw [List.drop_zero, Nat.zero_add] at S
    refine Ev.bind S ?_
    have hw := wl_le S69.f2 ((elF false l).map (withR ifs))
    have := ev_rr_l1 N hN hN1 ((elF false l).map (withR ifs)) lm tm (fun e he => by
      obtain ⟨x, _, rfl⟩ := List.mem_map.1 he
      exact rl_range ifs x) (N - 1) (wl S69.f2 ((elF false l).map (withR ifs))) [] hw (by omega) (by simp)
    rw [wl_drop, show N - 1 - (N - 1) = 0 by omega, List.nil_append] at this
    have e : ((rdR S69.f2 (N - 1) (skipN S69.f2 ((elF false l).map (withR ifs)))).1 ++ [lastE S69.f2 (rdR S69.f2 (N - 1) (skipN S69.f2 ((elF false l).map (withR ifs)))).2]).map txE9 = readF l ifs (N - 1) := by
      show (rdF S69.f2 (N - 1) ((elF false l).map (withR ifs))).map txE9 = _
      rw [rdF_withR, List.map_map]
      unfold readF
      apply List.map_congr_left
      intro o _
      show txE9 (o.map (withR ifs)) = txE o
      unfold txE9 txE
      rw [List.map_map]
      rfl
    rw [e] at this
    exact this
theorem ev_SameTexts_l0 (l : List ByteArray) (hm : l.length ≤ 1000) : ∀ (d i : Nat), l.length - i = d → i ≤ l.length → Ev (fun k => jobshellref03_SameTexts.l0 k l l (i : Int)) true := by
  intro d
  induction d with
  | zero =>
    intro i h1 h2
    refine Ev.step (f := fun _ => some true) (fun k => ?_) (Ev.now _)
    simp only [jobshellref03_SameTexts.l0]
    rw [if_neg (by omega)]
  | succ d ih =>
    intro i h1 h2
    have hi : i < l.length := by omega
    refine Ev.step (fun k => ?_) (ih (i + 1) (by omega) (by omega))
    simp only [jobshellref03_SameTexts.l0]
    rw [if_pos (ilt hi), if_pos (ige i), if_pos (ilt hi), if_pos trivial, wrapS (by omega)]
theorem ev_SameTexts (l : List ByteArray) (hm : l.length ≤ 1000) : Ev (fun k => jobshellref03_SameTexts.f k l l) true := by
  unfold jobshellref03_SameTexts.f
  simp only [if_true]
  exact ev_SameTexts_l0 l hm _ 0 rfl (by omega)
end
end Go.Proofs.Ytbkhdgfehgfjpaa.PAll
