/- Plain lemmas of this claim, out of the session's texts. -/
import Derived.Test.YtbkhdgfehgfjpaaExtText
import Derived.Test.YtbkhdgfehgfjpaaExtJoin
import Derived.Test.YtbkhdgfehgfjpaaPAllx0
import Derived.Test.YtbkhdgfehgfjpaaPAllx10
import Derived.KernelRfl
import Derived.Test.YtbkhdgfehgfjpaaPAllx2
import Derived.Test.YtbkhdgfehgfjpaaPAllx7
import Derived.Test.YtbkhdgfehgfjpaaExtOpen
import Derived.Test.YtbkhdgfehgfjpaaPAllx5
import Derived.Test.YtbkhdgfehgfjpaaPAllx3
import Derived.Test.YtbkhdgfehgfjpaaPAllx4
import Derived.Test.YtbkhdgfehgfjpaaPAllx6
namespace Go.Proofs.Ytbkhdgfehgfjpaa.PAll
section
open Go.RowKit Go.Proofs.YtbkhdgfehgfjpaaW.PrintWords Go.Proofs.YtbkhdgfehgfjpaaW.PrintLast
set_option linter.unusedVariables false
set_option linter.unusedSimpArgs false
theorem wrapS {i : Nat} (h : i < 9223372036854775807) : wrap64 ((i : Int) + 1) = ((i + 1 : Nat) : Int) := by unfold wrap64; omega
theorem wrapA {i j : Nat} (h : i + j ≤ 9223372036854775807) : wrap64 ((i : Int) + (j : Int)) = ((i + j : Nat) : Int) := by unfold wrap64; omega
theorem ilt {i n : Nat} (h : i < n) : (i : Int) < (n : Int) := by omega
theorem ige (i : Nat) : (0 : Int) ≤ (i : Int) := by omega
theorem dropc {α : Type} (l : List α) (i : Nat) (h : i < l.length) : l.drop i = l[i] :: l.drop (i + 1) := List.drop_eq_getElem_cons h
theorem rd38 (l : List S38) (i : Nat) (h : i < l.length) : rd_T38 l (i : Int) = l[i] := by
  unfold rd_T38
  rw [Int.toNat_natCast, List.getD_eq_getElem?_getD, List.getElem?_eq_getElem h]
  rfl
theorem tl_nil {a : ByteArray} : a.toList = [] ↔ a.size = 0 := by
  rw [Go.ByteArray.toList_eq]
  show a.data.toList = [] ↔ a.data.size = 0
  rw [← Array.length_toList]
  exact List.length_eq_zero_iff.symm
theorem dl_len (a : ByteArray) : a.data.toList.length = a.size := by rw [Array.length_toList]; rfl
theorem ba_ext {a b : ByteArray} (h : a.data.toList = b.data.toList) : a = b := by
  cases a; cases b
  congr
  exact Array.toList_inj.1 h
/-- The bytes of the texts together. -/
def tot (l : List S38) : Nat := (catL (l.map (·.f0))).length
theorem tot_cons (x : S38) (l : List S38) : tot (x :: l) = x.f0.size + tot l := by
  unfold tot
  rw [List.map_cons, catL, List.length_append, dl_len]
theorem catL_app (a b : List ByteArray) : catL (a ++ b) = catL a ++ catL b := by
  induction a with
  | nil => rfl
  | cons x t ih => rw [List.cons_append, catL, catL, ih, List.append_assoc]
end
section
open Go.RowKit Go.Proofs.YtbkhdgfehgfjpaaW.PrintWords Go.Proofs.YtbkhdgfehgfjpaaW.PrintLast
theorem awake_at : jobshelllaw18_awake.f 40 = some true := by kernel_rfl
theorem ev_awake : Ev (fun k => (jobshelllaw18_awake.f k).bind fun t => some t) true := Ev.bind (Ev.of jobshelllaw18_awake.mono awake_at) (Ev.now _)
end
section
open Go.RowKit Go.Proofs.YtbkhdgfehgfjpaaW.PrintWords Go.Proofs.YtbkhdgfehgfjpaaW.PrintLast
set_option linter.unusedVariables false
set_option linter.unusedSimpArgs false
theorem ev_Small_l0 (l : List S38) (hg : ∀ x ∈ l, good38 x) (hm : l.length ≤ 9223372036854775807) : ∀ (d i n : Nat), l.length - i = d → i ≤ l.length → n + tot (l.drop i) = tot l → n ≤ 140737488351312 →
    ∃ b, Ev (fun k => jobshellref04_Small.l0 k l 12 80 (n : Int) (i : Int)) b ∧ (b = true → l.length ≤ 12 ∧ tot l ≤ 80) := by
  intro d
  induction d with
  | zero =>
    intro i n h1 h2 h3 h4
    have hi : i = l.length := by omega
    have ht : tot l = n := by
      rw [hi, List.drop_length] at h3
      have : tot ([] : List S38) = 0 := rfl
      omega
    by_cases h : (l.length : Int) ≤ 12
    · refine ⟨decide ((n : Int) ≤ 80), Ev.step (f := fun _ => some (decide ((n : Int) ≤ 80))) (fun k => ?_) (Ev.now _), fun hb => ⟨by omega, by have := of_decide_eq_true hb; omega⟩⟩
      simp only [jobshellref04_Small.l0]
      rw [if_neg (by omega), if_pos h]
    · refine ⟨false, Ev.step (f := fun _ => some false) (fun k => ?_) (Ev.now _), fun hb => by cases hb⟩
      simp only [jobshellref04_Small.l0]
      rw [if_neg (by omega), if_neg h]
  | succ d ih =>
    intro i n h1 h2 h3 h4
    have hi : i < l.length := by omega
    have hs : l[i].f0.size ≤ 140737488351232 := hg _ (List.getElem_mem hi)
    by_cases h12 : (i : Int) ≤ 12
    · by_cases h80 : (n : Int) ≤ 80
      · obtain ⟨b, hb, hb2⟩ := ih (i + 1) (n + l[i].f0.size) (by omega) (by omega) (by rw [dropc l i hi, tot_cons] at h3; omega) (by omega)
        refine ⟨b, Ev.step (fun k => ?_) hb, hb2⟩
        simp only [jobshellref04_Small.l0]
        rw [if_pos (ilt hi), if_pos h12, if_pos h80, if_pos (ige i), rd38 l i hi, wrapS (by omega), wrapA (by omega)]
      · refine ⟨false, Ev.step (f := fun _ => some false) (fun k => ?_) (Ev.now _), fun hb => by cases hb⟩
        simp only [jobshellref04_Small.l0]
        rw [if_pos (ilt hi), if_pos h12, if_neg h80]
        by_cases h : (l.length : Int) ≤ 12
        · rw [if_pos h, decide_eq_false h80]
        · rw [if_neg h]
    · refine ⟨false, Ev.step (f := fun _ => some false) (fun k => ?_) (Ev.now _), fun hb => by cases hb⟩
      simp only [jobshellref04_Small.l0]
      rw [if_pos (ilt hi), if_neg h12, if_neg (by omega)]
theorem ev_small (l : List S38) (hm : l.length ≤ 9223372036854775807) (hg : ∀ x ∈ l, good38 x) : ∃ b, Ev (fun k => jobshelllaw18_small.f k l) b ∧ (b = true → l.length ≤ 12 ∧ tot l ≤ 80) := by
  obtain ⟨b, hb, h2⟩ := ev_Small_l0 l hg hm l.length 0 0 (by omega) (by omega) (by simp) (by omega)
  exact ⟨b, Ev.bind (show Ev (fun k => jobshellref04_Small.f k l 12 80) b from hb) (Ev.now _), h2⟩
theorem size_mk (l : List UInt8) : (⟨l.toArray⟩ : ByteArray).size = l.length := by
  show l.toArray.size = _
  simp
/-- The text of runs. -/
def textF (l : List S38) : ByteArray := ⟨(catL (l.map (·.f0))).toArray⟩
theorem text_eq (l : List S38) (hm : l.length ≤ 9223372036854775807) (ht : tot l ≤ 140737488355328) : split_Text.f l = some (textF l) := by
  unfold split_Text.f
  have ht' : (catL (l.map (·.f0))).length ≤ 140737488355328 := ht
  rw [if_pos ht', if_pos hm]
  rfl
end
section
open Go.RowKit Go.Proofs.YtbkhdgfehgfjpaaW.PrintWords Go.Proofs.YtbkhdgfehgfjpaaW.PrintLast
set_option linter.unusedVariables false
set_option linter.unusedSimpArgs false
theorem index_mem : ∀ (l : List UInt8) (c : UInt8), (0 ≤ Lib.indexByte l c) ↔ c ∈ l
  | [], c => by simp [Lib.indexByte]
  | b :: l, c => by
    have ih := index_mem l c
    have hge := Lib.indexByte_ge l c
    unfold Lib.indexByte
    by_cases h : (b == c) = true
    · rw [if_pos h]
      have : b = c := by simpa using h
      simp [this]
    · rw [if_neg h]
      have hne : ¬ c = b := fun e => h (by simp [e])
      by_cases h2 : (Lib.indexByte l c == -1) = true
      · rw [if_pos h2]
        have e : Lib.indexByte l c = -1 := by simpa using h2
        have : ¬ c ∈ l := fun hc => by have := ih.2 hc; omega
        simp [hne, this]
      · rw [if_neg h2]
        have e : ¬ Lib.indexByte l c = -1 := by simpa using h2
        have h0 : 0 ≤ Lib.indexByte l c := by omega
        have := ih.1 h0
        simp [this]
        omega
/-- The role of a byte that is divided at. -/
def kd (ifs : ByteArray) (c : UInt8) : Int := if c ∈ ifs.data.toList then (if c = 32 ∨ c = 9 ∨ c = 10 then 1 else 2) else 0
def rl (ifs : ByteArray) (e : S66) : Int := if e.f1 = 3 then 3 else if e.f1 = 2 then (match e.f0 with | ⟨⟨[c]⟩⟩ => kd ifs c | _ => 0) else 0
/-- An element as the walk makes them. -/
def okE (e : S66) : Prop := e.f1 = 2 → ∃ c, e.f0 = ⟨#[c]⟩
theorem one_eq (c d : UInt8) : (⟨#[c]⟩ : ByteArray).toList = ([d] : List UInt8) ↔ c = d := by
  rw [Go.ByteArray.toList_eq]
  simp
theorem ev_role (ifs : ByteArray) (e : S66) (h : okE e) : Ev (fun k => split_role.f k e.f0 e.f1 ifs) (rl ifs e) := by
  unfold split_role.f rl
  by_cases h3 : e.f1 = 3
  · simp only [if_pos h3]
    exact Ev.now _
  · by_cases h2 : e.f1 = 2
    · obtain ⟨c, hc⟩ := h h2
      simp only [if_neg h3, if_pos h2, hc]
      have hcon : strings_Contains.f ifs ⟨#[c]⟩ = some (decide (c ∈ ifs.data.toList)) := by
        show some (decide (0 ≤ Lib.indexByte ifs.data.toList c)) = _
        congr 1
        exact decide_eq_decide.2 (index_mem _ _)
      simp only [hcon, Option.bind_some]
      show Ev _ (kd ifs c)
      unfold kd
      by_cases hm : c ∈ ifs.data.toList
      · rw [if_pos hm, decide_eq_true hm]
        refine Ev.step (f := fun _ => some (if c = 32 ∨ c = 9 ∨ c = 10 then (1 : Int) else 2)) (fun k => ?_) (Ev.now _)
        simp only [split_role.j0]
        rw [if_neg (by simp)]
        by_cases a1 : c = 32
        · rw [if_pos ((one_eq c 32).2 a1), if_pos (Or.inl a1)]
        · rw [if_neg (fun h => a1 ((one_eq c 32).1 h))]
          by_cases a2 : c = 9
          · rw [if_pos ((one_eq c 9).2 a2), if_pos (Or.inr (Or.inl a2))]
          · rw [if_neg (fun h => a2 ((one_eq c 9).1 h))]
            by_cases a3 : c = 10
            · rw [if_pos ((one_eq c 10).2 a3), if_pos (Or.inr (Or.inr a3))]
            · rw [if_neg (fun h => a3 ((one_eq c 10).1 h)), if_neg (fun h => h.elim a1 (fun h => h.elim a2 a3))]
      · rw [if_neg hm, decide_eq_false hm]
        refine Ev.step (f := fun _ => some (0 : Int)) (fun k => ?_) (Ev.now _)
        simp only [split_role.j0]
        rw [if_pos (by simp)]
    · simp only [if_neg h3, if_neg h2]
      refine Ev.step (f := fun _ => some (0 : Int)) (fun k => ?_) (Ev.now _)
      simp only [split_role.j0]
      rw [if_pos trivial]
end
section
open Go.RowKit Go.Proofs.YtbkhdgfehgfjpaaW.PrintWords Go.Proofs.YtbkhdgfehgfjpaaW.PrintLast
set_option linter.unusedVariables false
set_option linter.unusedSimpArgs false
def oneE (cls : Int) (c : UInt8) : S66 := ⟨⟨#[c]⟩, cls⟩
def elR (b : Bool) (x : S38) : List S66 :=
  if x.f1 = 3 then (if b = true then [⟨⟨#[]⟩, 3⟩] else [])
  else if x.f1 = 0 ∨ x.f1 = 1 ∨ x.f1 = 2 then (if x.f1 = 1 ∧ x.f0.toList = [] then [⟨⟨#[]⟩, 1⟩] else x.f0.data.toList.map (oneE x.f1)) else []
def elF (b : Bool) : List S38 → List S66
  | [] => []
  | x :: t => elR b x ++ elF b t
theorem elR_len (b : Bool) (x : S38) : (elR b x).length ≤ x.f0.size + 1 := by
  unfold elR
  split
  · split <;> simp
  · split
    · split
      · simp
      · rw [List.length_map, dl_len]; omega
    · simp
theorem elF_len (b : Bool) : ∀ l : List S38, (elF b l).length ≤ tot l + l.length
  | [] => by simp [elF]
  | x :: t => by
    have ih := elF_len b t
    have h := elR_len b x
    rw [elF, List.length_append, tot_cons, List.length_cons]
    omega
theorem ext1 (s : ByteArray) (j : Nat) (h : j < s.size) : s.extract j (j + 1) = ⟨#[s.data.toList[j]'(by rw [dl_len]; exact h)]⟩ := by
  apply ba_ext
  have e : (s.extract j (j + 1)).data = s.data.extract j (j + 1) := by simp
  rw [e, Array.toList_extract]
  have h' : j < s.data.toList.length := by rw [dl_len]; exact h
  rw [List.extract_eq_take_drop, dropc _ j h', show j + 1 - j = 1 by omega]
  rfl
theorem ev_el_l1 (b : Bool) (l : List S38) (R : List S66) (i : Nat) (txt : ByteArray) (cls : Int) (ht : txt.size ≤ 1000) (hi : i < 9223372036854775807) : ∀ (d j : Nat) (acc : List S66), txt.size - j = d → j ≤ txt.size → acc.length + (txt.size - j) ≤ 5000 →
    Ev (fun k => split_elements.l0 k b (acc ++ (txt.data.toList.drop j).map (oneE cls)) l (l.length : Int) ((i + 1 : Nat) : Int)) R → Ev (fun k => split_elements.l1 k b acc l (l.length : Int) (i : Int) (txt.size : Int) (j : Int) txt cls) R := by
  intro d
  induction d with
  | zero =>
    intro j acc h1 h2 h3 h
    have hj : j = txt.size := by omega
    rw [List.drop_of_length_le (by rw [dl_len]; omega), List.map_nil, List.append_nil] at h
    refine Ev.step (fun k => ?_) h
    simp only [split_elements.l1]
    rw [if_neg (by omega), wrapS hi]
  | succ d ih =>
    intro j acc h1 h2 h3 h
    have hj : j < txt.size := by omega
    rw [dropc _ j (by rw [dl_len]; exact hj), List.map_cons] at h
    refine Ev.step (fun k => ?_) (ih (j + 1) (acc ++ [oneE cls (txt.data.toList[j]'(by rw [dl_len]; exact hj))]) (by omega) (by omega) (by rw [List.length_append]; simp; omega) (by rw [List.append_assoc]; exact h))
    simp only [split_elements.l1]
    rw [if_pos (ilt hj), if_pos (ige j), wrapS (by omega), if_pos (by omega), if_pos (by omega), if_pos (by omega), Int.toNat_natCast, Int.toNat_natCast, ext1 txt j hj]
    rfl
theorem ev_elements_l0 (b : Bool) (l : List S38) (hm : l.length ≤ 1000) (ht : tot l ≤ 1000) : ∀ (d i : Nat) (acc : List S66), l.length - i = d → i ≤ l.length → tot (l.drop i) ≤ 1000 → acc.length + tot (l.drop i) + (l.length - i) ≤ 5000 → Ev (fun k => split_elements.l0 k b acc l (l.length : Int) (i : Int)) (acc ++ elF b (l.drop i)) := by
  intro d
  induction d with
  | zero =>
    intro i acc h1 h2 h3 h4
    rw [List.drop_of_length_le (by omega)]
    refine Ev.step (f := fun _ => some (acc ++ elF b [])) (fun k => ?_) (Ev.now _)
    simp only [split_elements.l0]
    rw [if_neg (by omega)]
    simp [elF]
  | succ d ih =>
    intro i acc h1 h2 h3 h4
    have hi : i < l.length := by omega
    rw [dropc l i hi] at h3 h4 ⊢
    rw [tot_cons] at h3 h4
    obtain ⟨x, hx⟩ : ∃ x, l[i] = x := ⟨_, rfl⟩
    rw [hx] at h3 h4 ⊢
    have rx := rd38 l i hi
    rw [hx] at rx
    rw [elF]
    have next : ∀ acc2 : List S66, acc2.length ≤ acc.length + x.f0.size + 1 → Ev (fun k => split_elements.l0 k b acc2 l (l.length : Int) ((i + 1 : Nat) : Int)) (acc2 ++ elF b (l.drop (i + 1))) := fun acc2 hl => ih (i + 1) acc2 (by omega) (by omega) (by omega) (by omega)
    have W1 : wrap64 ((i : Int) + 1) = ((i + 1 : Nat) : Int) := wrapS (by omega)
    have zeroE : acc.length < 5864062014805 := by omega
    by_cases c3 : x.f1 = 3
    · have e : elR b x = if b = true then [⟨⟨#[]⟩, 3⟩] else [] := by unfold elR; rw [if_pos c3]
      rw [e]
      by_cases hb : b = true
      · rw [if_pos hb, ← List.append_assoc]
        refine Ev.step (fun k => ?_) (next (acc ++ [⟨⟨#[]⟩, 3⟩]) (by rw [List.length_append]; simp))
        simp only [split_elements.l0]
        rw [if_pos (ilt hi), if_pos (ige i), if_pos (ilt hi), rx, if_pos c3, if_pos hb, if_pos zeroE, W1]
      · rw [if_neg hb, List.nil_append]
        refine Ev.step (fun k => ?_) (next acc (by omega))
        simp only [split_elements.l0]
        rw [if_pos (ilt hi), if_pos (ige i), if_pos (ilt hi), rx, if_pos c3, if_neg hb, W1]
    · -- what follows the choice
      have J1 : ∀ y : Bool, (y = true ↔ (x.f1 = 0 ∨ x.f1 = 1 ∨ x.f1 = 2)) → Ev (fun k => split_elements.j1 k b acc l (l.length : Int) (i : Int) y x.f0 x.f1) (acc ++ (elR b x ++ elF b (l.drop (i + 1)))) := by
        intro y hy
        by_cases ht2 : y = true
        · have hc := hy.1 ht2
          have J3 : ∀ acc2 : List S66, acc2.length ≤ acc.length + 1 → acc2 ++ (x.f0.data.toList.map (oneE x.f1) ++ elF b (l.drop (i + 1))) = acc ++ (elR b x ++ elF b (l.drop (i + 1))) → Ev (fun k => split_elements.j3 k b acc2 l (l.length : Int) (i : Int) x.f0 x.f1) (acc ++ (elR b x ++ elF b (l.drop (i + 1)))) := by
            intro acc2 hl e
            refine Ev.step (f := fun k => split_elements.l1 k b acc2 l (l.length : Int) (i : Int) (x.f0.size : Int) 0 x.f0 x.f1) (fun k => by simp only [split_elements.j3]) ?_
            rw [← e, ← List.append_assoc]
            exact ev_el_l1 b l _ i x.f0 x.f1 (by omega) (by omega) x.f0.size 0 acc2 (by omega) (by omega) (by omega) (next _ (by rw [List.length_append, List.length_map]; simp [dl_len]; omega))
          have J2 : ∀ z : Bool, (z = true ↔ (x.f1 = 1 ∧ x.f0.toList = [])) → Ev (fun k => split_elements.j2 k b acc l (l.length : Int) (i : Int) z x.f0 x.f1) (acc ++ (elR b x ++ elF b (l.drop (i + 1)))) := by
            intro z hz
            by_cases hz2 : z = true
            · have hq := hz.1 hz2
              have e : elR b x = [⟨⟨#[]⟩, 1⟩] := by unfold elR; rw [if_neg c3, if_pos hc, if_pos hq]
              have e2 : x.f0.data.toList = [] := by rw [← Go.ByteArray.toList_eq]; exact hq.2
              refine Ev.step (fun k => ?_) (J3 (acc ++ [⟨⟨#[]⟩, 1⟩]) (by rw [List.length_append]; simp) (by rw [e, e2]; simp))
              simp only [split_elements.j2]
              rw [if_pos hz2, if_pos zeroE]
            · have e : elR b x = x.f0.data.toList.map (oneE x.f1) := by unfold elR; rw [if_neg c3, if_pos hc, if_neg (fun h => hz2 (hz.2 h))]
              refine Ev.step (fun k => ?_) (J3 acc (by omega) (by rw [e]))
              simp only [split_elements.j2]
              rw [if_neg hz2]
          by_cases hn : x.f0.toList = []
          · refine Ev.step (fun k => ?_) (J2 (x.f1 == 1) (by rw [beq_iff_eq]; exact ⟨fun h => ⟨h, hn⟩, fun h => h.1⟩))
            simp only [split_elements.j1]
            rw [if_pos ht2, if_pos hn]
          · refine Ev.step (fun k => ?_) (J2 false ⟨fun h => (by cases h), fun h => absurd h.2 hn⟩)
            simp only [split_elements.j1]
            rw [if_pos ht2, if_neg hn]
        · have e : elR b x = [] := by unfold elR; rw [if_neg c3, if_neg (fun h => ht2 (hy.2 h))]
          rw [e, List.nil_append]
          refine Ev.step (fun k => ?_) (next acc (by omega))
          simp only [split_elements.j1]
          rw [if_neg ht2, W1]
      by_cases c0 : x.f1 = 0
      · refine Ev.step (fun k => ?_) (J1 (x.f1 == 0) (by rw [beq_iff_eq]; exact ⟨Or.inl, fun _ => c0⟩))
        simp only [split_elements.l0]
        rw [if_pos (ilt hi), if_pos (ige i), if_pos (ilt hi), rx, if_neg c3, if_pos c0]
      · by_cases c1 : x.f1 = 1
        · refine Ev.step (fun k => ?_) (J1 (x.f1 == 1) (by rw [beq_iff_eq]; exact ⟨fun h => Or.inr (Or.inl h), fun _ => c1⟩))
          simp only [split_elements.l0]
          rw [if_pos (ilt hi), if_pos (ige i), if_pos (ilt hi), rx, if_neg c3, if_neg c0, if_pos c1]
        · refine Ev.step (fun k => ?_) (J1 (x.f1 == 2) (by rw [beq_iff_eq]; exact ⟨fun h => Or.inr (Or.inr h), fun h => h.elim (fun h => absurd h c0) (fun h => h.elim (fun h => absurd h c1) id)⟩))
          simp only [split_elements.l0]
          rw [if_pos (ilt hi), if_pos (ige i), if_pos (ilt hi), rx, if_neg c3, if_neg c0, if_neg c1]
theorem ev_elements (b : Bool) (l : List S38) (hm : l.length ≤ 1000) (ht : tot l ≤ 1000) : Ev (fun k => split_elements.f k l b) (elF b l) :=
  ev_elements_l0 b l hm ht l.length 0 [] (by omega) (by omega) (by simpa using ht) (by simp; omega)
end
section
open Go.RowKit Go.Proofs.YtbkhdgfehgfjpaaW.PrintWords Go.Proofs.YtbkhdgfehgfjpaaW.PrintLast
set_option linter.unusedVariables false
set_option linter.unusedSimpArgs false
section
variable {E : Type} (ρ : E → Int)
/-- What is left behind the whites. -/
def skipN : List E → List E
  | [] => []
  | e :: t => if ρ e = 1 then skipN t else e :: t
/-- How many whites lead. -/
def wl : List E → Nat
  | [] => 0
  | e :: t => if ρ e = 1 then wl t + 1 else 0
def hr : List E → Int
  | [] => 0
  | e :: _ => ρ e
def clo (f : List E) : List (List E) := if f.length = 0 then [] else [f]
theorem skipN_len : ∀ l : List E, (skipN ρ l).length ≤ l.length
  | [] => Nat.le_refl _
  | e :: t => by
    have ih := skipN_len t
    unfold skipN
    split
    · rw [List.length_cons]; omega
    · exact Nat.le_refl _
theorem wl_drop : ∀ l : List E, l.drop (wl ρ l) = skipN ρ l
  | [] => rfl
  | e :: t => by
    unfold wl skipN
    split
    · rw [List.drop_succ_cons]; exact wl_drop t
    · rfl
theorem wl_le : ∀ l : List E, wl ρ l ≤ l.length
  | [] => Nat.le_refl _
  | e :: t => by
    have ih := wl_le t
    unfold wl
    split
    · rw [List.length_cons]; omega
    · omega
theorem drop_wl (l : List E) (i : Nat) : l.drop (i + wl ρ (l.drop i)) = skipN ρ (l.drop i) := by
  obtain ⟨u, hu⟩ : ∃ u, l.drop i = u := ⟨_, rfl⟩
  have h : l.drop (i + wl ρ u) = u.drop (wl ρ u) := by rw [← hu, List.drop_drop]
  rw [hu, h, wl_drop]
def dv (f : List E) : List E → List (List E)
  | [] => clo f
  | e :: t => if ρ e = 0 then dv (f ++ [e]) t else if ρ e = 3 then clo f ++ dv [] t else if ρ e = 2 then f :: dv [] (skipN ρ t) else if hr ρ (skipN ρ t) = 2 then f :: dv [] (skipN ρ (skipN ρ t).tail) else clo f ++ dv [] (skipN ρ t)
termination_by l => l.length
decreasing_by
  all_goals simp_wf
  all_goals have h1 := skipN_len ρ t
  all_goals have h2 := skipN_len ρ (skipN ρ t).tail
  all_goals have h3 : (skipN ρ t).tail.length ≤ (skipN ρ t).length := by rw [List.length_tail]; omega
  all_goals omega
end
end
section
open Go.RowKit Go.Proofs.YtbkhdgfehgfjpaaW.PrintWords Go.Proofs.YtbkhdgfehgfjpaaW.PrintLast
set_option linter.unusedVariables false
set_option linter.unusedSimpArgs false
theorem rd66 (l : List S66) (i : Nat) (h : i < l.length) : rd_T66 l (i : Int) = l[i] := by
  unfold rd_T66
  rw [Int.toNat_natCast, List.getD_eq_getElem?_getD, List.getElem?_eq_getElem h]
  rfl
theorem ev_behind_l0 (ifs : ByteArray) (l : List S66) (hm : l.length ≤ 1000) (hk : ∀ e ∈ l, okE e) : ∀ (d i : Nat), l.length - i = d → i ≤ l.length → Ev (fun k => split_behind.l0 k l (i : Int) ifs) ((i + wl (rl ifs) (l.drop i) : Nat) : Int) := by
  intro d
  induction d with
  | zero =>
    intro i h1 h2
    rw [List.drop_of_length_le (by omega)]
    refine Ev.step (f := fun _ => some ((i + wl (rl ifs) [] : Nat) : Int)) (fun k => ?_) (Ev.now _)
    simp only [split_behind.l0]
    rw [if_neg (by omega)]
    rfl
  | succ d ih =>
    intro i h1 h2
    have hi : i < l.length := by omega
    rw [dropc l i hi]
    have R := ev_role ifs l[i] (hk _ (List.getElem_mem hi))
    refine Ev.step (f := fun k => (split_role.f k l[i].f0 l[i].f1 ifs).bind fun t => if t = 1 then split_behind.l0 k l ((i + 1 : Nat) : Int) ifs else some (i : Int)) (fun k => ?_) (Ev.bind R ?_)
    · simp only [split_behind.l0]
      rw [if_pos (ilt hi), if_pos (ige i), rd66 l i hi, wrapS (by omega)]
    · by_cases h : rl ifs l[i] = 1
      · have e : i + wl (rl ifs) (l[i] :: l.drop (i + 1)) = (i + 1) + wl (rl ifs) (l.drop (i + 1)) := by rw [wl, if_pos h]; omega
        rw [e]
        simp only [if_pos h]
        exact ih (i + 1) (by omega) (by omega)
      · have e : i + wl (rl ifs) (l[i] :: l.drop (i + 1)) = i := by rw [wl, if_neg h]; omega
        rw [e]
        simp only [if_neg h]
        exact Ev.now _
theorem ev_behind (ifs : ByteArray) (l : List S66) (hm : l.length ≤ 1000) (hk : ∀ e ∈ l, okE e) (i : Nat) (hi : i ≤ l.length) : Ev (fun k => split_behind.f k l (i : Int) ifs) ((i + wl (rl ifs) (l.drop i) : Nat) : Int) := ev_behind_l0 ifs l hm hk _ i rfl hi
theorem rl_range (ifs : ByteArray) (e : S66) : rl ifs e = 0 ∨ rl ifs e = 1 ∨ rl ifs e = 2 ∨ rl ifs e = 3 := by
  unfold rl
  split
  · omega
  · split
    · split
      · unfold kd
        split
        · split <;> omega
        · omega
      · omega
    · omega
end
section
open Go.RowKit Go.Proofs.YtbkhdgfehgfjpaaW.PrintWords Go.Proofs.YtbkhdgfehgfjpaaW.PrintLast
set_option linter.unusedVariables false
set_option linter.unusedSimpArgs false
/-- The part of a list from s on, up to i. -/
def part {E : Type} (l : List E) (s i : Nat) : List E := (l.take i).drop s
theorem part_len {E : Type} {l : List E} {s i : Nat} (hi : i ≤ l.length) : (part l s i).length = i - s := by
  unfold part
  rw [List.length_drop, List.length_take]
  omega
theorem part_self {E : Type} (l : List E) (s : Nat) : part l s s = [] := by
  apply List.eq_nil_of_length_eq_zero
  unfold part
  rw [List.length_drop, List.length_take]
  omega
theorem part_succ {E : Type} (l : List E) (s i : Nat) (h : i < l.length) (hs : s ≤ i) : part l s (i + 1) = part l s i ++ [l[i]] := by
  unfold part
  rw [List.take_succ_eq_append_getElem h, List.drop_append_of_le_length (by rw [List.length_take]; omega)]
theorem hr_drop66 (ρ : S66 → Int) (l : List S66) (i : Nat) (h : i < l.length) : hr ρ (l.drop i) = ρ l[i] := by rw [dropc l i h]; rfl
theorem ev_divide_l0 (ifs : ByteArray) (l : List S66) (hm : l.length ≤ 1000) (hk : ∀ e ∈ l, okE e) : ∀ (n s i : Nat) (out : List (List S66)), l.length - i ≤ n → s ≤ i → i ≤ l.length → out.length ≤ s →
    Ev (fun k => split_divide.l0 k l ifs out (s : Int) (i : Int)) (out ++ dv (rl ifs) (part l s i) (l.drop i)) := by
  have fin : ∀ (s i : Nat) (out : List (List S66)), i = l.length → s ≤ i → out.length ≤ s → Ev (fun k => split_divide.l0 k l ifs out (s : Int) (i : Int)) (out ++ dv (rl ifs) (part l s i) (l.drop i)) := by
    intro s i out h1 h2 h4
    rw [List.drop_of_length_le (by omega), dv, clo, part_len (by omega)]
    by_cases h : (s : Int) < (l.length : Int)
    · refine Ev.step (f := fun _ => some (out ++ [part l s i])) (fun k => ?_) ?_
      · simp only [split_divide.l0]
        rw [if_neg (by omega), if_pos h, if_pos (ige s), if_pos (by omega), if_pos (by omega), Int.toNat_natCast]
        rw [part, List.take_of_length_le (by omega)]
      · rw [if_neg (by omega)]; exact Ev.now _
    · refine Ev.step (f := fun _ => some out) (fun k => ?_) ?_
      · simp only [split_divide.l0]
        rw [if_neg (by omega), if_neg h]
      · rw [if_pos (by omega), List.append_nil]; exact Ev.now _
  intro n
  induction n with
  | zero =>
    intro s i out h1 h2 h3 h4
    exact fin s i out (by omega) h2 h4
  | succ n ih =>
    intro s i out h1 h2 h3 h4
    rcases Nat.lt_or_ge i l.length with hi | hi
    case inr => exact fin s i out (by omega) h2 h4
    have hd := dropc l i hi
    have R := ev_role ifs l[i] (hk _ (List.getElem_mem hi))
    have rng := rl_range ifs l[i]
    have ri := rd66 l i hi
    have ho : out.length < 5864062014805 := by omega
    have fl : (part l s i).length = i - s := part_len (by omega)
    have P : (l.take (i : Int).toNat).drop (s : Int).toNat = part l s i := by rw [Int.toNat_natCast, Int.toNat_natCast]; rfl
    -- going on at j with nothing in hand
    have go1 : ∀ (j : Nat) (out2 : List (List S66)), i < j → j ≤ l.length → out2.length ≤ i + 1 → Ev (fun k => split_divide.l0 k l ifs out2 (j : Int) (j : Int)) (out2 ++ dv (rl ifs) [] (l.drop j)) := by
      intro j out2 hj hjl ho2
      have := ih j j out2 (by omega) (Nat.le_refl _) hjl (by omega)
      rw [part_self] at this
      exact this
    have always : ∀ (j : Nat), i < j → j ≤ l.length → Ev (fun k => split_divide.l0 k l ifs (out ++ [part l s i]) (j : Int) (j : Int)) (out ++ (part l s i :: dv (rl ifs) [] (l.drop j))) := by
      intro j hj hjl
      have := go1 j (out ++ [part l s i]) hj hjl (by rw [List.length_append]; simp; omega)
      rw [List.append_assoc] at this
      exact this
    have close : ∀ (j : Nat), i < j → j ≤ l.length → Ev (fun k => if (i : Int) > (s : Int) then split_divide.l0 k l ifs (out ++ [part l s i]) (j : Int) (j : Int) else split_divide.l0 k l ifs out (j : Int) (j : Int)) (out ++ (clo (part l s i) ++ dv (rl ifs) [] (l.drop j))) := by
      intro j hj hjl
      by_cases hg : (i : Int) > (s : Int)
      · simp only [if_pos hg]
        rw [clo, if_neg (by omega)]
        exact always j hj hjl
      · simp only [if_neg hg]
        rw [clo, if_pos (by omega), List.nil_append]
        exact go1 j out hj hjl (by omega)
    have W1 : wrap64 ((i : Int) + 1) = ((i + 1 : Nat) : Int) := wrapS (by omega)
    have hsi : (s : Int) ≤ (i : Int) := by omega
    have hil : (i : Int) ≤ (l.length : Int) := by omega
    have hw1 := wl_le (rl ifs) (l.drop (i + 1))
    rw [List.length_drop] at hw1
    refine Ev.step (fun k => by simp only [split_divide.l0]; rw [if_pos (ilt hi), if_pos (ige i), ri]) (Ev.bind R ?_)
    rw [hd, dv]
    by_cases h0 : rl ifs l[i] = 0
    · simp only [if_pos h0, W1]
      have := ih s (i + 1) out (by omega) (by omega) (by omega) (by omega)
      rw [part_succ l s i hi h2] at this
      exact this
    · by_cases h3' : rl ifs l[i] = 3
      · simp only [if_neg h0, if_pos h3', if_pos (ige s), if_pos hsi, if_pos hil, if_pos ho, P, W1]
        exact close (i + 1) (by omega) (by omega)
      · by_cases h2' : rl ifs l[i] = 2
        · have h1' : ¬ rl ifs l[i] = 1 := by omega
          simp only [if_neg h0, if_neg h3', if_neg h1', if_pos h2', if_pos (ige s), if_pos hsi, if_pos hil, if_pos ho, P, W1]
          have A := always (i + 1 + wl (rl ifs) (l.drop (i + 1))) (by omega) (by omega)
          rw [drop_wl] at A
          exact Ev.bind (f := fun k t => split_divide.l0 k l ifs (out ++ [part l s i]) t t) (ev_behind ifs l hm hk (i + 1) (by omega)) A
        · have h1' : rl ifs l[i] = 1 := by omega
          simp only [if_neg h0, if_neg h3', if_pos h1', if_neg h2']
          obtain ⟨p, hp⟩ : ∃ p, i + 1 + wl (rl ifs) (l.drop (i + 1)) = p := ⟨_, rfl⟩
          have hw : i + wl (rl ifs) (l.drop i) = p := by rw [hd, wl, if_pos h1']; omega
          have hdp : l.drop p = skipN (rl ifs) (l.drop (i + 1)) := by rw [← hp, drop_wl]
          have B := ev_behind ifs l hm hk i (by omega)
          rw [hw] at B
          refine Ev.bind B ?_
          have hpl0 : p ≤ l.length := by omega
          have F : Ev (fun k => split_divide.j1 k l ifs out (s : Int) (i : Int) (p : Int) false) (out ++ (clo (part l s i) ++ dv (rl ifs) [] (l.drop p))) := by
            refine Ev.step (fun k => ?_) (close p (by omega) hpl0)
            simp only [split_divide.j1]
            rw [if_neg (by simp)]
            simp only [if_pos (ige s), if_pos hsi, if_pos hil, if_pos ho, P]
          by_cases hg : (i : Int) > (s : Int)
          · have nil : ¬ (part l s i).length = 0 := by omega
            rcases Nat.lt_or_ge p l.length with hpl | hpl
            · have Rp := ev_role ifs l[p] (hk _ (List.getElem_mem hpl))
              simp only [if_pos hg, if_pos (ilt hpl), if_pos (ige p), rd66 l p hpl]
              refine Ev.bind Rp ?_
              by_cases hm2 : rl ifs l[p] = 2
              · have hh : hr (rl ifs) (skipN (rl ifs) (l.drop (i + 1))) = 2 := by rw [← hdp, hr_drop66 _ l p hpl]; exact hm2
                rw [if_pos hh, ← hdp, List.tail_drop]
                have A := always (p + 1 + wl (rl ifs) (l.drop (p + 1))) (by omega) (by have := wl_le (rl ifs) (l.drop (p + 1)); rw [List.length_drop] at this; omega)
                rw [drop_wl] at A
                have e : (rl ifs l[p] == 2) = true := by rw [hm2]; rfl
                simp only [e]
                refine Ev.step (f := fun k => (split_behind.f k l ((p + 1 : Nat) : Int) ifs).bind fun t => split_divide.l0 k l ifs (out ++ [part l s i]) t t) (fun k => ?_) (Ev.bind (ev_behind ifs l hm hk (p + 1) (by omega)) A)
                simp only [split_divide.j1]
                rw [if_pos trivial, wrapS (by omega)]
                simp only [if_pos hg, if_pos (ige s), if_pos hsi, if_pos hil, if_pos ho, P]
              · have hh : ¬ hr (rl ifs) (skipN (rl ifs) (l.drop (i + 1))) = 2 := by rw [← hdp, hr_drop66 _ l p hpl]; exact hm2
                rw [if_neg hh, ← hdp]
                have e : (rl ifs l[p] == 2) = false := beq_eq_false_iff_ne.2 hm2
                simp only [e]
                exact F
            · have hng : ¬ (p : Int) < (l.length : Int) := by omega
              simp only [if_pos hg, if_neg hng]
              have hh : ¬ hr (rl ifs) (skipN (rl ifs) (l.drop (i + 1))) = 2 := by rw [← hdp, List.drop_of_length_le hpl]; exact (by decide : ¬ (0 : Int) = 2)
              rw [if_neg hh, ← hdp]
              exact F
          · simp only [if_neg hg]
            have nil : part l s i = [] := List.eq_nil_of_length_eq_zero (by omega)
            by_cases hh : hr (rl ifs) (skipN (rl ifs) (l.drop (i + 1))) = 2
            · rw [if_pos hh]
              have c0 : clo ([] : List S66) = [] := rfl
              rw [nil, c0, List.nil_append] at F
              have hpl : p < l.length := by
                rcases Nat.lt_or_ge p l.length with h | h
                · exact h
                · rw [← hdp, List.drop_of_length_le h] at hh
                  exact absurd hh (by decide : ¬ (0 : Int) = 2)
              rw [← hdp, hr_drop66 _ l p hpl] at hh
              have e : dv (rl ifs) [] (l.drop p) = [] :: dv (rl ifs) [] (skipN (rl ifs) (l.drop p).tail) := by
                rw [dropc l p hpl, dv, if_neg (by omega), if_neg (by omega), if_pos hh]
                rfl
              rw [e, hdp] at F
              rw [nil]
              exact F
            · rw [if_neg hh, ← hdp]
              exact F
theorem ev_divide (ifs : ByteArray) (l : List S66) (hm : l.length ≤ 1000) (hk : ∀ e ∈ l, okE e) : Ev (fun k => split_divide.f k l ifs) (dv (rl ifs) [] l) := by
  have := ev_divide_l0 ifs l hm hk l.length 0 0 [] (by omega) (by omega) (by omega) (by simp)
  rw [part_self] at this
  exact this
end
section
open Go.RowKit Go.Proofs.YtbkhdgfehgfjpaaW.PrintWords Go.Proofs.YtbkhdgfehgfjpaaW.PrintLast
set_option linter.unusedVariables false
set_option linter.unusedSimpArgs false
def lastS (acc : List S38) : S38 := acc.getD (acc.length - 1) z38
/-- One more element: into the last run, or a run of its own. -/
def addR (acc : List S38) (t : ByteArray) (c : Int) : List S38 :=
  if acc.length > 0 then (if (lastS acc).f1 = c then acc.set (acc.length - 1) ⟨(lastS acc).f0 ++ t, (lastS acc).f1⟩ else acc ++ [⟨t, c⟩]) else acc ++ [⟨t, c⟩]
def rnF : List S38 → List (ByteArray × Int) → List S38
  | acc, [] => acc
  | acc, x :: r => rnF (addR acc x.1 x.2) r
theorem split_last {acc : List S38} (h : acc.length > 0) : ∃ d x, acc = d ++ [x] ∧ lastS acc = x := by
  have hne : acc ≠ [] := fun e => by rw [e] at h; exact absurd h (by decide)
  refine ⟨acc.dropLast, acc.getLast hne, (List.dropLast_concat_getLast hne).symm, ?_⟩
  unfold lastS
  rw [List.getLast_eq_getElem, List.getD_eq_getElem?_getD, List.getElem?_eq_getElem (by omega)]
  rfl
theorem tot_app (a b : List S38) : tot (a ++ b) = tot a + tot b := by
  unfold tot
  rw [List.map_append, catL_app, List.length_append]
theorem tot_one (x : S38) : tot [x] = x.f0.size := by
  rw [tot_cons]
  rfl
theorem last_le {acc : List S38} (h : acc.length > 0) : (lastS acc).f0.size ≤ tot acc := by
  obtain ⟨d, x, e, hx⟩ := split_last h
  rw [hx, e, tot_app, tot_one]
  omega
theorem addR_snoc (d : List S38) (x : S38) (t : ByteArray) (c : Int) : addR (d ++ [x]) t c = if x.f1 = c then d ++ [⟨x.f0 ++ t, x.f1⟩] else d ++ [x, ⟨t, c⟩] := by
  have hl : lastS (d ++ [x]) = x := by
    unfold lastS
    rw [List.length_append, List.length_singleton, Nat.add_sub_cancel, List.getD_eq_getElem?_getD]
    simp
  unfold addR
  rw [hl, if_pos (by simp)]
  split
  · rw [List.length_append, List.length_singleton, Nat.add_sub_cancel]
    simp
  · simp
theorem addR_len (acc : List S38) (t : ByteArray) (c : Int) : (addR acc t c).length ≤ acc.length + 1 := by
  unfold addR
  split
  · split
    · rw [List.length_set]; omega
    · simp
  · simp
theorem addR_tot (acc : List S38) (t : ByteArray) (c : Int) : tot (addR acc t c) = tot acc + t.size := by
  rcases Nat.eq_zero_or_pos acc.length with h | h
  · obtain rfl := List.eq_nil_of_length_eq_zero h
    show tot [⟨t, c⟩] = _
    rw [tot_one]
    exact (Nat.zero_add _).symm
  · obtain ⟨d, x, rfl, _⟩ := split_last h
    rw [addR_snoc]
    split
    · rw [tot_app, tot_app, tot_one, tot_one, ByteArray.size_append]; omega
    · rw [tot_app, tot_app, tot_one, tot_cons, tot_one]; dsimp only; omega
theorem wrapM {n : Nat} (h : n > 0) (hm : n ≤ 9223372036854775807) : wrap64 ((n : Int) - 1) = ((n - 1 : Nat) : Int) := by unfold wrap64; omega
theorem rdlast (acc : List S38) : rd_T38 acc ((acc.length - 1 : Nat) : Int) = lastS acc := by
  unfold rd_T38 lastS
  rw [Int.toNat_natCast]
def key (e : S66) : ByteArray × Int := (e.f0, e.f1)
def txt66 (l : List S66) : Nat := (catL (l.map (·.f0))).length
theorem txt66_cons (x : S66) (l : List S66) : txt66 (x :: l) = x.f0.size + txt66 l := by
  unfold txt66
  rw [List.map_cons, catL, List.length_append, dl_len]
theorem ev_sruns_l0 (l : List S66) (hm : l.length ≤ 1000) : ∀ (d i : Nat) (acc : List S38), l.length - i = d → i ≤ l.length → acc.length ≤ i → tot acc + txt66 (l.drop i) ≤ 1000 → Ev (fun k => split_runs.l0 k acc l (l.length : Int) (i : Int)) (rnF acc ((l.drop i).map key)) := by
  intro d
  induction d with
  | zero =>
    intro i acc h1 h2 h3 h4
    rw [List.drop_of_length_le (by omega)]
    refine Ev.step (f := fun _ => some acc) (fun k => ?_) (Ev.now _)
    simp only [split_runs.l0]
    rw [if_neg (by omega)]
  | succ d ih =>
    intro i acc h1 h2 h3 h4
    have hi : i < l.length := by omega
    rw [dropc l i hi] at h4 ⊢
    rw [txt66_cons] at h4
    rw [List.map_cons, rnF]
    have L := addR_len acc l[i].f0 l[i].f1
    have T := addR_tot acc l[i].f0 l[i].f1
    have next := ih (i + 1) (addR acc l[i].f0 l[i].f1) (by omega) (by omega) (by omega) (by omega)
    refine Ev.step (fun k => ?_) next
    simp only [split_runs.l0]
    rw [if_pos (ilt hi), if_pos (ige i), if_pos (ilt hi), rd66 l i hi, wrapS (by omega)]
    by_cases hp : acc.length > 0
    · have hl := last_le hp
      rw [if_pos (by omega), wrapM hp (by omega), if_pos (by omega), if_pos (by omega), rdlast, Int.toNat_natCast]
      by_cases hc : (lastS acc).f1 = l[i].f1
      · rw [if_pos hc, if_pos (by omega), addR, if_pos hp, if_pos hc]
      · rw [if_neg hc, if_pos (by omega), addR, if_pos hp, if_neg hc]
    · rw [if_neg (by omega), if_pos (by omega), addR, if_neg hp]
theorem ev_sruns (l : List S66) (hm : l.length ≤ 1000) (ht : txt66 l ≤ 1000) : Ev (fun k => split_runs.f k l) (rnF [] (l.map key)) :=
  ev_sruns_l0 l hm l.length 0 [] (by omega) (by omega) (by simp) (by have : tot [] = 0 := rfl; simpa [this] using ht)
end
section
open Go.RowKit Go.Proofs.YtbkhdgfehgfjpaaW.PrintWords Go.Proofs.YtbkhdgfehgfjpaaW.PrintLast
set_option linter.unusedVariables false
set_option linter.unusedSimpArgs false
section
variable {E : Type} (ρ : E → Int)
theorem skipN_sub : ∀ l : List E, (skipN ρ l).Sublist l
  | [] => List.Sublist.refl _
  | e :: t => by
    rw [skipN]
    split
    · exact (skipN_sub t).cons e
    · exact List.Sublist.refl _
theorem clo_flat (f : List E) : (clo f).flatten = f := by
  unfold clo
  split
  · rename_i h
    rw [List.eq_nil_of_length_eq_zero h]
    rfl
  · simp
theorem dv_sub : ∀ (n : Nat) (f l : List E), l.length ≤ n → (dv ρ f l).flatten.Sublist (f ++ l) ∧ (dv ρ f l).length ≤ l.length + 1 := by
  intro n
  induction n with
  | zero =>
    intro f l hl
    obtain rfl := List.eq_nil_of_length_eq_zero (show l.length = 0 by omega)
    rw [dv, clo_flat, List.append_nil]
    refine ⟨List.Sublist.refl _, ?_⟩
    unfold clo
    split <;> simp
  | succ n ih =>
    intro f l hl
    cases l with
    | nil =>
      rw [dv, clo_flat, List.append_nil]
      refine ⟨List.Sublist.refl _, ?_⟩
      unfold clo
      split <;> simp
    | cons e t =>
      rw [List.length_cons] at hl ⊢
      have k1 := skipN_len ρ t
      have k2 := skipN_len ρ (skipN ρ t).tail
      have k3 : (skipN ρ t).tail.length ≤ (skipN ρ t).length := by rw [List.length_tail]; omega
      have cl : (clo f).length ≤ 1 := by unfold clo; split <;> simp
      have nx : ∀ u : List E, u.length ≤ t.length → u.Sublist t → (f ++ (dv ρ [] u).flatten).Sublist (f ++ e :: t) ∧ (dv ρ [] u).length ≤ t.length + 1 := by
        intro u hu hs
        obtain ⟨a, b⟩ := ih [] u (by omega)
        exact ⟨List.Sublist.append (List.Sublist.refl _) ((a.trans hs).cons e), by omega⟩
      have s1 := skipN_sub ρ t
      have s2 : (skipN ρ (skipN ρ t).tail).Sublist t := (skipN_sub ρ _).trans ((List.tail_sublist _).trans s1)
      rw [dv]
      split
      · obtain ⟨a, b⟩ := ih (f ++ [e]) t (by omega)
        rw [List.append_assoc] at a
        exact ⟨a, by omega⟩
      · split
        · obtain ⟨a, b⟩ := nx t (Nat.le_refl _) (List.Sublist.refl _)
          rw [List.flatten_append, clo_flat, List.length_append]
          exact ⟨a, by omega⟩
        · split
          · obtain ⟨a, b⟩ := nx _ k1 s1
            rw [List.flatten_cons, List.length_cons]
            exact ⟨a, by omega⟩
          · split
            · obtain ⟨a, b⟩ := nx _ (by omega) s2
              rw [List.flatten_cons, List.length_cons]
              exact ⟨a, by omega⟩
            · obtain ⟨a, b⟩ := nx _ k1 s1
              rw [List.flatten_append, clo_flat, List.length_append]
              exact ⟨a, by omega⟩
end
end
section
open Go.RowKit Go.Proofs.YtbkhdgfehgfjpaaW.PrintWords Go.Proofs.YtbkhdgfehgfjpaaW.PrintLast
set_option linter.unusedVariables false
set_option linter.unusedSimpArgs false
theorem rdL5 (l : List (List S66)) (i : Nat) (h : i < l.length) : rd_L5 l (i : Int) = l[i] := by
  unfold rd_L5
  rw [Int.toNat_natCast, List.getD_eq_getElem?_getD, List.getElem?_eq_getElem h]
  rfl
def runS (f : List S66) : List S38 := rnF [] (f.map key)
theorem ev_sFields_l0 (fs : List (List S66)) (hm : fs.length ≤ 1000) (hx : ∀ f ∈ fs, f.length ≤ 1000 ∧ txt66 f ≤ 1000) : ∀ (d i : Nat) (out : List (List S38)), fs.length - i = d → i ≤ fs.length → out.length ≤ i → Ev (fun k => split_Fields.l0 k out fs (fs.length : Int) (i : Int)) (out ++ (fs.drop i).map runS) := by
  intro d
  induction d with
  | zero =>
    intro i out h1 h2 h3
    rw [List.drop_of_length_le (by omega), List.map_nil, List.append_nil]
    refine Ev.step (f := fun _ => some out) (fun k => ?_) (Ev.now _)
    simp only [split_Fields.l0]
    rw [if_neg (by omega)]
  | succ d ih =>
    intro i out h1 h2 h3
    have hi : i < fs.length := by omega
    obtain ⟨a, b⟩ := hx _ (List.getElem_mem hi)
    rw [dropc fs i hi, List.map_cons]
    have next := ih (i + 1) (out ++ [runS fs[i]]) (by omega) (by omega) (by rw [List.length_append]; simp; omega)
    rw [List.append_assoc] at next
    have ho : out.length < 5864062014805 := by omega
    refine Ev.step (f := fun k => (split_runs.f k fs[i]).bind fun t => split_Fields.l0 k (out ++ [t]) fs (fs.length : Int) ((i + 1 : Nat) : Int)) (fun k => ?_) (Ev.bind (ev_sruns _ a b) next)
    simp only [split_Fields.l0]
    rw [if_pos (ilt hi), if_pos (ige i), if_pos (ilt hi), rdL5 fs i hi, wrapS (by omega)]
    simp only [if_pos ho]
end
section
open Go.RowKit Go.Proofs.YtbkhdgfehgfjpaaW.PrintWords Go.Proofs.YtbkhdgfehgfjpaaW.PrintLast
set_option linter.unusedVariables false
set_option linter.unusedSimpArgs false
theorem elR_ok (b : Bool) (x : S38) : ∀ e ∈ elR b x, okE e := by
  intro e he h2
  unfold elR at he
  split at he
  · split at he
    · rw [List.mem_singleton] at he; rw [he] at h2; exact absurd h2 (by decide)
    · cases he
  · split at he
    · split at he
      · rw [List.mem_singleton] at he; rw [he] at h2; exact absurd h2 (by decide)
      · obtain ⟨c, _, rfl⟩ := List.mem_map.1 he
        exact ⟨c, rfl⟩
    · cases he
theorem elF_ok (b : Bool) : ∀ l : List S38, ∀ e ∈ elF b l, okE e
  | [] => fun e he => by cases he
  | x :: t => fun e he => by
    rw [elF, List.mem_append] at he
    rcases he with he | he
    · exact elR_ok b x e he
    · exact elF_ok b t e he
theorem txt66_app (a b : List S66) : txt66 (a ++ b) = txt66 a + txt66 b := by
  unfold txt66
  rw [List.map_append, catL_app, List.length_append]
theorem catL_one (cls : Int) : ∀ cs : List UInt8, catL ((cs.map (oneE cls)).map (·.f0)) = cs
  | [] => rfl
  | c :: t => by
    rw [List.map_cons, List.map_cons, catL, catL_one cls t]
    rfl
theorem elR_txt (b : Bool) (x : S38) : txt66 (elR b x) ≤ x.f0.size := by
  unfold elR
  split
  · split
    · exact Nat.zero_le _
    · exact Nat.zero_le _
  · split
    · split
      · exact Nat.zero_le _
      · unfold txt66; rw [catL_one, dl_len]; exact Nat.le_refl _
    · exact Nat.zero_le _
theorem elF_txt (b : Bool) : ∀ l : List S38, txt66 (elF b l) ≤ tot l
  | [] => Nat.le_refl _
  | x :: t => by
    have ih := elF_txt b t
    have h := elR_txt b x
    rw [elF, txt66_app, tot_cons]
    omega
theorem txt66_sub {a b : List S66} (h : a.Sublist b) : txt66 a ≤ txt66 b := by
  induction h with
  | slnil => exact Nat.le_refl _
  | cons x h ih => rw [txt66_cons]; omega
  | cons_cons x h ih => rw [txt66_cons, txt66_cons]; omega
theorem mem_flat {E : Type} : ∀ {L : List (List E)} {x : List E}, x ∈ L → x.Sublist L.flatten
  | y :: L, x, h => by
    rw [List.flatten_cons]
    rcases List.mem_cons.1 h with h | h
    · rw [h]; exact List.sublist_append_left _ _
    · exact (mem_flat h).trans (List.sublist_append_right _ _)
theorem rnF_len : ∀ (r : List (ByteArray × Int)) (acc : List S38), (rnF acc r).length ≤ acc.length + r.length
  | [], acc => Nat.le_refl _
  | x :: r, acc => by
    have a := rnF_len r (addR acc x.1 x.2)
    have b := addR_len acc x.1 x.2
    rw [rnF, List.length_cons]
    omega
/-- What Fields answers. -/
def fieldsF (l : List S38) (ifs : ByteArray) : List (List S38) := (dv (rl ifs) [] (elF true l)).map runS
section
variable (l : List S38) (ifs : ByteArray) (h1 : l.length ≤ 40) (h2 : tot l ≤ 300)
include h1 h2
theorem dv_bounds : (elF true l).length ≤ 340 ∧ (dv (rl ifs) [] (elF true l)).length ≤ 341 ∧ ∀ f ∈ dv (rl ifs) [] (elF true l), f.length ≤ 340 ∧ txt66 f ≤ 300 := by
  have a := elF_len true l
  obtain ⟨s, n⟩ := dv_sub (rl ifs) (elF true l).length [] (elF true l) (Nat.le_refl _)
  rw [List.nil_append] at s
  refine ⟨by omega, by omega, fun f hf => ?_⟩
  have hs := (mem_flat hf).trans s
  have e := elF_txt true l
  have x := txt66_sub hs
  have y := hs.length_le
  omega
theorem ev_sFields : Ev (fun k => split_Fields.f k l ifs) (fieldsF l ifs) := by
  obtain ⟨a, b, c⟩ := dv_bounds l ifs h1 h2
  unfold split_Fields.f
  refine Ev.bind (ev_elements true l (by omega) (by omega)) ?_
  refine Ev.bind (ev_divide ifs _ (by omega) (elF_ok true l)) ?_
  exact ev_sFields_l0 _ (by omega) (fun f hf => by have := c f hf; omega) _ 0 [] rfl (by omega) (by simp)
end
end
section
open Go.RowKit Go.Proofs.YtbkhdgfehgfjpaaW.PrintWords Go.Proofs.YtbkhdgfehgfjpaaW.PrintLast
set_option linter.unusedVariables false
set_option linter.unusedSimpArgs false
section
variable {E : Type} (ρ : E → Int)
theorem skipN_app (e : E) (B : List E) (h : ρ e ≠ 1) : ∀ A : List E, skipN ρ (A ++ e :: B) = skipN ρ A ++ e :: B
  | [] => by
    show skipN ρ (e :: B) = e :: B
    rw [skipN, if_neg h]
  | a :: t => by
    rw [List.cons_append, skipN]
    split
    · rename_i ha
      rw [skipN_app e B h t]
      congr 1
      conv => rhs; rw [skipN, if_pos ha]
    · rename_i ha
      conv => rhs; rw [skipN, if_neg ha]
      rfl
theorem dv_last (e : E) (h0 : ρ e = 0) : ∀ (n : Nat) (A f : List E), A.length ≤ n → (dv ρ f (A ++ [e])).length > 0 := by
  intro n
  induction n with
  | zero =>
    intro A f h
    obtain rfl := List.eq_nil_of_length_eq_zero (show A.length = 0 by omega)
    rw [List.nil_append, dv, if_pos h0, dv, clo, if_neg (by simp)]
    simp
  | succ n ih =>
    intro A f h
    cases A with
    | nil =>
      rw [List.nil_append, dv, if_pos h0, dv, clo, if_neg (by simp)]
      simp
    | cons a t =>
      rw [List.length_cons] at h
      have k1 := skipN_len ρ t
      have hs : ∀ u : List E, skipN ρ (u ++ [e]) = skipN ρ u ++ [e] := skipN_app ρ e [] (by omega)
      rw [List.cons_append, dv, hs]
      have a1 := ih t [] (by omega)
      have a2 := ih (skipN ρ t) [] (by omega)
      split
      · exact ih t _ (by omega)
      · split
        · rw [List.length_append]; omega
        · split
          · simp
          · split
            · simp
            · rw [List.length_append]; omega
theorem dv_all0 : ∀ (l f : List E), (∀ e ∈ l, ρ e = 0) → dv ρ f l = clo (f ++ l)
  | [], f, _ => by rw [dv, List.append_nil]
  | e :: t, f, h => by
    rw [dv, if_pos (h e (by simp)), dv_all0 t (f ++ [e]) (fun x hx => h x (List.mem_cons_of_mem _ hx)), List.append_assoc]
    rfl
end
theorem elF_app (b : Bool) : ∀ A B : List S38, elF b (A ++ B) = elF b A ++ elF b B
  | [], B => rfl
  | x :: t, B => by rw [List.cons_append, elF, elF, elF_app b t B, List.append_assoc]
end
section
open Go.RowKit Go.Proofs.YtbkhdgfehgfjpaaW.PrintWords Go.Proofs.YtbkhdgfehgfjpaaW.PrintLast
set_option linter.unusedVariables false
set_option linter.unusedSimpArgs false
theorem addR_cat (acc : List S38) (t : ByteArray) (c : Int) : catL ((addR acc t c).map (·.f0)) = catL (acc.map (·.f0)) ++ t.data.toList := by
  have one : ∀ x : S38, catL ([x].map (·.f0)) = x.f0.data.toList := fun x => by rw [List.map_cons, List.map_nil, catL, catL, List.append_nil]
  rcases Nat.eq_zero_or_pos acc.length with h | h
  · obtain rfl := List.eq_nil_of_length_eq_zero h
    show catL ([(⟨t, c⟩ : S38)].map (·.f0)) = _
    rw [one]
    rfl
  · obtain ⟨d, x, rfl, _⟩ := split_last h
    rw [addR_snoc]
    split
    · rw [List.map_append, List.map_append, catL_app, catL_app, one, one, List.append_assoc]
      congr 1
    · rw [show d ++ [x, (⟨t, c⟩ : S38)] = (d ++ [x]) ++ [⟨t, c⟩] by simp, List.map_append, catL_app, one]
theorem rnF_cat : ∀ (r : List (ByteArray × Int)) (acc : List S38), catL ((rnF acc r).map (·.f0)) = catL (acc.map (·.f0)) ++ catL (r.map (·.1))
  | [], acc => by rw [rnF, List.map_nil, catL, List.append_nil]
  | x :: r, acc => by rw [rnF, rnF_cat r, addR_cat, List.map_cons, catL, List.append_assoc]
theorem runS_cat (f : List S66) : catL ((runS f).map (·.f0)) = catL (f.map (·.f0)) := by
  unfold runS
  rw [rnF_cat, List.map_map]
  rfl
theorem kd_zero (ifs : ByteArray) (c : UInt8) : kd ifs c = 0 ↔ ¬ c ∈ ifs.data.toList := by
  unfold kd
  split
  · rename_i h
    refine ⟨fun e => ?_, fun e => absurd h e⟩
    split at e <;> exact absurd e (by decide)
  · rename_i h
    exact ⟨fun _ => h, fun _ => rfl⟩
end
end Go.Proofs.Ytbkhdgfehgfjpaa.PAll
