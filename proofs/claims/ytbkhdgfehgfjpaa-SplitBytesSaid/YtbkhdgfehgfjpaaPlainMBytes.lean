/- Plain lemmas of this claim, out of the session's texts. -/
import Derived.Test.YtbkhdgfehgfjpaaExtText
import Derived.Test.YtbkhdgfehgfjpaaExtJoin
import Derived.Test.YtbkhdgfehgfjpaaPAllx0
import Derived.Test.YtbkhdgfehgfjpaaPAllx10
import Derived.KernelRfl
import Derived.Test.YtbkhdgfehgfjpaaPAllx2
import Derived.Test.YtbkhdgfehgfjpaaPAllx7
import Derived.Test.YtbkhdgfehgfjpaaExtOpen
import Derived.Test.YtbkhdgfehgfjpaaPAllx5
import Derived.Test.YtbkhdgfehgfjpaaPAllx3
import Derived.Test.YtbkhdgfehgfjpaaPAllx4
import Derived.Test.YtbkhdgfehgfjpaaPAllx6
import Derived.Test.YtbkhdgfehgfjpaaPAllx22
namespace Go.Proofs.Ytbkhdgfehgfjpaa.PAll
section
open Go.RowKit Go.Proofs.YtbkhdgfehgfjpaaW.PrintWords Go.Proofs.YtbkhdgfehgfjpaaW.PrintLast
set_option linter.unusedVariables false
set_option linter.unusedSimpArgs false
theorem wrapS {i : Nat} (h : i < 9223372036854775807) : wrap64 ((i : Int) + 1) = ((i + 1 : Nat) : Int) := by unfold wrap64; omega
theorem wrapA {i j : Nat} (h : i + j ≤ 9223372036854775807) : wrap64 ((i : Int) + (j : Int)) = ((i + j : Nat) : Int) := by unfold wrap64; omega
theorem ilt {i n : Nat} (h : i < n) : (i : Int) < (n : Int) := by omega
theorem ige (i : Nat) : (0 : Int) ≤ (i : Int) := by omega
theorem dropc {α : Type} (l : List α) (i : Nat) (h : i < l.length) : l.drop i = l[i] :: l.drop (i + 1) := List.drop_eq_getElem_cons h
theorem rd38 (l : List S38) (i : Nat) (h : i < l.length) : rd_T38 l (i : Int) = l[i] := by
  unfold rd_T38
  rw [Int.toNat_natCast, List.getD_eq_getElem?_getD, List.getElem?_eq_getElem h]
  rfl
theorem dl_len (a : ByteArray) : a.data.toList.length = a.size := by rw [Array.length_toList]; rfl
theorem ba_ext {a b : ByteArray} (h : a.data.toList = b.data.toList) : a = b := by
  cases a; cases b
  congr
  exact Array.toList_inj.1 h
/-- The bytes of the texts together. -/
def tot (l : List S38) : Nat := (catL (l.map (·.f0))).length
theorem tot_cons (x : S38) (l : List S38) : tot (x :: l) = x.f0.size + tot l := by
  unfold tot
  rw [List.map_cons, catL, List.length_append, dl_len]
theorem catL_app (a b : List ByteArray) : catL (a ++ b) = catL a ++ catL b := by
  induction a with
  | nil => rfl
  | cons x t ih => rw [List.cons_append, catL, catL, ih, List.append_assoc]
end
section
open Go.RowKit Go.Proofs.YtbkhdgfehgfjpaaW.PrintWords Go.Proofs.YtbkhdgfehgfjpaaW.PrintLast
theorem awake_at : jobshelllaw18_awake.f 40 = some true := by kernel_rfl
theorem ev_awake : Ev (fun k => (jobshelllaw18_awake.f k).bind fun t => some t) true := Ev.bind (Ev.of jobshelllaw18_awake.mono awake_at) (Ev.now _)
end
section
open Go.RowKit Go.Proofs.YtbkhdgfehgfjpaaW.PrintWords Go.Proofs.YtbkhdgfehgfjpaaW.PrintLast
set_option linter.unusedVariables false
set_option linter.unusedSimpArgs false
theorem ev_Small_l0 (l : List S38) (hg : ∀ x ∈ l, good38 x) (hm : l.length ≤ 9223372036854775807) : ∀ (d i n : Nat), l.length - i = d → i ≤ l.length → n + tot (l.drop i) = tot l → n ≤ 140737488351312 →
    ∃ b, Ev (fun k => jobshellref04_Small.l0 k l 12 80 (n : Int) (i : Int)) b ∧ (b = true → l.length ≤ 12 ∧ tot l ≤ 80) := by
  intro d
  induction d with
  | zero =>
    intro i n h1 h2 h3 h4
    have hi : i = l.length := by omega
    have ht : tot l = n := by
      rw [hi, List.drop_length] at h3
      have : tot ([] : List S38) = 0 := rfl
      omega
    by_cases h : (l.length : Int) ≤ 12
    · refine ⟨decide ((n : Int) ≤ 80), Ev.step (f := fun _ => some (decide ((n : Int) ≤ 80))) (fun k => ?_) (Ev.now _), fun hb => ⟨by omega, by have := of_decide_eq_true hb; omega⟩⟩
      simp only [jobshellref04_Small.l0]
      rw [if_neg (by omega), if_pos h]
    · refine ⟨false, Ev.step (f := fun _ => some false) (fun k => ?_) (Ev.now _), fun hb => by cases hb⟩
      simp only [jobshellref04_Small.l0]
      rw [if_neg (by omega), if_neg h]
  | succ d ih =>
    intro i n h1 h2 h3 h4
    have hi : i < l.length := by omega
    have hs : l[i].f0.size ≤ 140737488351232 := hg _ (List.getElem_mem hi)
    by_cases h12 : (i : Int) ≤ 12
    · by_cases h80 : (n : Int) ≤ 80
      · obtain ⟨b, hb, hb2⟩ := ih (i + 1) (n + l[i].f0.size) (by omega) (by omega) (by rw [dropc l i hi, tot_cons] at h3; omega) (by omega)
        refine ⟨b, Ev.step (fun k => ?_) hb, hb2⟩
        simp only [jobshellref04_Small.l0]
        rw [if_pos (ilt hi), if_pos h12, if_pos h80, if_pos (ige i), rd38 l i hi, wrapS (by omega), wrapA (by omega)]
      · refine ⟨false, Ev.step (f := fun _ => some false) (fun k => ?_) (Ev.now _), fun hb => by cases hb⟩
        simp only [jobshellref04_Small.l0]
        rw [if_pos (ilt hi), if_pos h12, if_neg h80]
        by_cases h : (l.length : Int) ≤ 12
        · rw [if_pos h, decide_eq_false h80]
        · rw [if_neg h]
    · refine ⟨false, Ev.step (f := fun _ => some false) (fun k => ?_) (Ev.now _), fun hb => by cases hb⟩
      simp only [jobshellref04_Small.l0]
      rw [if_pos (ilt hi), if_neg h12, if_neg (by omega)]
theorem ev_small (l : List S38) (hm : l.length ≤ 9223372036854775807) (hg : ∀ x ∈ l, good38 x) : ∃ b, Ev (fun k => jobshelllaw18_small.f k l) b ∧ (b = true → l.length ≤ 12 ∧ tot l ≤ 80) := by
  obtain ⟨b, hb, h2⟩ := ev_Small_l0 l hg hm l.length 0 0 (by omega) (by omega) (by simp) (by omega)
  exact ⟨b, Ev.bind (show Ev (fun k => jobshellref04_Small.f k l 12 80) b from hb) (Ev.now _), h2⟩
theorem size_mk (l : List UInt8) : (⟨l.toArray⟩ : ByteArray).size = l.length := by
  show l.toArray.size = _
  simp
theorem app_mk (a b : List UInt8) : (⟨a.toArray⟩ : ByteArray) ++ ⟨b.toArray⟩ = ⟨(a ++ b).toArray⟩ := by
  apply ba_ext
  rw [ByteArray.data_append]
  simp
theorem app_ba (a : List UInt8) (b : ByteArray) : (⟨a.toArray⟩ : ByteArray) ++ b = ⟨(a ++ b.data.toList).toArray⟩ := by
  apply ba_ext
  rw [ByteArray.data_append]
  simp
end
section
open Go.RowKit Go.Proofs.YtbkhdgfehgfjpaaW.PrintWords Go.Proofs.YtbkhdgfehgfjpaaW.PrintLast
set_option linter.unusedVariables false
set_option linter.unusedSimpArgs false
theorem index_mem : ∀ (l : List UInt8) (c : UInt8), (0 ≤ Lib.indexByte l c) ↔ c ∈ l
  | [], c => by simp [Lib.indexByte]
  | b :: l, c => by
    have ih := index_mem l c
    have hge := Lib.indexByte_ge l c
    unfold Lib.indexByte
    by_cases h : (b == c) = true
    · rw [if_pos h]
      have : b = c := by simpa using h
      simp [this]
    · rw [if_neg h]
      have hne : ¬ c = b := fun e => h (by simp [e])
      by_cases h2 : (Lib.indexByte l c == -1) = true
      · rw [if_pos h2]
        have e : Lib.indexByte l c = -1 := by simpa using h2
        have : ¬ c ∈ l := fun hc => by have := ih.2 hc; omega
        simp [hne, this]
      · rw [if_neg h2]
        have e : ¬ Lib.indexByte l c = -1 := by simpa using h2
        have h0 : 0 ≤ Lib.indexByte l c := by omega
        have := ih.1 h0
        simp [this]
        omega
/-- The role of a byte that is divided at. -/
def kd (ifs : ByteArray) (c : UInt8) : Int := if c ∈ ifs.data.toList then (if c = 32 ∨ c = 9 ∨ c = 10 then 1 else 2) else 0
def rl (ifs : ByteArray) (e : S66) : Int := if e.f1 = 3 then 3 else if e.f1 = 2 then (match e.f0 with | ⟨⟨[c]⟩⟩ => kd ifs c | _ => 0) else 0
/-- An element as the walk makes them. -/
def okE (e : S66) : Prop := e.f1 = 2 → ∃ c, e.f0 = ⟨#[c]⟩
theorem one_eq (c d : UInt8) : (⟨#[c]⟩ : ByteArray).toList = ([d] : List UInt8) ↔ c = d := by
  rw [Go.ByteArray.toList_eq]
  simp
theorem ev_role (ifs : ByteArray) (e : S66) (h : okE e) : Ev (fun k => split_role.f k e.f0 e.f1 ifs) (rl ifs e) := by
  unfold split_role.f rl
  by_cases h3 : e.f1 = 3
  · simp only [if_pos h3]
    exact Ev.now _
  · by_cases h2 : e.f1 = 2
    · obtain ⟨c, hc⟩ := h h2
      simp only [if_neg h3, if_pos h2, hc]
      have hcon : strings_Contains.f ifs ⟨#[c]⟩ = some (decide (c ∈ ifs.data.toList)) := by
        show some (decide (0 ≤ Lib.indexByte ifs.data.toList c)) = _
        congr 1
        exact decide_eq_decide.2 (index_mem _ _)
      simp only [hcon, Option.bind_some]
      show Ev _ (kd ifs c)
      unfold kd
      by_cases hm : c ∈ ifs.data.toList
      · rw [if_pos hm, decide_eq_true hm]
        refine Ev.step (f := fun _ => some (if c = 32 ∨ c = 9 ∨ c = 10 then (1 : Int) else 2)) (fun k => ?_) (Ev.now _)
        simp only [split_role.j0]
        rw [if_neg (by simp)]
        by_cases a1 : c = 32
        · rw [if_pos ((one_eq c 32).2 a1), if_pos (Or.inl a1)]
        · rw [if_neg (fun h => a1 ((one_eq c 32).1 h))]
          by_cases a2 : c = 9
          · rw [if_pos ((one_eq c 9).2 a2), if_pos (Or.inr (Or.inl a2))]
          · rw [if_neg (fun h => a2 ((one_eq c 9).1 h))]
            by_cases a3 : c = 10
            · rw [if_pos ((one_eq c 10).2 a3), if_pos (Or.inr (Or.inr a3))]
            · rw [if_neg (fun h => a3 ((one_eq c 10).1 h)), if_neg (fun h => h.elim a1 (fun h => h.elim a2 a3))]
      · rw [if_neg hm, decide_eq_false hm]
        refine Ev.step (f := fun _ => some (0 : Int)) (fun k => ?_) (Ev.now _)
        simp only [split_role.j0]
        rw [if_pos (by simp)]
    · simp only [if_neg h3, if_neg h2]
      refine Ev.step (f := fun _ => some (0 : Int)) (fun k => ?_) (Ev.now _)
      simp only [split_role.j0]
      rw [if_pos trivial]
theorem bt_nat (s : ByteArray) (i : Nat) (h : i < s.size) : bt s (i : Int) = ((s.data.toList[i]'(by rw [dl_len]; exact h)).toNat : Int) := by
  unfold bt
  rw [dif_pos (show (i : Int).toNat < s.size by rw [Int.toNat_natCast]; exact h)]
  simp [ByteArray.getElem_eq_getElem_data]
end
section
open Go.RowKit Go.Proofs.YtbkhdgfehgfjpaaW.PrintWords Go.Proofs.YtbkhdgfehgfjpaaW.PrintLast
set_option linter.unusedVariables false
set_option linter.unusedSimpArgs false
def oneE (cls : Int) (c : UInt8) : S66 := ⟨⟨#[c]⟩, cls⟩
def elR (b : Bool) (x : S38) : List S66 :=
  if x.f1 = 3 then (if b = true then [⟨⟨#[]⟩, 3⟩] else [])
  else if x.f1 = 0 ∨ x.f1 = 1 ∨ x.f1 = 2 then (if x.f1 = 1 ∧ x.f0.toList = [] then [⟨⟨#[]⟩, 1⟩] else x.f0.data.toList.map (oneE x.f1)) else []
def elF (b : Bool) : List S38 → List S66
  | [] => []
  | x :: t => elR b x ++ elF b t
theorem elR_len (b : Bool) (x : S38) : (elR b x).length ≤ x.f0.size + 1 := by
  unfold elR
  split
  · split <;> simp
  · split
    · split
      · simp
      · rw [List.length_map, dl_len]; omega
    · simp
theorem elF_len (b : Bool) : ∀ l : List S38, (elF b l).length ≤ tot l + l.length
  | [] => by simp [elF]
  | x :: t => by
    have ih := elF_len b t
    have h := elR_len b x
    rw [elF, List.length_append, tot_cons, List.length_cons]
    omega
theorem ext1 (s : ByteArray) (j : Nat) (h : j < s.size) : s.extract j (j + 1) = ⟨#[s.data.toList[j]'(by rw [dl_len]; exact h)]⟩ := by
  apply ba_ext
  have e : (s.extract j (j + 1)).data = s.data.extract j (j + 1) := by simp
  rw [e, Array.toList_extract]
  have h' : j < s.data.toList.length := by rw [dl_len]; exact h
  rw [List.extract_eq_take_drop, dropc _ j h', show j + 1 - j = 1 by omega]
  rfl
theorem ev_el_l1 (b : Bool) (l : List S38) (R : List S66) (i : Nat) (txt : ByteArray) (cls : Int) (ht : txt.size ≤ 1000) (hi : i < 9223372036854775807) : ∀ (d j : Nat) (acc : List S66), txt.size - j = d → j ≤ txt.size → acc.length + (txt.size - j) ≤ 5000 →
    Ev (fun k => split_elements.l0 k b (acc ++ (txt.data.toList.drop j).map (oneE cls)) l (l.length : Int) ((i + 1 : Nat) : Int)) R → Ev (fun k => split_elements.l1 k b acc l (l.length : Int) (i : Int) (txt.size : Int) (j : Int) txt cls) R := by
  intro d
  induction d with
  | zero =>
    intro j acc h1 h2 h3 h
    have hj : j = txt.size := by omega
    rw [List.drop_of_length_le (by rw [dl_len]; omega), List.map_nil, List.append_nil] at h
    refine Ev.step (fun k => ?_) h
    simp only [split_elements.l1]
    rw [if_neg (by omega), wrapS hi]
  | succ d ih =>
    intro j acc h1 h2 h3 h
    have hj : j < txt.size := by omega
    rw [dropc _ j (by rw [dl_len]; exact hj), List.map_cons] at h
    refine Ev.step (fun k => ?_) (ih (j + 1) (acc ++ [oneE cls (txt.data.toList[j]'(by rw [dl_len]; exact hj))]) (by omega) (by omega) (by rw [List.length_append]; simp; omega) (by rw [List.append_assoc]; exact h))
    simp only [split_elements.l1]
    rw [if_pos (ilt hj), if_pos (ige j), wrapS (by omega), if_pos (by omega), if_pos (by omega), if_pos (by omega), Int.toNat_natCast, Int.toNat_natCast, ext1 txt j hj]
    rfl
theorem ev_elements_l0 (b : Bool) (l : List S38) (hm : l.length ≤ 1000) (ht : tot l ≤ 1000) : ∀ (d i : Nat) (acc : List S66), l.length - i = d → i ≤ l.length → tot (l.drop i) ≤ 1000 → acc.length + tot (l.drop i) + (l.length - i) ≤ 5000 → Ev (fun k => split_elements.l0 k b acc l (l.length : Int) (i : Int)) (acc ++ elF b (l.drop i)) := by
  intro d
  induction d with
  | zero =>
    intro i acc h1 h2 h3 h4
    rw [List.drop_of_length_le (by omega)]
    refine Ev.step (f := fun _ => some (acc ++ elF b [])) (fun k => ?_) (Ev.now _)
    simp only [split_elements.l0]
    rw [if_neg (by omega)]
    simp [elF]
  | succ d ih =>
    intro i acc h1 h2 h3 h4
    have hi : i < l.length := by omega
    rw [dropc l i hi] at h3 h4 ⊢
    rw [tot_cons] at h3 h4
    obtain ⟨x, hx⟩ : ∃ x, l[i] = x := ⟨_, rfl⟩
    rw [hx] at h3 h4 ⊢
    have rx := rd38 l i hi
    rw [hx] at rx
    rw [elF]
    have next : ∀ acc2 : List S66, acc2.length ≤ acc.length + x.f0.size + 1 → Ev (fun k => split_elements.l0 k b acc2 l (l.length : Int) ((i + 1 : Nat) : Int)) (acc2 ++ elF b (l.drop (i + 1))) := fun acc2 hl => ih (i + 1) acc2 (by omega) (by omega) (by omega) (by omega)
    have W1 : wrap64 ((i : Int) + 1) = ((i + 1 : Nat) : Int) := wrapS (by omega)
    have zeroE : acc.length < 5864062014805 := by omega
    by_cases c3 : x.f1 = 3
    · have e : elR b x = if b = true then [⟨⟨#[]⟩, 3⟩] else [] := by unfold elR; rw [if_pos c3]
      rw [e]
      by_cases hb : b = true
      · rw [if_pos hb, ← List.append_assoc]
        refine Ev.step (fun k => ?_) (next (acc ++ [⟨⟨#[]⟩, 3⟩]) (by rw [List.length_append]; simp))
        simp only [split_elements.l0]
        rw [if_pos (ilt hi), if_pos (ige i), if_pos (ilt hi), rx, if_pos c3, if_pos hb, if_pos zeroE, W1]
      · rw [if_neg hb, List.nil_append]
        refine Ev.step (fun k => ?_) (next acc (by omega))
        simp only [split_elements.l0]
        rw [if_pos (ilt hi), if_pos (ige i), if_pos (ilt hi), rx, if_pos c3, if_neg hb, W1]
    · -- what follows the choice
      have J1 : ∀ y : Bool, (y = true ↔ (x.f1 = 0 ∨ x.f1 = 1 ∨ x.f1 = 2)) → Ev (fun k => split_elements.j1 k b acc l (l.length : Int) (i : Int) y x.f0 x.f1) (acc ++ (elR b x ++ elF b (l.drop (i + 1)))) := by
        intro y hy
        by_cases ht2 : y = true
        · have hc := hy.1 ht2
          have J3 : ∀ acc2 : List S66, acc2.length ≤ acc.length + 1 → acc2 ++ (x.f0.data.toList.map (oneE x.f1) ++ elF b (l.drop (i + 1))) = acc ++ (elR b x ++ elF b (l.drop (i + 1))) → Ev (fun k => split_elements.j3 k b acc2 l (l.length : Int) (i : Int) x.f0 x.f1) (acc ++ (elR b x ++ elF b (l.drop (i + 1)))) := by
            intro acc2 hl e
            refine Ev.step (f := fun k => split_elements.l1 k b acc2 l (l.length : Int) (i : Int) (x.f0.size : Int) 0 x.f0 x.f1) (fun k => by simp only [split_elements.j3]) ?_
            rw [← e, ← List.append_assoc]
            exact ev_el_l1 b l _ i x.f0 x.f1 (by omega) (by omega) x.f0.size 0 acc2 (by omega) (by omega) (by omega) (next _ (by rw [List.length_append, List.length_map]; simp [dl_len]; omega))
          have J2 : ∀ z : Bool, (z = true ↔ (x.f1 = 1 ∧ x.f0.toList = [])) → Ev (fun k => split_elements.j2 k b acc l (l.length : Int) (i : Int) z x.f0 x.f1) (acc ++ (elR b x ++ elF b (l.drop (i + 1)))) := by
            intro z hz
            by_cases hz2 : z = true
            · have hq := hz.1 hz2
              have e : elR b x = [⟨⟨#[]⟩, 1⟩] := by unfold elR; rw [if_neg c3, if_pos hc, if_pos hq]
              have e2 : x.f0.data.toList = [] := by rw [← Go.ByteArray.toList_eq]; exact hq.2
              refine Ev.step (fun k => ?_) (J3 (acc ++ [⟨⟨#[]⟩, 1⟩]) (by rw [List.length_append]; simp) (by rw [e, e2]; simp))
              simp only [split_elements.j2]
              rw [if_pos hz2, if_pos zeroE]
            · have e : elR b x = x.f0.data.toList.map (oneE x.f1) := by unfold elR; rw [if_neg c3, if_pos hc, if_neg (fun h => hz2 (hz.2 h))]
              refine Ev.step (fun k => ?_) (J3 acc (by omega) (by rw [e]))
              simp only [split_elements.j2]
              rw [if_neg hz2]
          by_cases hn : x.f0.toList = []
          · refine Ev.step (fun k => ?_) (J2 (x.f1 == 1) (by rw [beq_iff_eq]; exact ⟨fun h => ⟨h, hn⟩, fun h => h.1⟩))
            simp only [split_elements.j1]
            rw [if_pos ht2, if_pos hn]
          · refine Ev.step (fun k => ?_) (J2 false ⟨fun h => (by cases h), fun h => absurd h.2 hn⟩)
            simp only [split_elements.j1]
            rw [if_pos ht2, if_neg hn]
        · have e : elR b x = [] := by unfold elR; rw [if_neg c3, if_neg (fun h => ht2 (hy.2 h))]
          rw [e, List.nil_append]
          refine Ev.step (fun k => ?_) (next acc (by omega))
          simp only [split_elements.j1]
          rw [if_neg ht2, W1]
      by_cases c0 : x.f1 = 0
      · refine Ev.step (fun k => ?_) (J1 (x.f1 == 0) (by rw [beq_iff_eq]; exact ⟨Or.inl, fun _ => c0⟩))
        simp only [split_elements.l0]
        rw [if_pos (ilt hi), if_pos (ige i), if_pos (ilt hi), rx, if_neg c3, if_pos c0]
      · by_cases c1 : x.f1 = 1
        · refine Ev.step (fun k => ?_) (J1 (x.f1 == 1) (by rw [beq_iff_eq]; exact ⟨fun h => Or.inr (Or.inl h), fun _ => c1⟩))
          simp only [split_elements.l0]
          rw [if_pos (ilt hi), if_pos (ige i), if_pos (ilt hi), rx, if_neg c3, if_neg c0, if_pos c1]
        · refine Ev.step (fun k => ?_) (J1 (x.f1 == 2) (by rw [beq_iff_eq]; exact ⟨fun h => Or.inr (Or.inr h), fun h => h.elim (fun h => absurd h c0) (fun h => h.elim (fun h => absurd h c1) id)⟩))
          simp only [split_elements.l0]
          rw [if_pos (ilt hi), if_pos (ige i), if_pos (ilt hi), rx, if_neg c3, if_neg c0, if_neg c1]
theorem ev_elements (b : Bool) (l : List S38) (hm : l.length ≤ 1000) (ht : tot l ≤ 1000) : Ev (fun k => split_elements.f k l b) (elF b l) :=
  ev_elements_l0 b l hm ht l.length 0 [] (by omega) (by omega) (by simpa using ht) (by simp; omega)
end
section
open Go.RowKit Go.Proofs.YtbkhdgfehgfjpaaW.PrintWords Go.Proofs.YtbkhdgfehgfjpaaW.PrintLast
set_option linter.unusedVariables false
set_option linter.unusedSimpArgs false
section
variable {E : Type} (ρ : E → Int)
/-- What is left behind the whites. -/
def skipN : List E → List E
  | [] => []
  | e :: t => if ρ e = 1 then skipN t else e :: t
/-- How many whites lead. -/
def wl : List E → Nat
  | [] => 0
  | e :: t => if ρ e = 1 then wl t + 1 else 0
def hr : List E → Int
  | [] => 0
  | e :: _ => ρ e
def clo (f : List E) : List (List E) := if f.length = 0 then [] else [f]
theorem skipN_len : ∀ l : List E, (skipN ρ l).length ≤ l.length
  | [] => Nat.le_refl _
  | e :: t => by
    have ih := skipN_len t
    unfold skipN
    split
    · rw [List.length_cons]; omega
    · exact Nat.le_refl _
theorem wl_drop : ∀ l : List E, l.drop (wl ρ l) = skipN ρ l
  | [] => rfl
  | e :: t => by
    unfold wl skipN
    split
    · rw [List.drop_succ_cons]; exact wl_drop t
    · rfl
theorem wl_le : ∀ l : List E, wl ρ l ≤ l.length
  | [] => Nat.le_refl _
  | e :: t => by
    have ih := wl_le t
    unfold wl
    split
    · rw [List.length_cons]; omega
    · omega
theorem drop_wl (l : List E) (i : Nat) : l.drop (i + wl ρ (l.drop i)) = skipN ρ (l.drop i) := by
  obtain ⟨u, hu⟩ : ∃ u, l.drop i = u := ⟨_, rfl⟩
  have h : l.drop (i + wl ρ u) = u.drop (wl ρ u) := by rw [← hu, List.drop_drop]
  rw [hu, h, wl_drop]
def dv (f : List E) : List E → List (List E)
  | [] => clo f
  | e :: t => if ρ e = 0 then dv (f ++ [e]) t else if ρ e = 3 then clo f ++ dv [] t else if ρ e = 2 then f :: dv [] (skipN ρ t) else if hr ρ (skipN ρ t) = 2 then f :: dv [] (skipN ρ (skipN ρ t).tail) else clo f ++ dv [] (skipN ρ t)
termination_by l => l.length
decreasing_by
  all_goals simp_wf
  all_goals have h1 := skipN_len ρ t
  all_goals have h2 := skipN_len ρ (skipN ρ t).tail
  all_goals have h3 : (skipN ρ t).tail.length ≤ (skipN ρ t).length := by rw [List.length_tail]; omega
  all_goals omega
end
end
section
open Go.RowKit Go.Proofs.YtbkhdgfehgfjpaaW.PrintWords Go.Proofs.YtbkhdgfehgfjpaaW.PrintLast
set_option linter.unusedVariables false
set_option linter.unusedSimpArgs false
theorem rd66 (l : List S66) (i : Nat) (h : i < l.length) : rd_T66 l (i : Int) = l[i] := by
  unfold rd_T66
  rw [Int.toNat_natCast, List.getD_eq_getElem?_getD, List.getElem?_eq_getElem h]
  rfl
theorem ev_behind_l0 (ifs : ByteArray) (l : List S66) (hm : l.length ≤ 1000) (hk : ∀ e ∈ l, okE e) : ∀ (d i : Nat), l.length - i = d → i ≤ l.length → Ev (fun k => split_behind.l0 k l (i : Int) ifs) ((i + wl (rl ifs) (l.drop i) : Nat) : Int) := by
  intro d
  induction d with
  | zero =>
    intro i h1 h2
    rw [List.drop_of_length_le (by omega)]
    refine Ev.step (f := fun _ => some ((i + wl (rl ifs) [] : Nat) : Int)) (fun k => ?_) (Ev.now _)
    simp only [split_behind.l0]
    rw [if_neg (by omega)]
    rfl
  | succ d ih =>
    intro i h1 h2
    have hi : i < l.length := by omega
    rw [dropc l i hi]
    have R := ev_role ifs l[i] (hk _ (List.getElem_mem hi))
    refine Ev.step (f := fun k => (split_role.f k l[i].f0 l[i].f1 ifs).bind fun t => if t = 1 then split_behind.l0 k l ((i + 1 : Nat) : Int) ifs else some (i : Int)) (fun k => ?_) (Ev.bind R ?_)
    · simp only [split_behind.l0]
      rw [if_pos (ilt hi), if_pos (ige i), rd66 l i hi, wrapS (by omega)]
    · by_cases h : rl ifs l[i] = 1
      · have e : i + wl (rl ifs) (l[i] :: l.drop (i + 1)) = (i + 1) + wl (rl ifs) (l.drop (i + 1)) := by rw [wl, if_pos h]; omega
        rw [e]
        simp only [if_pos h]
        exact ih (i + 1) (by omega) (by omega)
      · have e : i + wl (rl ifs) (l[i] :: l.drop (i + 1)) = i := by rw [wl, if_neg h]; omega
        rw [e]
        simp only [if_neg h]
        exact Ev.now _
theorem ev_behind (ifs : ByteArray) (l : List S66) (hm : l.length ≤ 1000) (hk : ∀ e ∈ l, okE e) (i : Nat) (hi : i ≤ l.length) : Ev (fun k => split_behind.f k l (i : Int) ifs) ((i + wl (rl ifs) (l.drop i) : Nat) : Int) := ev_behind_l0 ifs l hm hk _ i rfl hi
theorem rl_range (ifs : ByteArray) (e : S66) : rl ifs e = 0 ∨ rl ifs e = 1 ∨ rl ifs e = 2 ∨ rl ifs e = 3 := by
  unfold rl
  split
  · omega
  · split
    · split
      · unfold kd
        split
        · split <;> omega
        · omega
      · omega
    · omega
end
section
open Go.RowKit Go.Proofs.YtbkhdgfehgfjpaaW.PrintWords Go.Proofs.YtbkhdgfehgfjpaaW.PrintLast
set_option linter.unusedVariables false
set_option linter.unusedSimpArgs false
/-- The part of a list from s on, up to i. -/
def part {E : Type} (l : List E) (s i : Nat) : List E := (l.take i).drop s
theorem part_len {E : Type} {l : List E} {s i : Nat} (hi : i ≤ l.length) : (part l s i).length = i - s := by
  unfold part
  rw [List.length_drop, List.length_take]
  omega
theorem part_self {E : Type} (l : List E) (s : Nat) : part l s s = [] := by
  apply List.eq_nil_of_length_eq_zero
  unfold part
  rw [List.length_drop, List.length_take]
  omega
theorem part_succ {E : Type} (l : List E) (s i : Nat) (h : i < l.length) (hs : s ≤ i) : part l s (i + 1) = part l s i ++ [l[i]] := by
  unfold part
  rw [List.take_succ_eq_append_getElem h, List.drop_append_of_le_length (by rw [List.length_take]; omega)]
theorem hr_drop66 (ρ : S66 → Int) (l : List S66) (i : Nat) (h : i < l.length) : hr ρ (l.drop i) = ρ l[i] := by rw [dropc l i h]; rfl
theorem ev_divide_l0 (ifs : ByteArray) (l : List S66) (hm : l.length ≤ 1000) (hk : ∀ e ∈ l, okE e) : ∀ (n s i : Nat) (out : List (List S66)), l.length - i ≤ n → s ≤ i → i ≤ l.length → out.length ≤ s →
    Ev (fun k => split_divide.l0 k l ifs out (s : Int) (i : Int)) (out ++ dv (rl ifs) (part l s i) (l.drop i)) := by
  have fin : ∀ (s i : Nat) (out : List (List S66)), i = l.length → s ≤ i → out.length ≤ s → Ev (fun k => split_divide.l0 k l ifs out (s : Int) (i : Int)) (out ++ dv (rl ifs) (part l s i) (l.drop i)) := by
    intro s i out h1 h2 h4
    rw [List.drop_of_length_le (by omega), dv, clo, part_len (by omega)]
    by_cases h : (s : Int) < (l.length : Int)
    · refine Ev.step (f := fun _ => some (out ++ [part l s i])) (fun k => ?_) ?_
      · simp only [split_divide.l0]
        rw [if_neg (by omega), if_pos h, if_pos (ige s), if_pos (by omega), if_pos (by omega), Int.toNat_natCast]
        rw [part, List.take_of_length_le (by omega)]
      · rw [if_neg (by omega)]; exact Ev.now _
    · refine Ev.step (f := fun _ => some out) (fun k => ?_) ?_
      · simp only [split_divide.l0]
        rw [if_neg (by omega), if_neg h]
      · rw [if_pos (by omega), List.append_nil]; exact Ev.now _
  intro n
  induction n with
  | zero =>
    intro s i out h1 h2 h3 h4
    exact fin s i out (by omega) h2 h4
  | succ n ih =>
    intro s i out h1 h2 h3 h4
    rcases Nat.lt_or_ge i l.length with hi | hi
    case inr => exact fin s i out (by omega) h2 h4
    have hd := dropc l i hi
    have R := ev_role ifs l[i] (hk _ (List.getElem_mem hi))
    have rng := rl_range ifs l[i]
    have ri := rd66 l i hi
    have ho : out.length < 5864062014805 := by omega
    have fl : (part l s i).length = i - s := part_len (by omega)
    have P : (l.take (i : Int).toNat).drop (s : Int).toNat = part l s i := by rw [Int.toNat_natCast, Int.toNat_natCast]; rfl
    -- going on at j with nothing in hand
    have go1 : ∀ (j : Nat) (out2 : List (List S66)), i < j → j ≤ l.length → out2.length ≤ i + 1 → Ev (fun k => split_divide.l0 k l ifs out2 (j : Int) (j : Int)) (out2 ++ dv (rl ifs) [] (l.drop j)) := by
      intro j out2 hj hjl ho2
      have := ih j j out2 (by omega) (Nat.le_refl _) hjl (by omega)
      rw [part_self] at this
      exact this
    have always : ∀ (j : Nat), i < j → j ≤ l.length → Ev (fun k => split_divide.l0 k l ifs (out ++ [part l s i]) (j : Int) (j : Int)) (out ++ (part l s i :: dv (rl ifs) [] (l.drop j))) := by
      intro j hj hjl
      have := go1 j (out ++ [part l s i]) hj hjl (by rw [List.length_append]; simp; omega)
      rw [List.append_assoc] at this
      exact this
    have close : ∀ (j : Nat), i < j → j ≤ l.length → Ev (fun k => if (i : Int) > (s : Int) then split_divide.l0 k l ifs (out ++ [part l s i]) (j : Int) (j : Int) else split_divide.l0 k l ifs out (j : Int) (j : Int)) (out ++ (clo (part l s i) ++ dv (rl ifs) [] (l.drop j))) := by
      intro j hj hjl
      by_cases hg : (i : Int) > (s : Int)
      · simp only [if_pos hg]
        rw [clo, if_neg (by omega)]
        exact always j hj hjl
      · simp only [if_neg hg]
        rw [clo, if_pos (by omega), List.nil_append]
        exact go1 j out hj hjl (by omega)
    have W1 : wrap64 ((i : Int) + 1) = ((i + 1 : Nat) : Int) := wrapS (by omega)
    have hsi : (s : Int) ≤ (i : Int) := by omega
    have hil : (i : Int) ≤ (l.length : Int) := by omega
    have hw1 := wl_le (rl ifs) (l.drop (i + 1))
    rw [List.length_drop] at hw1
    refine Ev.step (fun k => by simp only [split_divide.l0]; rw [if_pos (ilt hi), if_pos (ige i), ri]) (Ev.bind R ?_)
    rw [hd, dv]
    by_cases h0 : rl ifs l[i] = 0
    · simp only [if_pos h0, W1]
      have := ih s (i + 1) out (by omega) (by omega) (by omega) (by omega)
      rw [part_succ l s i hi h2] at this
      exact this
    · by_cases h3' : rl ifs l[i] = 3
      · simp only [if_neg h0, if_pos h3', if_pos (ige s), if_pos hsi, if_pos hil, if_pos ho, P, W1]
        exact close (i + 1) (by omega) (by omega)
      · by_cases h2' : rl ifs l[i] = 2
        · have h1' : ¬ rl ifs l[i] = 1 := by omega
          simp only [if_neg h0, if_neg h3', if_neg h1', if_pos h2', if_pos (ige s), if_pos hsi, if_pos hil, if_pos ho, P, W1]
          have A := always (i + 1 + wl (rl ifs) (l.drop (i + 1))) (by omega) (by omega)
          rw [drop_wl] at A
          exact Ev.bind (f := fun k t => split_divide.l0 k l ifs (out ++ [part l s i]) t t) (ev_behind ifs l hm hk (i + 1) (by omega)) A
        · have h1' : rl ifs l[i] = 1 := by omega
          simp only [if_neg h0, if_neg h3', if_pos h1', if_neg h2']
          obtain ⟨p, hp⟩ : ∃ p, i + 1 + wl (rl ifs) (l.drop (i + 1)) = p := ⟨_, rfl⟩
          have hw : i + wl (rl ifs) (l.drop i) = p := by rw [hd, wl, if_pos h1']; omega
          have hdp : l.drop p = skipN (rl ifs) (l.drop (i + 1)) := by rw [← hp, drop_wl]
          have B := ev_behind ifs l hm hk i (by omega)
          rw [hw] at B
          refine Ev.bind B ?_
          have hpl0 : p ≤ l.length := by omega
          have F : Ev (fun k => split_divide.j1 k l ifs out (s : Int) (i : Int) (p : Int) false) (out ++ (clo (part l s i) ++ dv (rl ifs) [] (l.drop p))) := by
            refine Ev.step (fun k => ?_) (close p (by omega) hpl0)
            simp only [split_divide.j1]
            rw [if_neg (by simp)]
            simp only [if_pos (ige s), if_pos hsi, if_pos hil, if_pos ho, P]
          by_cases hg : (i : Int) > (s : Int)
          · have nil : ¬ (part l s i).length = 0 := by omega
            rcases Nat.lt_or_ge p l.length with hpl | hpl
            · have Rp := ev_role ifs l[p] (hk _ (List.getElem_mem hpl))
              simp only [if_pos hg, if_pos (ilt hpl), if_pos (ige p), rd66 l p hpl]
              refine Ev.bind Rp ?_
              by_cases hm2 : rl ifs l[p] = 2
              · have hh : hr (rl ifs) (skipN (rl ifs) (l.drop (i + 1))) = 2 := by rw [← hdp, hr_drop66 _ l p hpl]; exact hm2
                rw [if_pos hh, ← hdp, List.tail_drop]
                have A := always (p + 1 + wl (rl ifs) (l.drop (p + 1))) (by omega) (by have := wl_le (rl ifs) (l.drop (p + 1)); rw [List.length_drop] at this; omega)
                rw [drop_wl] at A
                have e : (rl ifs l[p] == 2) = true := by rw [hm2]; rfl
                simp only [e]
                refine Ev.step (f := fun k => (split_behind.f k l ((p + 1 : Nat) : Int) ifs).bind fun t => split_divide.l0 k l ifs (out ++ [part l s i]) t t) (fun k => ?_) (Ev.bind (ev_behind ifs l hm hk (p + 1) (by omega)) A)
                simp only [split_divide.j1]
                rw [if_pos trivial, wrapS (by omega)]
                simp only [if_pos hg, if_pos (ige s), if_pos hsi, if_pos hil, if_pos ho, P]
              · have hh : ¬ hr (rl ifs) (skipN (rl ifs) (l.drop (i + 1))) = 2 := by rw [← hdp, hr_drop66 _ l p hpl]; exact hm2
                rw [if_neg hh, ← hdp]
                have e : (rl ifs l[p] == 2) = false := beq_eq_false_iff_ne.2 hm2
                simp only [e]
                exact F
            · have hng : ¬ (p : Int) < (l.length : Int) := by omega
              simp only [if_pos hg, if_neg hng]
              have hh : ¬ hr (rl ifs) (skipN (rl ifs) (l.drop (i + 1))) = 2 := by rw [← hdp, List.drop_of_length_le hpl]; exact (by decide : ¬ (0 : Int) = 2)
              rw [if_neg hh, ← hdp]
              exact F
          · simp only [if_neg hg]
            have nil : part l s i = [] := List.eq_nil_of_length_eq_zero (by omega)
            by_cases hh : hr (rl ifs) (skipN (rl ifs) (l.drop (i + 1))) = 2
            · rw [if_pos hh]
              have c0 : clo ([] : List S66) = [] := rfl
              rw [nil, c0, List.nil_append] at F
              have hpl : p < l.length := by
                rcases Nat.lt_or_ge p l.length with h | h
                · exact h
                · rw [← hdp, List.drop_of_length_le h] at hh
                  exact absurd hh (by decide : ¬ (0 : Int) = 2)
              rw [← hdp, hr_drop66 _ l p hpl] at hh
              have e : dv (rl ifs) [] (l.drop p) = [] :: dv (rl ifs) [] (skipN (rl ifs) (l.drop p).tail) := by
                rw [dropc l p hpl, dv, if_neg (by omega), if_neg (by omega), if_pos hh]
                rfl
              rw [e, hdp] at F
              rw [nil]
              exact F
            · rw [if_neg hh, ← hdp]
              exact F
theorem ev_divide (ifs : ByteArray) (l : List S66) (hm : l.length ≤ 1000) (hk : ∀ e ∈ l, okE e) : Ev (fun k => split_divide.f k l ifs) (dv (rl ifs) [] l) := by
  have := ev_divide_l0 ifs l hm hk l.length 0 0 [] (by omega) (by omega) (by omega) (by simp)
  rw [part_self] at this
  exact this
end
section
open Go.RowKit Go.Proofs.YtbkhdgfehgfjpaaW.PrintWords Go.Proofs.YtbkhdgfehgfjpaaW.PrintLast
set_option linter.unusedVariables false
set_option linter.unusedSimpArgs false
def lastS (acc : List S38) : S38 := acc.getD (acc.length - 1) z38
/-- One more element: into the last run, or a run of its own. -/
def addR (acc : List S38) (t : ByteArray) (c : Int) : List S38 :=
  if acc.length > 0 then (if (lastS acc).f1 = c then acc.set (acc.length - 1) ⟨(lastS acc).f0 ++ t, (lastS acc).f1⟩ else acc ++ [⟨t, c⟩]) else acc ++ [⟨t, c⟩]
def rnF : List S38 → List (ByteArray × Int) → List S38
  | acc, [] => acc
  | acc, x :: r => rnF (addR acc x.1 x.2) r
theorem split_last {acc : List S38} (h : acc.length > 0) : ∃ d x, acc = d ++ [x] ∧ lastS acc = x := by
  have hne : acc ≠ [] := fun e => by rw [e] at h; exact absurd h (by decide)
  refine ⟨acc.dropLast, acc.getLast hne, (List.dropLast_concat_getLast hne).symm, ?_⟩
  unfold lastS
  rw [List.getLast_eq_getElem, List.getD_eq_getElem?_getD, List.getElem?_eq_getElem (by omega)]
  rfl
theorem tot_app (a b : List S38) : tot (a ++ b) = tot a + tot b := by
  unfold tot
  rw [List.map_append, catL_app, List.length_append]
theorem tot_one (x : S38) : tot [x] = x.f0.size := by
  rw [tot_cons]
  rfl
theorem last_le {acc : List S38} (h : acc.length > 0) : (lastS acc).f0.size ≤ tot acc := by
  obtain ⟨d, x, e, hx⟩ := split_last h
  rw [hx, e, tot_app, tot_one]
  omega
theorem addR_snoc (d : List S38) (x : S38) (t : ByteArray) (c : Int) : addR (d ++ [x]) t c = if x.f1 = c then d ++ [⟨x.f0 ++ t, x.f1⟩] else d ++ [x, ⟨t, c⟩] := by
  have hl : lastS (d ++ [x]) = x := by
    unfold lastS
    rw [List.length_append, List.length_singleton, Nat.add_sub_cancel, List.getD_eq_getElem?_getD]
    simp
  unfold addR
  rw [hl, if_pos (by simp)]
  split
  · rw [List.length_append, List.length_singleton, Nat.add_sub_cancel]
    simp
  · simp
theorem addR_len (acc : List S38) (t : ByteArray) (c : Int) : (addR acc t c).length ≤ acc.length + 1 := by
  unfold addR
  split
  · split
    · rw [List.length_set]; omega
    · simp
  · simp
theorem addR_tot (acc : List S38) (t : ByteArray) (c : Int) : tot (addR acc t c) = tot acc + t.size := by
  rcases Nat.eq_zero_or_pos acc.length with h | h
  · obtain rfl := List.eq_nil_of_length_eq_zero h
    show tot [⟨t, c⟩] = _
    rw [tot_one]
    exact (Nat.zero_add _).symm
  · obtain ⟨d, x, rfl, _⟩ := split_last h
    rw [addR_snoc]
    split
    · rw [tot_app, tot_app, tot_one, tot_one, ByteArray.size_append]; omega
    · rw [tot_app, tot_app, tot_one, tot_cons, tot_one]; dsimp only; omega
theorem wrapM {n : Nat} (h : n > 0) (hm : n ≤ 9223372036854775807) : wrap64 ((n : Int) - 1) = ((n - 1 : Nat) : Int) := by unfold wrap64; omega
theorem rdlast (acc : List S38) : rd_T38 acc ((acc.length - 1 : Nat) : Int) = lastS acc := by
  unfold rd_T38 lastS
  rw [Int.toNat_natCast]
def key (e : S66) : ByteArray × Int := (e.f0, e.f1)
def txt66 (l : List S66) : Nat := (catL (l.map (·.f0))).length
theorem txt66_cons (x : S66) (l : List S66) : txt66 (x :: l) = x.f0.size + txt66 l := by
  unfold txt66
  rw [List.map_cons, catL, List.length_append, dl_len]
theorem ev_sruns_l0 (l : List S66) (hm : l.length ≤ 1000) : ∀ (d i : Nat) (acc : List S38), l.length - i = d → i ≤ l.length → acc.length ≤ i → tot acc + txt66 (l.drop i) ≤ 1000 → Ev (fun k => split_runs.l0 k acc l (l.length : Int) (i : Int)) (rnF acc ((l.drop i).map key)) := by
  intro d
  induction d with
  | zero =>
    intro i acc h1 h2 h3 h4
    rw [List.drop_of_length_le (by omega)]
    refine Ev.step (f := fun _ => some acc) (fun k => ?_) (Ev.now _)
    simp only [split_runs.l0]
    rw [if_neg (by omega)]
  | succ d ih =>
    intro i acc h1 h2 h3 h4
    have hi : i < l.length := by omega
    rw [dropc l i hi] at h4 ⊢
    rw [txt66_cons] at h4
    rw [List.map_cons, rnF]
    have L := addR_len acc l[i].f0 l[i].f1
    have T := addR_tot acc l[i].f0 l[i].f1
    have next := ih (i + 1) (addR acc l[i].f0 l[i].f1) (by omega) (by omega) (by omega) (by omega)
    refine Ev.step (fun k => ?_) next
    simp only [split_runs.l0]
    rw [if_pos (ilt hi), if_pos (ige i), if_pos (ilt hi), rd66 l i hi, wrapS (by omega)]
    by_cases hp : acc.length > 0
    · have hl := last_le hp
      rw [if_pos (by omega), wrapM hp (by omega), if_pos (by omega), if_pos (by omega), rdlast, Int.toNat_natCast]
      by_cases hc : (lastS acc).f1 = l[i].f1
      · rw [if_pos hc, if_pos (by omega), addR, if_pos hp, if_pos hc]
      · rw [if_neg hc, if_pos (by omega), addR, if_pos hp, if_neg hc]
    · rw [if_neg (by omega), if_pos (by omega), addR, if_neg hp]
theorem ev_sruns (l : List S66) (hm : l.length ≤ 1000) (ht : txt66 l ≤ 1000) : Ev (fun k => split_runs.f k l) (rnF [] (l.map key)) :=
  ev_sruns_l0 l hm l.length 0 [] (by omega) (by omega) (by simp) (by have : tot [] = 0 := rfl; simpa [this] using ht)
end
section
open Go.RowKit Go.Proofs.YtbkhdgfehgfjpaaW.PrintWords Go.Proofs.YtbkhdgfehgfjpaaW.PrintLast
set_option linter.unusedVariables false
set_option linter.unusedSimpArgs false
section
variable {E : Type} (ρ : E → Int)
theorem skipN_sub : ∀ l : List E, (skipN ρ l).Sublist l
  | [] => List.Sublist.refl _
  | e :: t => by
    rw [skipN]
    split
    · exact (skipN_sub t).cons e
    · exact List.Sublist.refl _
theorem clo_flat (f : List E) : (clo f).flatten = f := by
  unfold clo
  split
  · rename_i h
    rw [List.eq_nil_of_length_eq_zero h]
    rfl
  · simp
theorem dv_sub : ∀ (n : Nat) (f l : List E), l.length ≤ n → (dv ρ f l).flatten.Sublist (f ++ l) ∧ (dv ρ f l).length ≤ l.length + 1 := by
  intro n
  induction n with
  | zero =>
    intro f l hl
    obtain rfl := List.eq_nil_of_length_eq_zero (show l.length = 0 by omega)
    rw [dv, clo_flat, List.append_nil]
    refine ⟨List.Sublist.refl _, ?_⟩
    unfold clo
    split <;> simp
  | succ n ih =>
    intro f l hl
    cases l with
    | nil =>
      rw [dv, clo_flat, List.append_nil]
      refine ⟨List.Sublist.refl _, ?_⟩
      unfold clo
      split <;> simp
    | cons e t =>
      rw [List.length_cons] at hl ⊢
      have k1 := skipN_len ρ t
      have k2 := skipN_len ρ (skipN ρ t).tail
      have k3 : (skipN ρ t).tail.length ≤ (skipN ρ t).length := by rw [List.length_tail]; omega
      have cl : (clo f).length ≤ 1 := by unfold clo; split <;> simp
      have nx : ∀ u : List E, u.length ≤ t.length → u.Sublist t → (f ++ (dv ρ [] u).flatten).Sublist (f ++ e :: t) ∧ (dv ρ [] u).length ≤ t.length + 1 := by
        intro u hu hs
        obtain ⟨a, b⟩ := ih [] u (by omega)
        exact ⟨List.Sublist.append (List.Sublist.refl _) ((a.trans hs).cons e), by omega⟩
      have s1 := skipN_sub ρ t
      have s2 : (skipN ρ (skipN ρ t).tail).Sublist t := (skipN_sub ρ _).trans ((List.tail_sublist _).trans s1)
      rw [dv]
      split
      · obtain ⟨a, b⟩ := ih (f ++ [e]) t (by omega)
        rw [List.append_assoc] at a
        exact ⟨a, by omega⟩
      · split
        · obtain ⟨a, b⟩ := nx t (Nat.le_refl _) (List.Sublist.refl _)
          rw [List.flatten_append, clo_flat, List.length_append]
          exact ⟨a, by omega⟩
        · split
          · obtain ⟨a, b⟩ := nx _ k1 s1
            rw [List.flatten_cons, List.length_cons]
            exact ⟨a, by omega⟩
          · split
            · obtain ⟨a, b⟩ := nx _ (by omega) s2
              rw [List.flatten_cons, List.length_cons]
              exact ⟨a, by omega⟩
            · obtain ⟨a, b⟩ := nx _ k1 s1
              rw [List.flatten_append, clo_flat, List.length_append]
              exact ⟨a, by omega⟩
end
end
section
open Go.RowKit Go.Proofs.YtbkhdgfehgfjpaaW.PrintWords Go.Proofs.YtbkhdgfehgfjpaaW.PrintLast
set_option linter.unusedVariables false
set_option linter.unusedSimpArgs false
theorem rdL5 (l : List (List S66)) (i : Nat) (h : i < l.length) : rd_L5 l (i : Int) = l[i] := by
  unfold rd_L5
  rw [Int.toNat_natCast, List.getD_eq_getElem?_getD, List.getElem?_eq_getElem h]
  rfl
def runS (f : List S66) : List S38 := rnF [] (f.map key)
theorem ev_sFields_l0 (fs : List (List S66)) (hm : fs.length ≤ 1000) (hx : ∀ f ∈ fs, f.length ≤ 1000 ∧ txt66 f ≤ 1000) : ∀ (d i : Nat) (out : List (List S38)), fs.length - i = d → i ≤ fs.length → out.length ≤ i → Ev (fun k => split_Fields.l0 k out fs (fs.length : Int) (i : Int)) (out ++ (fs.drop i).map runS) := by
  intro d
  induction d with
  | zero =>
    intro i out h1 h2 h3
    rw [List.drop_of_length_le (by omega), List.map_nil, List.append_nil]
    refine Ev.step (f := fun _ => some out) (fun k => ?_) (Ev.now _)
    simp only [split_Fields.l0]
    rw [if_neg (by omega)]
  | succ d ih =>
    intro i out h1 h2 h3
    have hi : i < fs.length := by omega
    obtain ⟨a, b⟩ := hx _ (List.getElem_mem hi)
    rw [dropc fs i hi, List.map_cons]
    have next := ih (i + 1) (out ++ [runS fs[i]]) (by omega) (by omega) (by rw [List.length_append]; simp; omega)
    rw [List.append_assoc] at next
    have ho : out.length < 5864062014805 := by omega
    refine Ev.step (f := fun k => (split_runs.f k fs[i]).bind fun t => split_Fields.l0 k (out ++ [t]) fs (fs.length : Int) ((i + 1 : Nat) : Int)) (fun k => ?_) (Ev.bind (ev_sruns _ a b) next)
    simp only [split_Fields.l0]
    rw [if_pos (ilt hi), if_pos (ige i), if_pos (ilt hi), rdL5 fs i hi, wrapS (by omega)]
    simp only [if_pos ho]
end
section
open Go.RowKit Go.Proofs.YtbkhdgfehgfjpaaW.PrintWords Go.Proofs.YtbkhdgfehgfjpaaW.PrintLast
set_option linter.unusedVariables false
set_option linter.unusedSimpArgs false
theorem elR_ok (b : Bool) (x : S38) : ∀ e ∈ elR b x, okE e := by
  intro e he h2
  unfold elR at he
  split at he
  · split at he
    · rw [List.mem_singleton] at he; rw [he] at h2; exact absurd h2 (by decide)
    · cases he
  · split at he
    · split at he
      · rw [List.mem_singleton] at he; rw [he] at h2; exact absurd h2 (by decide)
      · obtain ⟨c, _, rfl⟩ := List.mem_map.1 he
        exact ⟨c, rfl⟩
    · cases he
theorem elF_ok (b : Bool) : ∀ l : List S38, ∀ e ∈ elF b l, okE e
  | [] => fun e he => by cases he
  | x :: t => fun e he => by
    rw [elF, List.mem_append] at he
    rcases he with he | he
    · exact elR_ok b x e he
    · exact elF_ok b t e he
theorem txt66_app (a b : List S66) : txt66 (a ++ b) = txt66 a + txt66 b := by
  unfold txt66
  rw [List.map_append, catL_app, List.length_append]
theorem catL_one (cls : Int) : ∀ cs : List UInt8, catL ((cs.map (oneE cls)).map (·.f0)) = cs
  | [] => rfl
  | c :: t => by
    rw [List.map_cons, List.map_cons, catL, catL_one cls t]
    rfl
theorem elR_txt (b : Bool) (x : S38) : txt66 (elR b x) ≤ x.f0.size := by
  unfold elR
  split
  · split
    · exact Nat.zero_le _
    · exact Nat.zero_le _
  · split
    · split
      · exact Nat.zero_le _
      · unfold txt66; rw [catL_one, dl_len]; exact Nat.le_refl _
    · exact Nat.zero_le _
theorem elF_txt (b : Bool) : ∀ l : List S38, txt66 (elF b l) ≤ tot l
  | [] => Nat.le_refl _
  | x :: t => by
    have ih := elF_txt b t
    have h := elR_txt b x
    rw [elF, txt66_app, tot_cons]
    omega
theorem txt66_sub {a b : List S66} (h : a.Sublist b) : txt66 a ≤ txt66 b := by
  induction h with
  | slnil => exact Nat.le_refl _
  | cons x h ih => rw [txt66_cons]; omega
  | cons_cons x h ih => rw [txt66_cons, txt66_cons]; omega
theorem mem_flat {E : Type} : ∀ {L : List (List E)} {x : List E}, x ∈ L → x.Sublist L.flatten
  | y :: L, x, h => by
    rw [List.flatten_cons]
    rcases List.mem_cons.1 h with h | h
    · rw [h]; exact List.sublist_append_left _ _
    · exact (mem_flat h).trans (List.sublist_append_right _ _)
theorem rnF_len : ∀ (r : List (ByteArray × Int)) (acc : List S38), (rnF acc r).length ≤ acc.length + r.length
  | [], acc => Nat.le_refl _
  | x :: r, acc => by
    have a := rnF_len r (addR acc x.1 x.2)
    have b := addR_len acc x.1 x.2
    rw [rnF, List.length_cons]
    omega
/-- What Fields answers. -/
def fieldsF (l : List S38) (ifs : ByteArray) : List (List S38) := (dv (rl ifs) [] (elF true l)).map runS
section
variable (l : List S38) (ifs : ByteArray) (h1 : l.length ≤ 40) (h2 : tot l ≤ 300)
include h1 h2
theorem dv_bounds : (elF true l).length ≤ 340 ∧ (dv (rl ifs) [] (elF true l)).length ≤ 341 ∧ ∀ f ∈ dv (rl ifs) [] (elF true l), f.length ≤ 340 ∧ txt66 f ≤ 300 := by
  have a := elF_len true l
  obtain ⟨s, n⟩ := dv_sub (rl ifs) (elF true l).length [] (elF true l) (Nat.le_refl _)
  rw [List.nil_append] at s
  refine ⟨by omega, by omega, fun f hf => ?_⟩
  have hs := (mem_flat hf).trans s
  have e := elF_txt true l
  have x := txt66_sub hs
  have y := hs.length_le
  omega
theorem ev_sFields : Ev (fun k => split_Fields.f k l ifs) (fieldsF l ifs) := by
  obtain ⟨a, b, c⟩ := dv_bounds l ifs h1 h2
  unfold split_Fields.f
  refine Ev.bind (ev_elements true l (by omega) (by omega)) ?_
  refine Ev.bind (ev_divide ifs _ (by omega) (elF_ok true l)) ?_
  exact ev_sFields_l0 _ (by omega) (fun f hf => by have := c f hf; omega) _ 0 [] rfl (by omega) (by simp)
end
end
section
open Go.RowKit Go.Proofs.YtbkhdgfehgfjpaaW.PrintWords Go.Proofs.YtbkhdgfehgfjpaaW.PrintLast
set_option linter.unusedVariables false
set_option linter.unusedSimpArgs false
section
variable {E : Type} (ρ : E → Int)
theorem skipN_filter : ∀ l : List E, (skipN ρ l).filter (fun e => ρ e == 0) = l.filter (fun e => ρ e == 0)
  | [] => rfl
  | e :: t => by
    rw [skipN]
    split
    · rename_i h
      rw [skipN_filter t, List.filter_cons_of_neg (by rw [h]; decide)]
    · rfl
theorem dv_flat : ∀ (n : Nat) (f l : List E), l.length ≤ n → (dv ρ f l).flatten = f ++ l.filter (fun e => ρ e == 0) := by
  intro n
  induction n with
  | zero =>
    intro f l h
    obtain rfl := List.eq_nil_of_length_eq_zero (show l.length = 0 by omega)
    rw [dv, clo_flat, List.filter_nil, List.append_nil]
  | succ n ih =>
    intro f l h
    cases l with
    | nil => rw [dv, clo_flat, List.filter_nil, List.append_nil]
    | cons e t =>
      rw [List.length_cons] at h
      have k1 := skipN_len ρ t
      have k2 := skipN_len ρ (skipN ρ t).tail
      have k3 : (skipN ρ t).tail.length ≤ (skipN ρ t).length := by rw [List.length_tail]; omega
      rw [dv]
      by_cases c0 : ρ e = 0
      · rw [if_pos c0, ih _ t (by omega), List.filter_cons_of_pos (by rw [c0]; rfl), List.append_assoc]
        rfl
      · rw [if_neg c0, List.filter_cons_of_neg (by simpa using c0)]
        by_cases c3 : ρ e = 3
        · rw [if_pos c3, List.flatten_append, clo_flat, ih [] t (by omega)]
          rfl
        · rw [if_neg c3]
          by_cases c2 : ρ e = 2
          · rw [if_pos c2, List.flatten_cons, ih [] _ (by omega), skipN_filter]
            rfl
          · rw [if_neg c2]
            split
            · rename_i hh
              rw [List.flatten_cons, ih [] _ (by omega), skipN_filter, ← skipN_filter ρ t]
              congr 1
              obtain ⟨s, hs⟩ : ∃ s, skipN ρ t = s := ⟨_, rfl⟩
              rw [hs] at hh ⊢
              cases s with
              | nil => rfl
              | cons x s =>
                have hx : ρ x = 2 := hh
                rw [List.tail_cons, List.filter_cons_of_neg (by rw [hx]; decide)]
                rfl
            · rw [List.flatten_append, clo_flat, ih [] _ (by omega), skipN_filter]
              rfl
end
end
section
open Go.RowKit Go.Proofs.YtbkhdgfehgfjpaaW.PrintWords Go.Proofs.YtbkhdgfehgfjpaaW.PrintLast
set_option linter.unusedVariables false
set_option linter.unusedSimpArgs false
theorem addR_cat (acc : List S38) (t : ByteArray) (c : Int) : catL ((addR acc t c).map (·.f0)) = catL (acc.map (·.f0)) ++ t.data.toList := by
  have one : ∀ x : S38, catL ([x].map (·.f0)) = x.f0.data.toList := fun x => by rw [List.map_cons, List.map_nil, catL, catL, List.append_nil]
  rcases Nat.eq_zero_or_pos acc.length with h | h
  · obtain rfl := List.eq_nil_of_length_eq_zero h
    show catL ([(⟨t, c⟩ : S38)].map (·.f0)) = _
    rw [one]
    rfl
  · obtain ⟨d, x, rfl, _⟩ := split_last h
    rw [addR_snoc]
    split
    · rw [List.map_append, List.map_append, catL_app, catL_app, one, one, List.append_assoc]
      congr 1
    · rw [show d ++ [x, (⟨t, c⟩ : S38)] = (d ++ [x]) ++ [⟨t, c⟩] by simp, List.map_append, catL_app, one]
theorem rnF_cat : ∀ (r : List (ByteArray × Int)) (acc : List S38), catL ((rnF acc r).map (·.f0)) = catL (acc.map (·.f0)) ++ catL (r.map (·.1))
  | [], acc => by rw [rnF, List.map_nil, catL, List.append_nil]
  | x :: r, acc => by rw [rnF, rnF_cat r, addR_cat, List.map_cons, catL, List.append_assoc]
theorem runS_cat (f : List S66) : catL ((runS f).map (·.f0)) = catL (f.map (·.f0)) := by
  unfold runS
  rw [rnF_cat, List.map_map]
  rfl
theorem flat_cat : ∀ L : List (List S66), catL ((L.map runS).flatten.map (·.f0)) = catL (L.flatten.map (·.f0))
  | [] => rfl
  | f :: L => by rw [List.map_cons, List.flatten_cons, List.flatten_cons, List.map_append, List.map_append, catL_app, catL_app, runS_cat, flat_cat L]
/-- Neighbours differ in class. -/
def adj (l : List S38) : Prop := ∀ (j : Nat) (a b : S38), l[j]? = some a → l[j + 1]? = some b → a.f1 ≠ b.f1
theorem adj_snoc (d : List S38) (x : S38) (y : S38) (h : adj (d ++ [x])) (hy : x.f1 ≠ y.f1) : adj (d ++ [x, y]) := by
  intro j a b ha hb
  rcases Nat.lt_trichotomy (j + 1) (d.length + 1) with hj | hj | hj
  · have e : ∀ i, i < d.length + 1 → (d ++ [x, y])[i]? = (d ++ [x])[i]? := by
      intro i hi
      rw [show d ++ [x, y] = (d ++ [x]) ++ [y] by simp, List.getElem?_append_left (by simp; omega)]
    rw [e j (by omega)] at ha
    rw [e (j + 1) (by omega)] at hb
    exact h j a b ha hb
  · have hj' : j = d.length := by omega
    subst hj'
    rw [List.getElem?_append_right (Nat.le_refl _), Nat.sub_self] at ha
    rw [List.getElem?_append_right (by omega), Nat.add_sub_cancel_left] at hb
    obtain rfl := Option.some.inj ha
    obtain rfl := Option.some.inj hb
    exact hy
  · rw [List.getElem?_eq_none (by simp; omega)] at hb
    cases hb
theorem adj_swap (d : List S38) (x y : S38) (h : adj (d ++ [x])) (hy : x.f1 = y.f1) : adj (d ++ [y]) := by
  intro j a b ha hb
  have hlt : j + 1 < d.length + 1 := by
    rcases Nat.lt_or_ge (j + 1) (d.length + 1) with h | h
    · exact h
    · rw [List.getElem?_eq_none (by simp; omega)] at hb; cases hb
  rw [List.getElem?_append_left (by omega)] at ha
  have ha' : (d ++ [x])[j]? = some a := by rw [List.getElem?_append_left (by omega)]; exact ha
  rcases Nat.lt_or_ge (j + 1) d.length with h2 | h2
  · rw [List.getElem?_append_left h2] at hb
    exact h j a b ha' (by rw [List.getElem?_append_left h2]; exact hb)
  · have e : j + 1 = d.length := by omega
    rw [e, List.getElem?_append_right (Nat.le_refl _), Nat.sub_self] at hb
    obtain rfl := Option.some.inj hb
    have := h j a x ha' (by rw [e, List.getElem?_append_right (Nat.le_refl _), Nat.sub_self]; rfl)
    rw [← hy]
    exact this
theorem addR_adj (acc : List S38) (t : ByteArray) (c : Int) (h : adj acc) : adj (addR acc t c) := by
  rcases Nat.eq_zero_or_pos acc.length with h0 | h0
  · obtain rfl := List.eq_nil_of_length_eq_zero h0
    intro j a b _ hb
    have : ([(⟨t, c⟩ : S38)])[j + 1]? = some b := hb
    simp at this
  · obtain ⟨d, x, rfl, _⟩ := split_last h0
    rw [addR_snoc]
    split
    · exact adj_swap d x _ h rfl
    · rename_i hc
      exact adj_snoc d x _ h hc
theorem rnF_adj : ∀ (r : List (ByteArray × Int)) (acc : List S38), adj acc → adj (rnF acc r)
  | [], acc, h => h
  | x :: r, acc, h => by rw [rnF]; exact rnF_adj r _ (addR_adj acc x.1 x.2 h)
theorem runS_adj (f : List S66) : adj (runS f) := rnF_adj _ _ (fun j a b ha _ => by simp at ha)
/-- A byte that the fields keep. -/
def keep (ifs : ByteArray) (cls : Int) (c : UInt8) : Bool := decide (cls = 0 ∨ cls = 1 ∨ (cls = 2 ∧ ¬ c ∈ ifs.data.toList))
def ownF (ifs : ByteArray) : List S38 → List UInt8
  | [] => []
  | x :: t => x.f0.data.toList.filter (keep ifs x.f1) ++ ownF ifs t
theorem kd_zero (ifs : ByteArray) (c : UInt8) : kd ifs c = 0 ↔ ¬ c ∈ ifs.data.toList := by
  unfold kd
  split
  · rename_i h
    refine ⟨fun e => ?_, fun e => absurd h e⟩
    split at e <;> exact absurd e (by decide)
  · rename_i h
    exact ⟨fun _ => h, fun _ => rfl⟩
theorem own_cs (ifs : ByteArray) (cls : Int) (hc : cls = 0 ∨ cls = 1 ∨ cls = 2) : ∀ cs : List UInt8, catL (((cs.map (oneE cls)).filter (fun e => rl ifs e == 0)).map (·.f0)) = cs.filter (keep ifs cls)
  | [] => rfl
  | c :: t => by
    have ih := own_cs ifs cls hc t
    rw [List.map_cons]
    by_cases hk : keep ifs cls c = true
    · have hz : rl ifs (oneE cls c) = 0 := by
        unfold keep at hk
        have hk := of_decide_eq_true hk
        unfold rl oneE
        dsimp only
        rw [if_neg (by omega)]
        by_cases h2 : cls = 2
        · rw [if_pos h2]
          have : ¬ c ∈ ifs.data.toList := hk.elim (fun h => by omega) (fun h => h.elim (fun h => by omega) (fun h => h.2))
          exact (kd_zero ifs c).2 this
        · rw [if_neg h2]
      rw [List.filter_cons_of_pos (by rw [hz]; rfl), List.filter_cons_of_pos hk, List.map_cons, catL, ih]
      rfl
    · have hz : ¬ rl ifs (oneE cls c) = 0 := by
        intro hz
        apply hk
        unfold keep
        refine decide_eq_true ?_
        rcases hc with hc | hc | hc
        · exact Or.inl hc
        · exact Or.inr (Or.inl hc)
        · refine Or.inr (Or.inr ⟨hc, ?_⟩)
          unfold rl oneE at hz
          dsimp only at hz
          rw [if_neg (by omega), if_pos hc] at hz
          exact (kd_zero ifs c).1 hz
      rw [List.filter_cons_of_neg (by simpa using hz), List.filter_cons_of_neg hk, ih]
theorem own_elR (ifs : ByteArray) (x : S38) : catL (((elR true x).filter (fun e => rl ifs e == 0)).map (·.f0)) = x.f0.data.toList.filter (keep ifs x.f1) := by
  unfold elR
  by_cases c3 : x.f1 = 3
  · rw [if_pos c3, if_pos rfl]
    have : x.f0.data.toList.filter (keep ifs x.f1) = [] := by
      rw [List.filter_eq_nil_iff]
      intro c _ h
      have := of_decide_eq_true h
      omega
    rw [this]
    rfl
  · rw [if_neg c3]
    by_cases c012 : x.f1 = 0 ∨ x.f1 = 1 ∨ x.f1 = 2
    · rw [if_pos c012]
      by_cases ce : x.f1 = 1 ∧ x.f0.toList = []
      · rw [if_pos ce]
        have e2 : x.f0.data.toList = [] := by rw [← Go.ByteArray.toList_eq]; exact ce.2
        rw [e2]
        rfl
      · rw [if_neg ce]
        exact own_cs ifs x.f1 c012 _
    · rw [if_neg c012]
      have : x.f0.data.toList.filter (keep ifs x.f1) = [] := by
        rw [List.filter_eq_nil_iff]
        intro c _ h
        have := of_decide_eq_true h
        omega
      rw [this]
      rfl
theorem own_elF (ifs : ByteArray) : ∀ l : List S38, catL (((elF true l).filter (fun e => rl ifs e == 0)).map (·.f0)) = ownF ifs l
  | [] => rfl
  | x :: t => by rw [elF, List.filter_append, List.map_append, catL_app, own_elR, own_elF ifs t, ownF]
theorem fields_cat (l : List S38) (ifs : ByteArray) : catL ((fieldsF l ifs).flatten.map (·.f0)) = ownF ifs l := by
  unfold fieldsF
  rw [flat_cat, dv_flat (rl ifs) _ [] _ (Nat.le_refl _), List.nil_append, own_elF]
theorem ownF_len (ifs : ByteArray) : ∀ l : List S38, (ownF ifs l).length ≤ tot l
  | [] => Nat.zero_le _
  | x :: t => by
    have ih := ownF_len ifs t
    have h := List.length_filter_le (keep ifs x.f1) x.f0.data.toList
    rw [dl_len] at h
    rw [ownF, List.length_append, tot_cons]
    omega
theorem ev_separator_l0 (ifs : ByteArray) (hm : ifs.size ≤ 9223372036854775807) (c : UInt8) : ∀ (d i : Nat), ifs.size - i = d → i ≤ ifs.size → Ev (fun k => jobshelllaw18_separator.l0 k (c.toNat : Int) ifs (i : Int)) (decide (c ∈ ifs.data.toList.drop i)) := by
  intro d
  induction d with
  | zero =>
    intro i h1 h2
    rw [List.drop_of_length_le (by rw [dl_len]; omega)]
    refine Ev.step (f := fun _ => some false) (fun k => ?_) (by simpa using Ev.now _)
    simp only [jobshelllaw18_separator.l0]
    rw [if_neg (by omega)]
  | succ d ih =>
    intro i h1 h2
    have hi : i < ifs.size := by omega
    have hi' : i < ifs.data.toList.length := by rw [dl_len]; exact hi
    rw [dropc _ i hi']
    by_cases he : ifs.data.toList[i] = c
    · have e : decide (c ∈ ifs.data.toList[i] :: ifs.data.toList.drop (i + 1)) = true := by rw [he]; simp
      rw [e]
      refine Ev.step (f := fun _ => some true) (fun k => ?_) (Ev.now _)
      simp only [jobshelllaw18_separator.l0]
      rw [if_pos (ilt hi), if_pos (ige i), if_pos (by rw [bt_nat ifs i hi, he])]
    · have e : decide (c ∈ ifs.data.toList[i] :: ifs.data.toList.drop (i + 1)) = decide (c ∈ ifs.data.toList.drop (i + 1)) := by
        congr 1
        rw [List.mem_cons]
        exact propext ⟨fun h => h.elim (fun h => absurd h.symm he) id, Or.inr⟩
      rw [e]
      refine Ev.step (fun k => ?_) (ih (i + 1) (by omega) (by omega))
      simp only [jobshelllaw18_separator.l0]
      rw [if_pos (ilt hi), if_pos (ige i), if_neg (by rw [bt_nat ifs i hi]; intro h; exact he (UInt8.toNat_inj.1 (by omega))), wrapS (by omega)]
theorem ev_separator (ifs : ByteArray) (hm : ifs.size ≤ 9223372036854775807) (c : UInt8) : Ev (fun k => jobshelllaw18_separator.f k (c.toNat : Int) ifs) (decide (c ∈ ifs.data.toList)) := ev_separator_l0 ifs hm c _ 0 rfl (by omega)
theorem ev_bytes_l3 (own : ByteArray) (L : List (List S38)) (hos : own.size ≤ 10000) (f : List S38) (hf : f.length ≤ 100) (ha : adj f) (i : Nat) (hi : i < L.length) (hfi : L[i] = f) (hil : i ≤ 1000) (rest : List UInt8)
    (next : ∀ acc : List UInt8, acc ++ rest = own.data.toList → Ev (fun k => jobshelllaw18_SplitBytes.l2 k own ⟨acc.toArray⟩ L ((i + 1 : Nat) : Int)) true) : ∀ (d j : Nat) (acc : List UInt8), f.length - j = d → j ≤ f.length → acc ++ (catL ((f.drop j).map (·.f0)) ++ rest) = own.data.toList → Ev (fun k => jobshelllaw18_SplitBytes.l3 k own ⟨acc.toArray⟩ L (i : Int) (j : Int)) true := by
  have rf : rd_L6 L (i : Int) = f := by
    unfold rd_L6
    rw [Int.toNat_natCast, List.getD_eq_getElem?_getD, List.getElem?_eq_getElem hi, hfi]
    rfl
  intro d
  induction d with
  | zero =>
    intro j acc h1 h2 h3
    rw [List.drop_of_length_le (by omega)] at h3
    refine Ev.step (f := fun k => jobshelllaw18_SplitBytes.j6 k own ⟨acc.toArray⟩ L (i : Int) (j : Int) false) (fun k => ?_) ?_
    · simp only [jobshelllaw18_SplitBytes.l3]
      rw [if_pos (ige i), if_pos (ilt hi), rf, if_neg (by omega)]
    · refine Ev.step (fun k => ?_) (next acc h3)
      simp only [jobshelllaw18_SplitBytes.j6]
      rw [if_neg (by simp), wrapS (by omega)]
  | succ d ih =>
    intro j acc h1 h2 h3
    have hj : j < f.length := by omega
    rw [dropc f j hj, List.map_cons, catL] at h3
    have sz : acc.length + f[j].f0.size ≤ 10000 := by
      have := congrArg List.length h3
      rw [List.length_append, List.length_append, List.length_append, dl_len, dl_len] at this
      omega
    have n := ih (j + 1) (acc ++ f[j].f0.data.toList) (by omega) (by omega) (by rw [← h3]; simp)
    have room : (⟨acc.toArray⟩ : ByteArray).size + f[j].f0.size ≤ 9223372036854775807 := by rw [size_mk]; omega
    refine Ev.step (f := fun k => jobshelllaw18_SplitBytes.j6 k own ⟨acc.toArray⟩ L (i : Int) (j : Int) true) (fun k => ?_) ?_
    · simp only [jobshelllaw18_SplitBytes.l3]
      rw [if_pos (ige i), if_pos (ilt hi), rf, if_pos (ilt hj), decide_eq_true (show (j : Int) ≤ 100 by omega)]
    · refine Ev.step (fun k => ?_) n
      simp only [jobshelllaw18_SplitBytes.j6]
      by_cases h0 : j > 0
      · have hne : ¬ (f[j - 1]'(by omega)).f1 = f[j].f1 := ha (j - 1) _ _ (List.getElem?_eq_getElem (by omega)) (by rw [show j - 1 + 1 = j by omega]; exact List.getElem?_eq_getElem hj)
        rw [if_pos trivial, if_pos (by omega), if_pos (ige i), if_pos (ilt hi), wrapM h0 (by omega), if_pos (ige _), rf, if_pos (by omega), if_pos (ige j), if_pos (ilt hj), rd38 f (j - 1) (by omega), rd38 f j hj, if_neg hne, if_pos room, wrapS (by omega), app_ba]
      · rw [if_pos trivial, if_neg (by omega), if_pos (ige i), if_pos (ilt hi), if_pos (ige j), rf, if_pos (ilt hj), rd38 f j hj, if_pos room, wrapS (by omega), app_ba]
theorem ev_bytes_l2 (own : ByteArray) (L : List (List S38)) (hos : own.size ≤ 10000) (hL : L.length ≤ 100) (hx : ∀ f ∈ L, f.length ≤ 100 ∧ adj f) : ∀ (d i : Nat) (acc : List UInt8), L.length - i = d → i ≤ L.length → acc ++ catL ((L.drop i).flatten.map (·.f0)) = own.data.toList → Ev (fun k => jobshelllaw18_SplitBytes.l2 k own ⟨acc.toArray⟩ L (i : Int)) true := by
  intro d
  induction d with
  | zero =>
    intro i acc h1 h2 h3
    rw [List.drop_of_length_le (by omega)] at h3
    have e : (⟨acc.toArray⟩ : ByteArray) = own := ba_ext (by rw [← h3]; simp [catL])
    rw [e]
    refine Ev.step (f := fun k => jobshelllaw18_SplitBytes.j4 k own own L (i : Int) false) (fun k => ?_) ?_
    · simp only [jobshelllaw18_SplitBytes.l2]
      rw [if_neg (by omega)]
    · refine Ev.step (fun k => ?_) ev_awake
      simp only [jobshelllaw18_SplitBytes.j4]
      rw [if_neg (by simp), if_pos trivial]
  | succ d ih =>
    intro i acc h1 h2 h3
    have hi : i < L.length := by omega
    rw [dropc L i hi, List.flatten_cons, List.map_append, catL_app] at h3
    obtain ⟨a, b⟩ := hx _ (List.getElem_mem hi)
    refine Ev.step (f := fun k => jobshelllaw18_SplitBytes.j4 k own ⟨acc.toArray⟩ L (i : Int) true) (fun k => ?_) ?_
    · simp only [jobshelllaw18_SplitBytes.l2]
      rw [if_pos (ilt hi), decide_eq_true (show (i : Int) ≤ 100 by omega)]
    · refine Ev.step (fun k => ?_) (ev_bytes_l3 own L hos L[i] a b i hi rfl (by omega) _ (fun acc2 h => ih (i + 1) acc2 (by omega) (by omega) h) _ 0 acc rfl (by omega) h3)
      simp only [jobshelllaw18_SplitBytes.j4]
      rw [if_pos trivial]
      rfl
end
section
open Go.RowKit Go.Proofs.YtbkhdgfehgfjpaaW.PrintWords Go.Proofs.YtbkhdgfehgfjpaaW.PrintLast
set_option linter.unusedVariables false
set_option linter.unusedSimpArgs false
theorem app_byte (a : List UInt8) (c : UInt8) : (⟨a.toArray⟩ : ByteArray) ++ (⟨#[c]⟩ : ByteArray) = ⟨(a ++ [c]).toArray⟩ := by
  have := app_mk a [c]
  exact this
theorem room1 (acc : List UInt8) (c : UInt8) (h : acc.length ≤ 7000) : (⟨acc.toArray⟩ : ByteArray).size + (⟨#[c]⟩ : ByteArray).size ≤ 9223372036854775807 := by
  have e1 : (⟨#[c]⟩ : ByteArray).size = 1 := rfl
  have e2 := size_mk acc
  omega
set_option maxHeartbeats 1000000 in
theorem ev_bytes_l1 (ifs : ByteArray) (hs : ifs.size ≤ 9223372036854775807) (l : List S38) (i : Nat) (hi : i < l.length) (hil : i ≤ 1000) (x : S38) (hx : l[i] = x) (hxs : x.f0.size ≤ 1000)
    (A : List UInt8) (hA : A.length ≤ 5000)
    (fin : Ev (fun k => jobshelllaw18_SplitBytes.l0 k l ifs ⟨(A ++ x.f0.data.toList.filter (keep ifs x.f1)).toArray⟩ ((i + 1 : Nat) : Int)) true) : ∀ (d j : Nat) (acc : List UInt8), x.f0.size - j = d → j ≤ x.f0.size → acc.length ≤ A.length + j → acc ++ (x.f0.data.toList.drop j).filter (keep ifs x.f1) = A ++ x.f0.data.toList.filter (keep ifs x.f1) → Ev (fun k => jobshelllaw18_SplitBytes.l1 k l ifs ⟨acc.toArray⟩ (i : Int) (j : Int)) true := by
  have rx : rd_T38 l (i : Int) = x := by rw [rd38 l i hi, hx]
  intro d
  induction d with
  | zero =>
    intro j acc h1 h2 h3 h4
    rw [List.drop_of_length_le (by rw [dl_len]; omega), List.filter_nil, List.append_nil] at h4
    subst h4
    refine Ev.step (fun k => ?_) fin
    simp only [jobshelllaw18_SplitBytes.l1]
    rw [if_pos (ige i), if_pos (ilt hi), rx, if_neg (by omega), wrapS (by omega)]
  | succ d ih =>
    intro j acc h1 h2 h3 h4
    have hj : j < x.f0.size := by omega
    have hj' : j < x.f0.data.toList.length := by rw [dl_len]; exact hj
    rw [dropc _ j hj'] at h4
    have hacc : acc.length ≤ 7000 := by omega
    have hjw : j < 9223372036854775807 := by omega
    have hjs : j + 1 ≤ x.f0.size := hj
    have hd1 : x.f0.size - (j + 1) = d := by omega
    have ha1 : acc.length + 1 ≤ A.length + (j + 1) := by omega
    have ha0 : acc.length ≤ A.length + (j + 1) := by omega
    have lt1 : (j : Int) ≤ ((j + 1 : Nat) : Int) := by omega
    have lt2 : ((j + 1 : Nat) : Int) ≤ (x.f0.size : Int) := Int.ofNat_le.2 hj
    have W : wrap64 ((j : Int) + 1) = ((j + 1 : Nat) : Int) := wrapS hjw
    have X := ext1 x.f0 j hj
    have B := bt_nat x.f0 j hj
    obtain ⟨c, hc⟩ : ∃ c, x.f0.data.toList[j] = c := ⟨_, rfl⟩
    rw [hc] at h4 X B
    by_cases hk : keep ifs x.f1 c = true
    · rw [List.filter_cons_of_pos hk] at h4
      have n := ih (j + 1) (acc ++ [c]) hd1 hjs (by rw [List.length_append]; exact ha1) (by rw [← h4]; simp)
      have hk2 := of_decide_eq_true hk
      by_cases c0 : x.f1 = 0
      · refine Ev.step (fun k => ?_) n
        simp only [jobshelllaw18_SplitBytes.l1]
        rw [if_pos (ige i), if_pos (ilt hi), rx, if_pos (ilt hj), if_pos c0, if_pos (ige j), W, if_pos lt1, if_pos lt2, Int.toNat_natCast, Int.toNat_natCast, X, if_pos (room1 acc c hacc), app_byte]
      · by_cases c1 : x.f1 = 1
        · refine Ev.step (fun k => ?_) n
          simp only [jobshelllaw18_SplitBytes.l1]
          rw [if_pos (ige i), if_pos (ilt hi), rx, if_pos (ilt hj), if_neg c0, if_pos c1, if_pos (ige j), W, if_pos lt1, if_pos lt2, Int.toNat_natCast, Int.toNat_natCast, X, if_pos (room1 acc c hacc), app_byte]
        · have c2 : x.f1 = 2 := hk2.elim (fun h => absurd h c0) (fun h => h.elim (fun h => absurd h c1) (fun h => h.1))
          have nm : ¬ c ∈ ifs.data.toList := hk2.elim (fun h => absurd h c0) (fun h => h.elim (fun h => absurd h c1) (fun h => h.2))
          refine Ev.step (fun k => by
            simp only [jobshelllaw18_SplitBytes.l1]
            rw [if_pos (ige i), if_pos (ilt hi), rx, if_pos (ilt hj), if_neg c0, if_neg c1, if_pos c2, if_pos (ige j), B, W, if_pos lt1, if_pos lt2, Int.toNat_natCast, Int.toNat_natCast, X, if_pos (room1 acc c hacc), app_byte]) (Ev.bind (ev_separator ifs hs c) ?_)
          rw [decide_eq_false nm]
          exact n
    · rw [List.filter_cons_of_neg hk] at h4
      have n := ih (j + 1) acc hd1 hjs ha0 h4
      have hk2 : ¬ (x.f1 = 0 ∨ x.f1 = 1 ∨ (x.f1 = 2 ∧ ¬ c ∈ ifs.data.toList)) := fun h => hk (decide_eq_true h)
      have c0 : ¬ x.f1 = 0 := fun h => hk2 (Or.inl h)
      have c1 : ¬ x.f1 = 1 := fun h => hk2 (Or.inr (Or.inl h))
      by_cases c2 : x.f1 = 2
      · have nm : c ∈ ifs.data.toList := by
          by_cases h : c ∈ ifs.data.toList
          · exact h
          · exact absurd (Or.inr (Or.inr ⟨c2, h⟩)) hk2
        refine Ev.step (fun k => by
          simp only [jobshelllaw18_SplitBytes.l1]
          rw [if_pos (ige i), if_pos (ilt hi), rx, if_pos (ilt hj), if_neg c0, if_neg c1, if_pos c2, if_pos (ige j), B, W, if_pos lt1, if_pos lt2, Int.toNat_natCast, Int.toNat_natCast, X, if_pos (room1 acc c hacc), app_byte]) (Ev.bind (ev_separator ifs hs c) ?_)
        rw [decide_eq_true nm]
        exact n
      · refine Ev.step (fun k => ?_) n
        simp only [jobshelllaw18_SplitBytes.l1]
        rw [if_pos (ige i), if_pos (ilt hi), rx, if_pos (ilt hj), if_neg c0, if_neg c1, if_neg c2, W]
theorem ev_bytes_l0 (l : List S38) (ifs : ByteArray) (h1 : l.length ≤ 12) (h2 : tot l ≤ 80) (hs : ifs.size ≤ 9223372036854775807) : ∀ (d i : Nat) (acc : List UInt8), l.length - i = d → i ≤ l.length → tot (l.drop i) ≤ 80 → acc.length + (ownF ifs (l.drop i)).length ≤ 80 → acc ++ ownF ifs (l.drop i) = ownF ifs l → Ev (fun k => jobshelllaw18_SplitBytes.l0 k l ifs ⟨acc.toArray⟩ (i : Int)) true := by
  intro d
  induction d with
  | zero =>
    intro i acc a1 a2 a3 a4 a5
    rw [List.drop_of_length_le (by omega)] at a4 a5
    have e : (⟨(([] : List UInt8)).toArray⟩ : ByteArray) = ⟨#[]⟩ := rfl
    obtain ⟨n1, n2, n3⟩ := dv_bounds l ifs (by omega) (by omega)
    have n4 := elF_len true l
    have n5 := (dv_sub (rl ifs) _ [] (elF true l) (Nat.le_refl _)).2
    have n6 := (dv_sub (rl ifs) _ [] (elF true l) (Nat.le_refl _)).1
    have L := ev_bytes_l2 ⟨acc.toArray⟩ (fieldsF l ifs) (by rw [size_mk]; omega) (by unfold fieldsF; rw [List.length_map]; omega) (fun f hf => by
      unfold fieldsF at hf
      obtain ⟨g, hg, rfl⟩ := List.mem_map.1 hf
      refine ⟨?_, runS_adj g⟩
      have b1 := ((mem_flat hg).trans n6).length_le
      have b2 := rnF_len (g.map key) []
      rw [List.length_map] at b2
      unfold runS
      simp at b1 b2
      omega) _ 0 [] rfl (by omega) (by
      rw [List.nil_append, List.drop_zero, fields_cat, ← a5]
      simp [ownF])
    refine Ev.step (f := fun k => (split_Fields.f k l ifs).bind fun t => jobshelllaw18_SplitBytes.l2 k ⟨acc.toArray⟩ ⟨#[]⟩ t 0) (fun k => ?_) (Ev.bind (ev_sFields l ifs (by omega) (by omega)) L)
    simp only [jobshelllaw18_SplitBytes.l0]
    rw [if_neg (by omega)]
  | succ d ih =>
    intro i acc a1 a2 a3 a4 a5
    have hi : i < l.length := by omega
    obtain ⟨x, hx⟩ : ∃ x, l[i] = x := ⟨_, rfl⟩
    rw [dropc l i hi, hx] at a3 a4 a5
    rw [tot_cons] at a3
    rw [ownF, List.length_append] at a4
    rw [ownF, ← List.append_assoc] at a5
    have n := ih (i + 1) (acc ++ x.f0.data.toList.filter (keep ifs x.f1)) (by omega) (by omega) (by omega) (by rw [List.length_append]; omega) a5
    refine Ev.step (fun k => ?_) (ev_bytes_l1 ifs hs l i hi (by omega) x hx (by omega) acc (by omega) n _ 0 acc rfl (by omega) (by omega) (by rw [List.drop_zero]))
    simp only [jobshelllaw18_SplitBytes.l0]
    rw [if_pos (ilt hi)]
    rfl
end
section
open Go.RowKit Go.Proofs.YtbkhdgfehgfjpaaW.PrintWords Go.Proofs.YtbkhdgfehgfjpaaW.PrintLast
set_option linter.unusedVariables false
set_option linter.unusedSimpArgs false
section
variable {E F : Type} (ρ : E → Int)
def next (r : List E) : List E := if hr ρ (skipN ρ r) = 2 then skipN ρ (skipN ρ r).tail else skipN ρ r
variable {ρ} {ρ2 : F → Int} {g : E → F} (hg : ∀ e, ρ2 (g e) = ρ e)
include hg
end
end
end Go.Proofs.Ytbkhdgfehgfjpaa.PAll
