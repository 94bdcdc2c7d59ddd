/- From, Environ, Divide, SameTexts: what both sides answer. -/
import Derived.Test.YtlcobphakhcmiaaPAllx0
import Derived.Test.YtlcobphakhcmiaaPAllx5
import Derived.Test.YtlcobphakhcmiaaPAllx12
import Derived.Test.YtlcobphakhcmiaaExtPlain6
namespace Go.Proofs.Ytlcobphakhcmiaa.PAll
open Go.RowKit Go.Proofs.YtlcobphakhcmiaaW.PrintWords Go.Proofs.YtlcobphakhcmiaaW.PrintLast
set_option linter.unusedVariables false
set_option linter.unusedSimpArgs false

/-! ### an entry's parts -/
theorem getb (s : ByteArray) (i : Nat) (h : i < s.size) : s.data.toList[i]? = some (s[i]'h) := by
  rw [Array.getElem?_toList]
  exact Array.getElem?_eq_getElem h
theorem bt61 (s : ByteArray) (i : Nat) (h : i < s.size) : bt s (i : Int) = 61 ↔ s.data.toList[i]? = some 61 := by
  rw [bt_nat s i h, getb s i h]
  constructor
  · intro e
    congr 1
    exact UInt8.toNat_inj.1 (by have : ((61 : UInt8).toNat : Int) = 61 := rfl; omega)
  · intro e
    rw [Option.some.inj e]
    rfl
/-- What an entry is for both sides: its parts, and whether it counts. -/
def divF (s : ByteArray) : ByteArray × ByteArray × Bool := if cutAt s 61 = -1 then (⟨#[]⟩, ⟨#[]⟩, false) else (s.extract 0 (cutAt s 61).toNat, s.extract ((cutAt s 61).toNat + 1) s.size, nameB (s.extract 0 (cutAt s 61).toNat))
/-! ### From -/
/-- From, over what is left of the entries. -/
def fromF : List S26 → List ByteArray → List S26 × Int
  | out, [] => if (out.length : Int) > 128 then ([], 4) else (out, 0)
  | out, s :: t => if (divF s).2.2 = true then (if ((divF s).2.1.size : Int) > 4096 then ([], 3) else fromF (putF out ⟨(divF s).1, (divF s).2.1, true, true, false⟩) t) else fromF out t
theorem cut61 (s : ByteArray) (hm : s.size ≤ 9223372036854775807) : strings_Cut.f s ⟨#[61]⟩ = some (cut1 s 61) := by
  show (if s.size ≤ 9223372036854775807 then some (cut1 s 61) else none) = _
  rw [if_pos hm]
theorem ev_From_l0 (l : List ByteArray) (hm : l.length ≤ 138) (hs : ∀ x ∈ l, x.size ≤ 9223372036854775807) : ∀ (d i : Nat) (out : List S26), l.length - i = d → i ≤ l.length → Asc out → out.length ≤ i → Ev (fun k => vars_From.l0 k out l (l.length : Int) i) (fromF out (l.drop i)) := by
  intro d
  induction d with
  | zero =>
    intro i out h1 h2 ha ho
    refine Ev.step (f := fun _ => some (fromF out [])) (fun k => ?_) ?_
    · simp only [vars_From.l0, fromF]
      rw [if_neg (by omega)]
      by_cases h : (out.length : Int) > 128
      · rw [if_pos h, if_pos h]
      · rw [if_neg h, if_neg h]
    · rw [List.drop_of_length_le (by omega)]
      exact Ev.now _
  | succ d ih =>
    intro i out h1 h2 ha ho
    have hi : i < l.length := by omega
    have hsz := hs _ (List.getElem_mem hi)
    rw [dropc l i hi]
    simp only [fromF]
    have head : ∀ {r}, Ev (fun k => if (cut1 l[i] 61).2.2 = true then vars_From.j1 k out (cut1 l[i] 61).1 (cut1 l[i] 61).2.1 l (l.length : Int) i (!(nameB (cut1 l[i] 61).1)) else vars_From.j1 k out (cut1 l[i] 61).1 (cut1 l[i] 61).2.1 l (l.length : Int) i true) r → Ev (fun k => vars_From.l0 k out l (l.length : Int) i) r := by
      intro r h
      refine Ev.step (fun k => ?_) h
      simp only [vars_From.l0]
      rw [if_pos (ilt hi), if_pos (ige i), if_pos (ilt hi), rdo l i hi, cut61 _ hsz, Option.bind_some, show chars_Name.f (cut1 l[i] 61).1 = some (nameB (cut1 l[i] 61).1) from rfl, Option.bind_some]
    apply head
    by_cases hc : cutAt l[i] 61 = -1
    · have e1 : cut1 l[i] 61 = (l[i], ⟨#[]⟩, false) := by rw [cut1, if_pos hc]
      have e2 : divF l[i] = (⟨#[]⟩, ⟨#[]⟩, false) := by rw [divF, if_pos hc]
      rw [e1, e2]
      simp only [Bool.false_eq_true, if_false]
      refine Ev.step (fun k => by simp only [vars_From.j1]; rw [if_pos trivial, wrapS (by omega)]) (ih (i + 1) _ (by omega) (by omega) ha (by omega))
    · obtain ⟨N, hN⟩ : ∃ N, l[i].extract 0 (cutAt l[i] 61).toNat = N := ⟨_, rfl⟩
      obtain ⟨Vv, hV⟩ : ∃ V, l[i].extract ((cutAt l[i] 61).toNat + 1) l[i].size = V := ⟨_, rfl⟩
      have e1 : cut1 l[i] 61 = (N, Vv, true) := by rw [cut1, if_neg hc, hN, hV]
      have e2 : divF l[i] = (N, Vv, nameB N) := by rw [divF, if_neg hc, hN, hV]
      rw [e1, e2]
      simp only [if_true]
      by_cases h : nameB N = true
      · rw [h]
        simp only [if_true, Bool.not_true]
        by_cases h4 : (Vv.size : Int) > 4096
        · simp only [if_pos h4]
          exact Ev.step (fun k => by simp only [vars_From.j1]; rw [if_neg (by simp), if_pos h4]) (Ev.now _)
        · simp only [if_neg h4]
          obtain ⟨q, hw, hq, hg, hwith⟩ := with_put ha (by omega) ⟨N, Vv, true, true, false⟩
          dsimp only at hw hg hwith
          have hl := put_len ha ⟨N, Vv, true, true, false⟩
          refine Ev.step (fun k => ?_) (ih (i + 1) _ (by omega) (by omega) (asc_put (v := ⟨N, Vv, true, true, false⟩) ha) (by omega))
          simp only [vars_From.j1]
          rw [if_neg (by simp), if_neg h4, where_eq out N (by omega), hw, Option.bind_some, hwith, Option.bind_some, wrapS (by omega)]
      · rw [show nameB N = false by simpa using h]
        simp only [Bool.not_false, Bool.false_eq_true, if_false]
        refine Ev.step (fun k => by simp only [vars_From.j1]; rw [if_pos trivial, wrapS (by omega)]) (ih (i + 1) _ (by omega) (by omega) ha (by omega))
theorem ev_From (l : List ByteArray) (hm : l.length ≤ 138) (hs : ∀ x ∈ l, x.size ≤ 9223372036854775807) : Ev (fun k => vars_From.f k l) (fromF [] l) := by
  have := ev_From_l0 l hm hs l.length 0 [] (by omega) (by omega) List.Pairwise.nil (by simp)
  exact this
theorem fromF_len : ∀ (l : List ByteArray) (out : List S26), (fromF out l).1.length ≤ 128 := by
  intro l
  induction l with
  | nil => intro out; simp only [fromF]; split <;> simp; omega
  | cons s t ih =>
    intro out
    simp only [fromF]
    split
    · split
      · simp
      · exact ih _
    · exact ih _
/-! ### Environ -/
def entry (v : S26) : ByteArray := v.f0 ++ (⟨#[61]⟩ : ByteArray) ++ v.f1
def envF (l : List S26) : List ByteArray := (l.filter fun v => v.f2 && v.f3).map entry
theorem envF_cons (v : S26) (t : List S26) : envF (v :: t) = if v.f2 = true then (if v.f3 = true then entry v :: envF t else envF t) else envF t := by
  unfold envF
  rw [List.filter_cons]
  cases v.f2 <;> cases v.f3 <;> simp
theorem name_size {s : ByteArray} (h : nameB s = true) : s.size ≤ 32 := by
  simp [nameB] at h
  omega
theorem ev_Environ_l0 (l : List S26) (hm : l.length ≤ 128) (hv : ∀ v ∈ l, okV v) : ∀ (d i : Nat) (out : List ByteArray), l.length - i = d → i ≤ l.length → out.length ≤ i → Ev (fun k => vars_Environ.l0 k out l (l.length : Int) i) (out ++ envF (l.drop i)) := by
  intro d
  induction d with
  | zero =>
    intro i out h1 h2 h3
    refine Ev.step (fun k => ?_) (Ev.now _)
    simp only [vars_Environ.l0]
    rw [if_neg (by omega), List.drop_of_length_le (by omega)]
    simp [envF]
  | succ d ih =>
    intro i out h1 h2 h3
    have hi : i < l.length := by omega
    obtain ⟨o1, o2, o3⟩ := hv _ (List.getElem_mem hi)
    have hn := name_size o1
    rw [dropc l i hi, envF_cons]
    by_cases h : l[i].f2 = true
    · by_cases h' : l[i].f3 = true
      · refine Ev.step (fun k => ?_) (show Ev (fun k => vars_Environ.l0 k (out ++ [entry l[i]]) l (l.length : Int) ((i + 1 : Nat) : Int)) _ from ?_)
        · simp only [vars_Environ.l0]
          rw [if_pos (ilt hi), if_pos (ige i), if_pos (ilt hi), rdn l i hi, if_pos h, if_pos h', if_pos (by omega), if_pos (by omega), if_pos (by omega), wrapS (by omega)]
          rfl
        · rw [if_pos h, if_pos h']
          have := ih (i + 1) (out ++ [entry l[i]]) (by omega) (by omega) (by simp; omega)
          simpa using this
      · refine Ev.step (fun k => ?_) (show Ev (fun k => vars_Environ.l0 k out l (l.length : Int) ((i + 1 : Nat) : Int)) _ from ?_)
        · simp only [vars_Environ.l0]
          rw [if_pos (ilt hi), if_pos (ige i), if_pos (ilt hi), rdn l i hi, if_pos h, if_neg h', wrapS (by omega)]
        · rw [if_pos h, if_neg h']
          exact ih (i + 1) out (by omega) (by omega) (by omega)
    · refine Ev.step (fun k => ?_) (show Ev (fun k => vars_Environ.l0 k out l (l.length : Int) ((i + 1 : Nat) : Int)) _ from ?_)
      · simp only [vars_Environ.l0]
        rw [if_pos (ilt hi), if_pos (ige i), if_pos (ilt hi), rdn l i hi, if_neg h, wrapS (by omega)]
      · rw [if_neg h]
        exact ih (i + 1) out (by omega) (by omega) (by omega)
theorem ev_Environ (l : List S26) (hm : l.length ≤ 128) (hv : ∀ v ∈ l, okV v) : Ev (fun k => vars_Environ.f k l) (envF l) := by
  have := ev_Environ_l0 l hm hv l.length 0 [] (by omega) (by omega) (by simp)
  rw [List.drop_zero, List.nil_append] at this
  exact this
theorem envF_len (l : List S26) : (envF l).length ≤ l.length := by
  unfold envF
  rw [List.length_map]
  exact List.length_filter_le _ _
/-! ### SameTexts -/
theorem ev_SameT_l0 (l : List ByteArray) (hm : l.length ≤ 9223372036854775807) : ∀ d i : Nat, l.length - i = d → i ≤ l.length → Ev (fun k => jobshellref03_SameTexts.l0 k l l i) true := by
  intro d
  induction d with
  | zero =>
    intro i h1 h2
    refine Ev.step (fun k => ?_) (Ev.now _)
    simp only [jobshellref03_SameTexts.l0]
    rw [if_neg (by omega)]
  | succ d ih =>
    intro i h1 h2
    have hi : i < l.length := by omega
    refine Ev.step (fun k => ?_) (show Ev (fun k => jobshellref03_SameTexts.l0 k l l ((i + 1 : Nat) : Int)) true from ih (i + 1) (by omega) (by omega))
    simp only [jobshellref03_SameTexts.l0]
    rw [if_pos (ilt hi), if_pos (ige i), if_pos (ilt hi), if_pos trivial, wrapS (by omega)]
theorem ev_SameT (l : List ByteArray) (hm : l.length ≤ 9223372036854775807) : Ev (fun k => jobshellref03_SameTexts.f k l l) true := by
  unfold jobshellref03_SameTexts.f
  simp only [if_true]
  exact ev_SameT_l0 l hm l.length 0 (by omega) (by omega)
end Go.Proofs.Ytlcobphakhcmiaa.PAll
