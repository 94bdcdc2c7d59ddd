/- put and with: both put a variable into an ascending list; Same. -/
import Derived.Test.YtlcobphakhcmiaaPAllx0
import Derived.Test.YtlcobphakhcmiaaPAllx4
import Derived.Test.YtlcobphakhcmiaaPAllx2
import Derived.Test.YtlcobphakhcmiaaExtPlain4
namespace Go.Proofs.Ytlcobphakhcmiaa.PAll
open Go.RowKit Go.Proofs.YtlcobphakhcmiaaW.PrintWords Go.Proofs.YtlcobphakhcmiaaW.PrintLast
set_option linter.unusedVariables false
set_option linter.unusedSimpArgs false

/-! ### put -/
theorem bef_cons (n : ByteArray) (v : S26) (t : List S26) : bef n (v :: t) = if lt v.f0 n = true then v :: bef n t else [] := by
  unfold bef
  rw [List.takeWhile_cons]
theorem aft_cons (n : ByteArray) (v : S26) (t : List S26) : aft n (v :: t) = if lt v.f0 n = true then aft n t else (v :: t).filter (fun v => v.f0.toList != n.toList) := by
  unfold aft
  rw [List.dropWhile_cons]
  split <;> rfl
/-! ### with -/
theorem with_eq (l : List S26) (i : Nat) (there : Bool) (v : S26) (hm : l.length ≤ 1000) (hi : i ≤ l.length) (ht : there = true → i < l.length) :
    vars_with.f l i there v.f0 v.f1 v.f2 v.f3 v.f4 = some (l.take i ++ v :: l.drop (if there = true then i + 1 else i)) := by
  have e1 : wrap64 ((l.length : Int) + 1) = ((l.length + 1 : Nat) : Int) := wrapS (by omega)
  have L : ∀ (a b : List S26), a.length ≤ 2002 → b.length ≤ 2002 → a.length + b.length < 3518437208883 := fun a b ha hb => by omega
  have t1 : (l.take i).length ≤ 1000 := by rw [List.length_take]; omega
  have d1 : ∀ j, (l.drop j).length ≤ 1000 := fun j => by rw [List.length_drop]; omega
  have a1 : (([] : List S26) ++ l.take i).length ≤ 2002 := by rw [List.nil_append]; omega
  have a2 : (([] : List S26) ++ l.take i ++ [(⟨v.f0, v.f1, v.f2, v.f3, v.f4⟩ : S26)]).length ≤ 2002 := by rw [List.length_append, List.length_singleton, List.nil_append]; omega
  unfold vars_with.f
  rw [e1, if_pos (ige _), if_pos (by rw [Int.toNat_natCast]; omega), Int.toNat_natCast]
  rw [Option.bind_some, if_pos (ige i), if_pos (by omega), Option.bind_some, if_pos (L _ _ (by simp) (by omega)), Option.bind_some, Option.bind_some, if_pos (L _ _ a1 (by simp)), Option.bind_some]
  cases there with
  | true =>
    have := ht rfl
    rw [if_pos rfl, if_pos rfl, wrapS (by omega), if_pos (ige _), if_pos (by omega), Int.toNat_natCast, Option.bind_some, if_pos (L _ _ a2 (by have := d1 (i + 1); omega))]
    rw [List.nil_append, List.append_assoc, List.singleton_append]
  | false =>
    rw [if_neg (show ¬ (false = true) by decide), if_neg (show ¬ (false = true) by decide), Option.bind_some, if_pos (L _ _ a2 (by have := d1 i; omega))]
    rw [List.nil_append, List.append_assoc, List.singleton_append]
/-- Where an ascending list has its place for the name, 'with' is 'putF'. -/
theorem with_put {l : List S26} (h : Asc l) (hm : l.length ≤ 1000) (v : S26) : ∃ i : Nat, whereFrom v.f0 l 0 = ((i : Int), (at' v.f0 l).isSome) ∧ i ≤ l.length ∧ (∀ x, at' v.f0 l = some x → ∃ h : i < l.length, l[i] = x) ∧ vars_with.f l i (at' v.f0 l).isSome v.f0 v.f1 v.f2 v.f3 v.f4 = some (putF l v) := by
  obtain ⟨e, hw, hv, hb, ha⟩ := asc_parts (n := v.f0) h
  obtain ⟨B, hB⟩ : ∃ B, bef v.f0 l = B := ⟨_, rfl⟩
  obtain ⟨A, hA⟩ : ∃ A, aft v.f0 l = A := ⟨_, rfl⟩
  have hp : putF l v = B ++ v :: A := by rw [putF, hB, hA]
  rw [hB, hA] at e
  rw [hB] at hw
  rw [hp]
  cases ho : at' v.f0 l with
  | some x =>
    rw [ho] at e hw
    simp only [Option.toList_some] at e
    have hl : l.length = B.length + 1 + A.length := by rw [e]; simp only [List.length_append, List.length_cons, List.length_nil]
    have hi : B.length < l.length := by omega
    have hx : l[B.length] = x := by
      have h2 : l[B.length]? = some x := by rw [e]; simp
      exact (List.getElem?_eq_some_iff.1 h2).2
    refine ⟨B.length, hw, by omega, (fun y hy => by cases hy; exact ⟨hi, hx⟩), ?_⟩
    rw [with_eq l B.length _ v hm (by omega) (fun _ => hi)]
    have e1 : l.take B.length = B := by rw [e]; simp
    have e2 : l.drop (B.length + 1) = A := by
      rw [e, show B.length + 1 = (B ++ [x]).length by simp, List.drop_left]
    simp [e1, e2]
  | none =>
    rw [ho] at e hw
    simp only [Option.toList_none, List.append_nil] at e
    have hl : l.length = B.length + A.length := by rw [e]; simp
    refine ⟨B.length, hw, by omega, (fun y hy => by cases hy), ?_⟩
    rw [with_eq l B.length _ v hm (by omega) (fun h => by cases h)]
    have e1 : l.take B.length = B := by rw [e]; simp
    have e2 : l.drop B.length = A := by rw [e, List.drop_left]
    simp [e1, e2]
/-! ### Same -/
theorem ev_Same_l0 (l : List S26) (hm : l.length ≤ 9223372036854775807) : ∀ d i : Nat, l.length - i = d → i ≤ l.length → Ev (fun k => jobshellref15_Same.l0 k l l i) true := by
  intro d
  induction d with
  | zero =>
    intro i h1 h2
    refine Ev.step (fun k => ?_) (Ev.now _)
    simp only [jobshellref15_Same.l0]
    rw [if_neg (by omega)]
  | succ d ih =>
    intro i h1 h2
    have hi : i < l.length := by omega
    refine Ev.step (fun k => ?_) (show Ev (fun k => jobshellref15_Same.l0 k l l ((i + 1 : Nat) : Int)) true from ih (i + 1) (by omega) (by omega))
    simp only [jobshellref15_Same.l0]
    rw [if_pos (ilt hi), if_pos (ige i), if_pos (ilt hi), if_neg (by simp), wrapS (by omega)]
theorem ev_Same (l : List S26) (hm : l.length ≤ 9223372036854775807) : Ev (fun k => jobshellref15_Same.f k l l) true := by
  unfold jobshellref15_Same.f
  simp only [if_true]
  exact ev_Same_l0 l hm l.length 0 (by omega) (by omega)
end Go.Proofs.Ytlcobphakhcmiaa.PAll
