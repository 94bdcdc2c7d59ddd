/- The program's step, at every text: the class's first half, by induction over what is left of the text. -/
import Derived.Test.YthoanbjklgoggaaExtStepB
import Derived.Test.YthoanbjklgoggaaExtPlain5
import Derived.Test.YthoanbjklgoggaaExtPlain6
namespace Go.Proofs.Ythoanbjklgoggaa.PAll
open Go.RowKit Go.Proofs.YthoanbjklgoggaaW.PrintWords Go.Proofs.YthoanbjklgoggaaW.PrintLast
set_option linter.unusedVariables false
set_option linter.unusedSimpArgs false
def stF (m : Nat) (s : ByteArray) (a1 a2 : Int) : Option (Int × Int × Int) :=
  if 0 ≤ a1 then (if a1 < (s.size : Int) then (if s.size ≤ 1099511627776 then (if s.size - a1.toNat ≤ m then (if a2 = 0 ∨ a2 = 1 ∨ a2 = 2 then some (P a1.toNat a1.toNat (scF (2 * (s.size - a1.toNat) + 2) (.st a2) (L s a1.toNat))) else none) else none) else none) else none) else none
theorem stF_at (m : Nat) (s : ByteArray) (hB : s.size ≤ 1099511627776) (i : Nat) (hi : i < s.size) (hm : s.size - i ≤ m) (p : Int) (hp : p = 0 ∨ p = 1 ∨ p = 2) : stF m s (i : Int) p = some (P i i (sc (.st p) (L s i))) := by
  unfold stF
  rw [if_pos (ige i), if_pos (ilt hi), if_pos hB, Int.toNat_natCast, if_pos hm, if_pos hp, scF_sc _ _ _ (by rw [L_len]; simp only [Md.rk]; omega)]
theorem stF_inv {m : Nat} {s : ByteArray} {a1 a2 : Int} {r : Int × Int × Int} (h : stF m s a1 a2 = some r) : ∃ i : Nat, a1 = (i : Int) ∧ i < s.size ∧ s.size ≤ 1099511627776 ∧ s.size - i ≤ m ∧ (a2 = 0 ∨ a2 = 1 ∨ a2 = 2) ∧ r = P i i (sc (.st a2) (L s i)) := by
  have h0 := h
  unfold stF at h
  split at h
  case isFalse => cases h
  rename_i c1
  split at h
  case isFalse => cases h
  rename_i c2
  split at h
  case isFalse => cases h
  rename_i c3
  split at h
  case isFalse => cases h
  rename_i c4
  split at h
  case isFalse => cases h
  rename_i c5
  obtain ⟨i, rfl⟩ : ∃ i : Nat, a1 = (i : Int) := ⟨a1.toNat, by omega⟩
  rw [Int.toNat_natCast] at c4
  refine ⟨i, rfl, by omega, c3, c4, c5, ?_⟩
  rw [stF_at m s c3 i (by omega) c4 a2 c5] at h0
  exact (Option.some.inj h0).symm
theorem ev_stepB [ScanC] (s : ByteArray) (hB : s.size ≤ 1099511627776) (a : Nat) (ha : a < s.size) (hS : ∀ (i : Nat) (p : Int), a + 1 ≤ i → i < s.size → (p = 0 ∨ p = 1 ∨ p = 2) → lexer_scanner_step.f s (i : Int) p = some (P i i (sc (.st p) (L s i)))) (p : Int) (hp : p = 0 ∨ p = 1 ∨ p = 2) : Ev (fun k => lexer_scanner_stepB.f k s (a : Int) p) (P a a (sc (.st p) (L s a))) := by
  unfold lexer_scanner_stepB.f
  refine Ev.bind (ev_begins s hB a ha p) ?_
  by_cases hb : bg p (L s a) = true
  · simp only [hb, if_true]
    exact Ev.bind (ev_pass s hB a ha hS p hp hb) (Ev.now _)
  · have hb := Bool.eq_false_iff.2 hb
    simp only [hb, Bool.false_eq_true, if_false]
    obtain ⟨c, hc, _⟩ := L_cons s a ha
    rw [hc] at hb ⊢
    rw [st_one p c _ hb, wrapS (by omega)]
    exact Ev.now _
theorem st_calls : ∀ (m : Nat) (a0_0 : ByteArray) (a1 a2 r1 r2 r3 : Int) (w : World), stF m a0_0 a1 a2 = some (r1, r2, r3) →
    Calls Try.prog 63 #[.agg #[.string a0_0], .int .i64 a1, .int .i64 a2] w fun e w' => e = .returned (.tuple #[.int .i64 r1, .agg #[.int .i64 r2, .int .i64 r3]]) ∧ Below w.heap.size w w'
  | 0, s, a1, a2, r1, r2, r3, w, h => by
    obtain ⟨i, rfl, h1, h2, h3, h4, h5⟩ := stF_inv h
    omega
  | m + 1, s, a1, a2, r1, r2, r3, w, h => by
    obtain ⟨i, rfl, h1, h2, h3, h4, h5⟩ := stF_inv h
    letI I : ScanC := { f := stF m, calls := st_calls m, g := fun _ _ _ => none, callsG := fun _ _ _ _ _ _ h => by cases h }
    have E := @ev_stepB I s h2 i h1 (fun j p l1 l2 l3 => stF_at m s h2 j l2 (by omega) p l3) a2 h4
    rw [← h5] at E
    obtain ⟨K, hK⟩ := E
    exact @lexer_scanner_stepB.calls I K s (i : Int) a2 r1 r2 r3 w (hK K (Nat.le_refl _))
/-- The step is the plain one at every text. -/
def FullS [ScanC] : Prop := ∀ (s : ByteArray), s.size ≤ 1099511627776 → ∀ (i : Nat), i < s.size → ∀ p : Int, (p = 0 ∨ p = 1 ∨ p = 2) → lexer_scanner_step.f s (i : Int) p = some (P i i (sc (.st p) (L s i)))
end Go.Proofs.Ythoanbjklgoggaa.PAll
