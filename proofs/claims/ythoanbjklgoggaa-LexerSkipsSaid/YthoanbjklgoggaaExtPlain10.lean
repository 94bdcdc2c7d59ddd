/- What is skipped, plain; and prefixes. -/
import Derived.Test.YthoanbjklgoggaaExtPlain2
namespace Go.Proofs.Ythoanbjklgoggaa.PAll
open Go.RowKit Go.Proofs.YthoanbjklgoggaaW.PrintWords Go.Proofs.YthoanbjklgoggaaW.PrintLast
set_option linter.unusedVariables false
set_option linter.unusedSimpArgs false
/-- How many bytes blanks, continuations and comments take. -/
def skp : List UInt8 → Nat
  | [] => 0
  | c :: t => if isBlk c = true then skp t + 1 else if c = 92 ∧ t.head? = some 10 then skp t.tail + 2 else if c = 35 then (match fnd 10 t with | none => t.length + 1 | some n => n + 1) else 0
termination_by l => l.length
decreasing_by
  all_goals simp_wf
  all_goals omega
theorem skp_nil : skp [] = 0 := by rw [skp]
theorem skp_cons (c : UInt8) (t : List UInt8) : skp (c :: t) = if isBlk c = true then skp t + 1 else if c = 92 ∧ t.head? = some 10 then skp t.tail + 2 else if c = 35 then (match fnd 10 t with | none => t.length + 1 | some n => n + 1) else 0 := by
  rw [skp]
theorem fnd_at : ∀ (b : UInt8) (t : List UInt8) (n : Nat), fnd b t = some n → ∃ u, t.drop n = b :: u
  | b, [], n, h => by cases h
  | b, c :: t, n, h => by
    rw [fnd] at h
    split at h
    · rename_i hc
      obtain rfl := Option.some.inj h
      exact ⟨t, by rw [hc]; rfl⟩
    · cases hf : fnd b t with
      | none => rw [hf] at h; cases h
      | some m =>
        rw [hf] at h
        obtain rfl := Option.some.inj h
        obtain ⟨u, hu⟩ := fnd_at b t m hf
        exact ⟨u, hu⟩
theorem skp_nl (t : List UInt8) (n : Nat) (h : fnd 10 t = some n) : skp (t.drop n) = 0 := by
  obtain ⟨u, hu⟩ := fnd_at 10 t n h
  rw [hu, skp_cons, if_neg (by decide), if_neg (fun h => absurd h.1 (by decide)), if_neg (by decide)]
theorem skp_le : ∀ (n : Nat) (l : List UInt8), l.length ≤ n → skp l ≤ l.length
  | 0, l, h => by
    obtain rfl := List.eq_nil_of_length_eq_zero (show l.length = 0 by omega)
    rw [skp_nil]
    exact Nat.le_refl _
  | n + 1, [], h => by rw [skp_nil]; exact Nat.le_refl _
  | n + 1, c :: t, h => by
    rw [List.length_cons] at h ⊢
    rw [skp_cons]
    split
    · have := skp_le n t (by omega)
      omega
    · split
      · rename_i hh
        cases t with
        | nil => exact absurd hh.2 (by simp)
        | cons e v =>
          rw [List.length_cons] at h ⊢
          have := skp_le n v (by omega)
          rw [List.tail_cons]
          omega
      · split
        · cases hf : fnd 10 t with
          | none => exact Nat.le_refl _
          | some m =>
            have := fnd_le 10 t m hf
            dsimp only
            omega
        · omega
theorem hasPre (a b : ByteArray) : strings_HasPrefix.f a b = some (decide (b.data.toList <+: a.data.toList)) := by
  unfold strings_HasPrefix.f stringslite_HasPrefix.f
  have la := dl_len a
  have lb := dl_len b
  by_cases h : (a.size : Int) ≥ (b.size : Int)
  · rw [if_pos h, if_pos (ige _), if_pos h, Option.bind_some]
    congr 1
    have e : (a.extract 0 ((b.size : Int)).toNat).toList = a.data.toList.take b.data.toList.length := by
      rw [Go.ByteArray.toList_eq, Int.toNat_natCast, lb]
      have e2 : (a.extract 0 b.size).data = a.data.extract 0 b.size := by simp
      rw [e2, Array.toList_extract, List.extract_eq_take_drop]
      simp
    rw [e, Go.ByteArray.toList_eq]
    rw [Bool.eq_iff_iff, beq_iff_eq, decide_eq_true_iff, List.prefix_iff_eq_take]
    exact eq_comm
  · rw [if_neg h, Option.bind_some]
    congr 1
    refine (decide_eq_false (fun hp => ?_)).symm
    have := hp.length_le
    omega
theorem pre1 (y : UInt8) (t : List UInt8) : [y] <+: t ↔ t.head? = some y := by
  cases t with
  | nil => simp
  | cons e v => rw [List.cons_prefix_cons, List.head?_cons, Option.some.injEq]; exact ⟨fun h => h.1.symm, fun h => ⟨h.symm, List.nil_prefix⟩⟩
theorem pre2 (x y c : UInt8) (t : List UInt8) : [x, y] <+: c :: t ↔ (c = x ∧ t.head? = some y) := by
  rw [List.cons_prefix_cons, pre1]
  exact ⟨fun h => ⟨h.1.symm, h.2⟩, fun h => ⟨h.1.symm, h.2⟩⟩
theorem hasPre_at (s : ByteArray) (i : Nat) (b : ByteArray) : strings_HasPrefix.f (s.extract ((i : Int)).toNat s.size) b = some (decide (b.data.toList <+: L s i)) := by
  rw [hasPre, Int.toNat_natCast, extr]
theorem idx_at (s : ByteArray) (i : Nat) (b : Int) : strings_IndexByte.f (s.extract ((i : Int)).toNat s.size) b = some (Lib.indexByte (L s i) b.toNat.toUInt8) := by
  unfold strings_IndexByte.f
  rw [Int.toNat_natCast, extr]
end Go.Proofs.Ythoanbjklgoggaa.PAll
