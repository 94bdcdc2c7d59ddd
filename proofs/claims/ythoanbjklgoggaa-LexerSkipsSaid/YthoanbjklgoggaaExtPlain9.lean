/- Skip: both sides answer the same. -/
import Derived.Test.YthoanbjklgoggaaPAllx4
import Derived.Test.YthoanbjklgoggaaPAllx6
import Derived.Test.YthoanbjklgoggaaPAllx16
import Derived.Test.YthoanbjklgoggaaExtPlain10
namespace Go.Proofs.Ythoanbjklgoggaa.PAll
open Go.RowKit Go.Proofs.YthoanbjklgoggaaW.PrintWords Go.Proofs.YthoanbjklgoggaaW.PrintLast
set_option linter.unusedVariables false
set_option linter.unusedSimpArgs false
theorem ev_Skip_l0 (s : ByteArray) (hB : s.size ≤ 1099511627776) : ∀ (d i : Nat), s.size - i ≤ d → i ≤ s.size → Ev (fun k => lexer_Skip.l0 k s (i : Int)) ((i + skp (L s i) : Nat) : Int) := by
  have none_ : ∀ i : Nat, s.size = i → Ev (fun k => lexer_Skip.l0 k s (i : Int)) ((i + skp (L s i) : Nat) : Int) := by
    intro i hi
    rw [L_nil s i (by omega), skp_nil]
    refine Ev.step (f := fun _ => some (i : Int)) (fun k => ?_) (Ev.now _)
    simp only [lexer_Skip.l0]
    rw [if_neg (by omega)]
  intro d
  induction d with
  | zero => exact fun i h1 h2 => none_ i (by omega)
  | succ d ih =>
    intro i h1 h2
    rcases Nat.lt_or_ge i s.size with hi | hi
    case inr => exact none_ i (by omega)
    obtain ⟨c, hc, hb⟩ := L_cons s i hi
    have hx := idx_at s i 10
    have hh := hasPre_at s i ⟨#[92, 10]⟩
    have len : (L s (i + 1)).length = s.size - (i + 1) := L_len s (i + 1)
    rw [hc] at hx hh
    obtain ⟨t, ht⟩ : ∃ t, L s (i + 1) = t := ⟨_, rfl⟩
    rw [ht] at hx hh len
    rw [hc, ht, skp_cons]
    have il : (i : Int) ≤ (s.size : Int) := by omega
    have W1 := Aside0.mk (wrapS (show i < 9223372036854775807 by omega))
    have W2 : Aside0 (wrap64 ((i : Int) + 2) = ((i + 2 : Nat) : Int)) := ⟨wrapK (i := i) 2 (by omega)⟩
    by_cases hbl : isBlk c = true
    · rw [if_pos hbl, show i + (skp t + 1) = i + 1 + skp t by omega, ← ht]
      refine Ev.step (fun k => ?_) (ih (i + 1) (by omega) (by omega))
      simp only [lexer_Skip.l0]
      rw [if_pos (ilt hi), if_pos (ige i), hb, blank_eq, Option.bind_some, if_pos hbl, W1.out]
    · rw [if_neg hbl]
      by_cases h92 : c = 92 ∧ t.head? = some 10
      · have hh2 : strings_HasPrefix.f (s.extract ((i : Int)).toNat s.size) ⟨#[92, 10]⟩ = some true := by rw [hh]; exact congrArg some (decide_eq_true ((pre2 92 10 c t).2 h92))
        have tl : t.tail = L s (i + 2) := by rw [← ht, ← List.drop_one, L_drop]
        have t1 : 0 < t.length := by
          cases t with
          | nil => exact absurd h92.2 (by simp)
          | cons x y => simp
        rw [if_pos h92, tl, show i + (skp (L s (i + 2)) + 2) = i + 2 + skp (L s (i + 2)) by omega]
        refine Ev.step (fun k => ?_) (ih (i + 2) (by omega) (by omega))
        simp only [lexer_Skip.l0]
        rw [if_pos (ilt hi), if_pos (ige i), hb, blank_eq, Option.bind_some, if_neg hbl, if_pos il, hh2, Option.bind_some, if_pos rfl, W2.out]
      · have hh2 : strings_HasPrefix.f (s.extract ((i : Int)).toNat s.size) ⟨#[92, 10]⟩ = some false := by rw [hh]; exact congrArg some (decide_eq_false (fun h => h92 ((pre2 92 10 c t).1 h)))
        rw [if_neg h92]
        by_cases h35 : c = 35
        · have e35 : (c.toNat : Int) = 35 := (num c 35).2 h35
          rw [if_pos h35]
          have f0 : fnd 10 (c :: t) = (fnd 10 t).map (· + 1) := by rw [fnd, if_neg (by rw [h35]; decide)]
          have fi : Lib.indexByte (c :: t) (10 : Int).toNat.toUInt8 = _ := fnd_idx 10 (c :: t)
          rw [fi, f0] at hx
          cases hf : fnd 10 t with
          | none =>
            rw [hf] at hx
            have hx2 : strings_IndexByte.f (s.extract ((i : Int)).toNat s.size) 10 = some (-1) := hx
            dsimp only
            rw [show i + (t.length + 1) = s.size by omega]
            refine Ev.step (f := fun _ => some (s.size : Int)) (fun k => ?_) (Ev.now _)
            simp only [lexer_Skip.l0]
            rw [if_pos (ilt hi), if_pos (ige i), hb, blank_eq, Option.bind_some, if_neg hbl, if_pos il, hh2, Option.bind_some, if_neg (by simp), if_pos e35, hx2, Option.bind_some, if_pos (by decide)]
          | some n =>
            rw [hf] at hx
            have fl := fnd_le 10 t n hf
            have hx2 : strings_IndexByte.f (s.extract ((i : Int)).toNat s.size) 10 = some ((n + 1 : Nat) : Int) := hx
            dsimp only
            have hz : skp (L s (i + (n + 1))) = 0 := by
              rw [show i + (n + 1) = i + 1 + n by omega, ← L_drop, ht]
              exact skp_nl t n hf
            have := ih (i + (n + 1)) (by omega) (by omega)
            rw [hz, Nat.add_zero] at this
            have wn := Aside0.mk (wrapK (i := i) (n + 1) (by omega))
            have nn : ¬ (((n + 1 : Nat) : Int)) < 0 := by omega
            refine Ev.step (fun k => ?_) this
            simp only [lexer_Skip.l0]
            rw [if_pos (ilt hi), if_pos (ige i), hb, blank_eq, Option.bind_some, if_neg hbl, if_pos il, hh2, Option.bind_some, if_neg (by simp), if_pos e35, hx2, Option.bind_some, if_neg nn, wn.out]
        · have n35 : ¬ (c.toNat : Int) = 35 := fun h => h35 ((num c 35).1 h)
          rw [if_neg h35, Nat.add_zero]
          refine Ev.step (f := fun _ => some (i : Int)) (fun k => ?_) (Ev.now _)
          simp only [lexer_Skip.l0]
          rw [if_pos (ilt hi), if_pos (ige i), hb, blank_eq, Option.bind_some, if_neg hbl, if_pos il, hh2, Option.bind_some, if_neg (by simp), if_neg n35]
theorem clamp (s : ByteArray) (a : Int) : ∃ A : Nat, A ≤ s.size ∧ mn (mx a 0) (s.size : Int) = (A : Int) ∧ mx 0 (mn a (s.size : Int)) = (A : Int) := by
  refine ⟨(mn (mx a 0) (s.size : Int)).toNat, ?_, ?_, ?_⟩ <;> unfold mn mx <;> (repeat' split) <;> omega
theorem ev_Skip (s : ByteArray) (hB : s.size ≤ 1099511627776) (i : Nat) (hi : i ≤ s.size) : Ev (fun k => lexer_Skip.f k s (i : Int)) ((i + skp (L s i) : Nat) : Int) := by
  have h : mn (mx (i : Int) 0) (s.size : Int) = (i : Int) := by unfold mn mx; repeat' split <;> omega
  unfold lexer_Skip.f
  simp only [h]
  exact ev_Skip_l0 s hB _ i (Nat.le_refl _) hi
/-! The reference's. -/
theorem rblank_eq (c : UInt8) : jobshellref01_Blank.f (c.toNat : Int) = some (isBlk c) := by
  have := all_bytes (fun c => jobshellref01_Blank.f (c.toNat : Int) == some (isBlk c)) (by decide +kernel) c
  exact eq_of_beq this
theorem joined_eq (s : ByteArray) (hB : s.size ≤ 1099511627776) (i : Nat) (hi : i < s.size) (c : UInt8) (t : List UInt8) (hc : L s i = c :: t) (hb : bt s (i : Int) = (c.toNat : Int)) : jobshellref07_joined.f s (i : Int) = some (decide (c = 92 ∧ t.head? = some 10)) := by
  have ht : t = L s (i + 1) := by
    have := L_drop s i 1
    rw [hc] at this
    exact this
  unfold jobshellref07_joined.f
  rw [wrapS (by omega)]
  rcases Nat.lt_or_ge (i + 1) s.size with hj | hj
  · obtain ⟨e, he, heb⟩ := L_cons s (i + 1) hj
    rw [← ht] at he
    rw [he, List.head?_cons, if_pos (ilt hj), if_pos (ige i), if_pos (ilt hi), hb]
    by_cases h92 : c = 92
    · have e92 : (c.toNat : Int) = 92 := (num c 92).2 h92
      rw [if_pos e92, if_pos (ige _), heb]
      congr 1
      have q : ((e.toNat : Int) = 10) ↔ e = 10 := num e 10
      rw [Bool.eq_iff_iff, beq_iff_eq, decide_eq_true_iff, q, Option.some.injEq]
      exact ⟨fun h => ⟨h92, h⟩, fun h => h.2⟩
    · have n92 : ¬ (c.toNat : Int) = 92 := fun h => h92 ((num c 92).1 h)
      rw [if_neg n92, decide_eq_false (fun h => h92 h.1)]
  · rw [if_neg (by omega), ht, L_nil s (i + 1) hj]
    congr 1
    exact (decide_eq_false (by simp)).symm
theorem ev_comment (s : ByteArray) (hB : s.size ≤ 1099511627776) : ∀ (d i : Nat), s.size - i ≤ d → i ≤ s.size → Ev (fun k => jobshellref07_comment.l0 k s (i : Int)) ((match fnd 10 (L s i) with | none => s.size | some n => i + n : Nat) : Int) := by
  have none_ : ∀ i : Nat, s.size = i → Ev (fun k => jobshellref07_comment.l0 k s (i : Int)) ((match fnd 10 (L s i) with | none => s.size | some n => i + n : Nat) : Int) := by
    intro i hi
    rw [L_nil s i (by omega), fnd]
    refine Ev.step (f := fun _ => some (i : Int)) (fun k => ?_) (by rw [hi]; exact Ev.now _)
    simp only [jobshellref07_comment.l0]
    rw [if_neg (by omega)]
  intro d
  induction d with
  | zero => exact fun i h1 h2 => none_ i (by omega)
  | succ d ih =>
    intro i h1 h2
    rcases Nat.lt_or_ge i s.size with hi | hi
    case inr => exact none_ i (by omega)
    obtain ⟨c, hc, hb⟩ := L_cons s i hi
    rw [hc, fnd]
    by_cases h : c = 10
    · rw [if_pos h]
      refine Ev.step (f := fun _ => some (i : Int)) (fun k => ?_) (Ev.now _)
      simp only [jobshellref07_comment.l0]
      rw [if_pos (ilt hi), if_pos (ige i), if_pos (by rw [hb]; exact (num c 10).2 h)]
    · rw [if_neg h]
      have := ih (i + 1) (by omega) (by omega)
      have e : ((match (fnd 10 (L s (i + 1))).map (· + 1) with | none => s.size | some n => i + n : Nat) : Int) = ((match fnd 10 (L s (i + 1)) with | none => s.size | some n => i + 1 + n : Nat) : Int) := by
        cases fnd 10 (L s (i + 1)) with
        | none => rfl
        | some n => show ((i + (n + 1) : Nat) : Int) = ((i + 1 + n : Nat) : Int); omega
      rw [e]
      refine Ev.step (fun k => ?_) this
      simp only [jobshellref07_comment.l0]
      rw [if_pos (ilt hi), if_pos (ige i), if_neg (by rw [hb]; exact fun h2 => h ((num c 10).1 h2)), wrapS (by omega)]
theorem ev_rSkip_l0 (s : ByteArray) (hB : s.size ≤ 1099511627776) : ∀ (d i : Nat), s.size - i ≤ d → i ≤ s.size → Ev (fun k => jobshellref07_Skip.l0 k s (i : Int)) ((i + skp (L s i) : Nat) : Int) := by
  have none_ : ∀ i : Nat, s.size = i → Ev (fun k => jobshellref07_Skip.l0 k s (i : Int)) ((i + skp (L s i) : Nat) : Int) := by
    intro i hi
    rw [L_nil s i (by omega), skp_nil]
    refine Ev.step (f := fun _ => some (i : Int)) (fun k => ?_) (Ev.now _)
    simp only [jobshellref07_Skip.l0]
    rw [if_neg (by omega)]
  intro d
  induction d with
  | zero => exact fun i h1 h2 => none_ i (by omega)
  | succ d ih =>
    intro i h1 h2
    rcases Nat.lt_or_ge i s.size with hi | hi
    case inr => exact none_ i (by omega)
    obtain ⟨c, hc, hb⟩ := L_cons s i hi
    have len : (L s (i + 1)).length = s.size - (i + 1) := L_len s (i + 1)
    obtain ⟨t, ht⟩ : ∃ t, L s (i + 1) = t := ⟨_, rfl⟩
    rw [ht] at hc len
    have hj := joined_eq s hB i hi c t hc hb
    rw [hc, skp_cons]
    have W1 := Aside0.mk (wrapS (show i < 9223372036854775807 by omega))
    have W2 : Aside0 (wrap64 ((i : Int) + 2) = ((i + 2 : Nat) : Int)) := ⟨wrapK (i := i) 2 (by omega)⟩
    by_cases h35 : c = 35
    · have e35 : (c.toNat : Int) = 35 := (num c 35).2 h35
      rw [if_neg (by rw [h35]; decide), if_neg (fun h => absurd h.1 (by rw [h35]; decide)), if_pos h35]
      have C := ev_comment s hB _ i (Nat.le_refl _) h2
      have e : ((match fnd 10 (L s i) with | none => s.size | some n => i + n : Nat) : Int) = ((i + (match fnd 10 t with | none => t.length + 1 | some n => n + 1) : Nat) : Int) := by
        rw [hc, fnd, if_neg (by rw [h35]; decide)]
        cases fnd 10 t with
        | none => show (s.size : Int) = ((i + (t.length + 1) : Nat) : Int); omega
        | some n => rfl
      rw [e] at C
      refine Ev.step (f := fun k => (jobshellref07_comment.f k s (i : Int)).bind fun t => some t) (fun k => ?_) (Ev.bind C (Ev.now _))
      simp only [jobshellref07_Skip.l0]
      rw [if_pos (ilt hi), if_pos (ige i), hb, if_pos e35]
    · have n35 : ¬ (c.toNat : Int) = 35 := fun h => h35 ((num c 35).1 h)
      by_cases h92 : c = 92 ∧ t.head? = some 10
      · rw [decide_eq_true h92] at hj
        have tl : t.tail = L s (i + 2) := by rw [← ht, ← List.drop_one, L_drop]
        have t1 : 0 < t.length := by
          cases t with
          | nil => exact absurd h92.2 (by simp)
          | cons x y => simp
        rw [if_neg (by rw [h92.1]; decide), if_pos h92, tl, show i + (skp (L s (i + 2)) + 2) = i + 2 + skp (L s (i + 2)) by omega]
        refine Ev.step (fun k => ?_) (ih (i + 2) (by omega) (by omega))
        simp only [jobshellref07_Skip.l0]
        rw [if_pos (ilt hi), if_pos (ige i), hb, if_neg n35, hj, Option.bind_some, if_pos rfl, W2.out]
      · rw [decide_eq_false h92] at hj
        by_cases hbl : isBlk c = true
        · rw [if_pos hbl, show i + (skp t + 1) = i + 1 + skp t by omega, ← ht]
          refine Ev.step (fun k => ?_) (ih (i + 1) (by omega) (by omega))
          simp only [jobshellref07_Skip.l0]
          rw [if_pos (ilt hi), if_pos (ige i), hb, if_neg n35, hj, Option.bind_some, if_neg (by simp), rblank_eq, Option.bind_some, if_pos hbl, W1.out]
        · rw [if_neg hbl, if_neg h92, if_neg h35, Nat.add_zero]
          refine Ev.step (f := fun _ => some (i : Int)) (fun k => ?_) (Ev.now _)
          simp only [jobshellref07_Skip.l0]
          rw [if_pos (ilt hi), if_pos (ige i), hb, if_neg n35, hj, Option.bind_some, if_neg (by simp), rblank_eq, Option.bind_some, if_neg hbl]
theorem ev_Skips (s : ByteArray) (hB : s.size ≤ 1099511627776) (a : Int) : ∃ A : Nat, A ≤ s.size ∧ Ev (fun k => lexer_Skip.f k s a) ((A + skp (L s A) : Nat) : Int) ∧ Ev (fun k => jobshellref07_Skip.f k s a) ((A + skp (L s A) : Nat) : Int) := by
  obtain ⟨A, h1, h2, h3⟩ := clamp s a
  refine ⟨A, h1, ?_, ?_⟩
  · unfold lexer_Skip.f
    simp only [h2]
    exact ev_Skip_l0 s hB _ A (Nat.le_refl _) h1
  · unfold jobshellref07_Skip.f jobshellref07_limited.f
    simp only [h3, Option.bind_some]
    exact ev_rSkip_l0 s hB _ A (Nat.le_refl _) h1
end Go.Proofs.Ythoanbjklgoggaa.PAll
