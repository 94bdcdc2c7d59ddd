/- The law LexerCovers, in plain Lean. -/
import Derived.Test.YthoanbjklgoggaaPAllx29
import Derived.Test.YthoanbjklgoggaaPlainMCovers
namespace Go.Proofs.Ythoanbjklgoggaa.Pure
open Go.RowKit Go.Proofs.Ythoanbjklgoggaa.PAll Go.Proofs.YthoanbjklgoggaaW.PrintWords Go.Proofs.YthoanbjklgoggaaW.PrintLast
set_option linter.unusedVariables false
set_option linter.unusedSimpArgs false
/-- The tokens from a place on cover the text. -/
def cov (s : ByteArray) : Nat → List S32 → Prop
  | _, [] => False
  | a, x :: t => (t = [] ∧ a + skp (L s a) = s.size ∧ x = ⟨5, (s.size : Int), (s.size : Int), ⟨#[]⟩⟩) ∨ (∃ (e : Nat) (k : Int), a + skp (L s a) < e ∧ e ≤ s.size ∧ k ≠ 5 ∧ x = ⟨k, ((a + skp (L s a) : Nat) : Int), (e : Int), s.extract (a + skp (L s a)) e⟩ ∧ t ≠ [] ∧ cov s e t)
theorem cov_ne (s : ByteArray) (a : Nat) (l : List S32) (h : cov s a l) : l ≠ [] := by
  intro e
  rw [e] at h
  exact h
theorem allF_cov (s : ByteArray) : ∀ (n a : Nat) (acc : List S32), s.size + 1 - a ≤ n → a ≤ s.size →
    (∃ l, allF s n a acc = (acc ++ l, 0, 0) ∧ cov s a l) ∨ (∃ (o : Nat) (b : Bool), allF s n a acc = ([], (o : Int), en b))
  | 0, a, acc, h1, h2 => by omega
  | n + 1, a, acc, h1, h2 => by
    have hsk := skip_le s a h2
    rw [allF]
    rcases nextF_cases s (a + skp (L s a)) hsk (skp_zero s a) with ⟨e, k, e1, e2, e3, e4⟩ | ⟨e1, e4⟩ | ⟨o, b, e4⟩
    · rw [e4]
      simp only [if_true, if_neg e3, Int.toNat_natCast]
      rcases allF_cov s n e (acc ++ [⟨k, ((a + skp (L s a) : Nat) : Int), (e : Int), s.extract (a + skp (L s a)) e⟩]) (by omega) e2 with ⟨l, l1, l2⟩ | ⟨o, b, l1⟩
      · refine Or.inl ⟨⟨k, ((a + skp (L s a) : Nat) : Int), (e : Int), s.extract (a + skp (L s a)) e⟩ :: l, ?_, ?_⟩
        · rw [l1, List.append_assoc]
          rfl
        · exact Or.inr ⟨e, k, e1, e2, e3, rfl, cov_ne s e l l2, l2⟩
      · exact Or.inr ⟨o, b, l1⟩
    · rw [e4]
      simp only [if_true]
      refine Or.inl ⟨[⟨5, ((a + skp (L s a) : Nat) : Int), ((a + skp (L s a) : Nat) : Int), ⟨#[]⟩⟩], rfl, Or.inl ⟨rfl, e1, ?_⟩⟩
      rw [e1]
    · rw [e4]
      simp only [if_neg (en_ne b)]
      exact Or.inr ⟨o, b, rfl⟩
theorem rd32 (l : List S32) (i : Nat) (h : i < l.length) : rd_T32 l (i : Int) = l[i] := by
  unfold rd_T32
  rw [Int.toNat_natCast, List.getD_eq_getElem?_getD, List.getElem?_eq_getElem h]
  rfl
theorem ev_covers_l0 [ScanC] (aw : Ev (fun k => (jobshelllaw07_awake.f k).bind fun t => some t) true) (s : ByteArray) (hs : s.size ≤ 2000) (l : List S32) (hl : l.length ≤ 10000) (hp : 0 < l.length) : ∀ (d i a : Nat), l.length - i = d → i ≤ l.length → a ≤ s.size → ((i = l.length ∧ a = s.size) ∨ cov s a (l.drop i)) → Ev (fun k => jobshelllaw07_LexerCovers.l0 k s l (a : Int) (i : Int)) true := by
  intro d
  induction d with
  | zero =>
    intro i a h1 h2 ha h3
    have hi : i = l.length := by omega
    have e : a = s.size := by
      rcases h3 with h3 | h3
      · exact h3.2
      · rw [List.drop_of_length_le (by omega)] at h3
        exact h3.elim
    refine Ev.step (fun k => ?_) aw
    simp only [jobshelllaw07_LexerCovers.l0]
    rw [if_neg (by omega), if_pos (by omega), if_pos (by omega)]
  | succ d ih =>
    intro i a h1 h2 ha h3
    have hi : i < l.length := by omega
    have h4 : cov s a (l.drop i) := by
      rcases h3 with h3 | h3
      · omega
      · exact h3
    rw [dropc l i hi] at h4
    have K := ev_Skip s (by omega) a ha
    have W := Aside0.mk (wrapS (i := i) (by omega))
    have W1 := Aside0.mk (wrapM hp (by omega))
    rcases h4 with ⟨g1, g2, g3⟩ | ⟨e, q, g1, g2, g3, g4, g5, g6⟩
    · have lt : l.length = i + 1 := by
        have := congrArg List.length g1
        rw [List.length_drop] at this
        simp at this
        omega
      have n := ih (i + 1) s.size (by omega) (by omega) (Nat.le_refl _) (Or.inl ⟨by omega, rfl⟩)
      have n1 : Ev (fun k => jobshelllaw07_LexerCovers.j1 k s l (i : Int) false 5 (s.size : Int) (s.size : Int) ⟨#[]⟩) true := by
        refine Ev.step (fun k => ?_) n
        simp only [jobshelllaw07_LexerCovers.j1]
        rw [if_neg (by simp), W.out]
      rw [g2] at K
      have c1 : ¬ ((s.size : Nat) : Int) < 0 := by omega
      have c2 : ¬ ((s.size : Nat) : Int) < ((s.size : Nat) : Int) := by omega
      have c3 : ((s.size : Nat) : Int) ≤ ((s.size : Nat) : Int) := Int.le_refl _
      have ex : (⟨#[]⟩ : ByteArray).toList = (s.extract s.size s.size).toList := by
        rw [tl_eq]
        simp
      have c4 : ¬ ((((5 : Int) == 5) != ((i : Int) == ((l.length - 1 : Nat) : Int))) = true) := by
        have : ((i : Int) == ((l.length - 1 : Nat) : Int)) = true := by rw [beq_iff_eq]; omega
        rw [this]
        decide
      have c5 : (((⟨#[]⟩ : ByteArray).toList == ([] : List UInt8)) != ((5 : Int) == 5)) = false := by
        rw [Go.ByteArray.toList_eq]
        decide
      refine Ev.step (f := fun k => (lexer_Skip.f k s (a : Int)).bind fun t => if (s.size : Int) = t then jobshelllaw07_LexerCovers.j1 k s l (i : Int) false 5 (s.size : Int) (s.size : Int) ⟨#[]⟩ else jobshelllaw07_LexerCovers.j1 k s l (i : Int) true 5 (s.size : Int) (s.size : Int) ⟨#[]⟩) (fun k => ?_) (Ev.bind (g := fun k => lexer_Skip.f k s (a : Int)) K ?_)
      · simp only [jobshelllaw07_LexerCovers.l0]
        rw [if_pos (ilt hi), if_pos (ige i), rd32 l i hi, g3, W1.out]
        simp only [if_neg c1, if_neg c2, if_pos c3, if_pos (ige _), Int.toNat_natCast, if_pos ex, if_neg c4, c5, gt_iff_lt]
      · simp only [if_true]
        exact n1
    · have lt : i + 1 < l.length := by
        have := List.length_pos_iff.2 g5
        rw [List.length_drop] at this
        omega
      have n := ih (i + 1) e (by omega) (by omega) g2 (Or.inr g6)
      have n1 : Ev (fun k => jobshelllaw07_LexerCovers.j1 k s l (i : Int) false q ((a + skp (L s a) : Nat) : Int) (e : Int) (s.extract (a + skp (L s a)) e)) true := by
        refine Ev.step (fun k => ?_) n
        simp only [jobshelllaw07_LexerCovers.j1]
        rw [if_neg (by simp), W.out]
      have c1 : ¬ ((a + skp (L s a) : Nat) : Int) < 0 := by omega
      have c2 : ¬ (e : Int) < ((a + skp (L s a) : Nat) : Int) := by omega
      have c3 : ((a + skp (L s a) : Nat) : Int) ≤ (e : Int) := by omega
      have c6 : (e : Int) ≤ (s.size : Int) := by omega
      have c7 : ¬ (s.size : Int) < (e : Int) := by omega
      have q5 : (q == 5) = false := beq_false_of_ne g3
      have c4 : ¬ (((q == 5) != ((i : Int) == ((l.length - 1 : Nat) : Int))) = true) := by
        have : ((i : Int) == ((l.length - 1 : Nat) : Int)) = false := by rw [beq_eq_false_iff_ne]; omega
        rw [this, q5]
        decide
      have c5 : (((s.extract (a + skp (L s a)) e).toList == ([] : List UInt8)) != (q == 5)) = false := by
        have : ((s.extract (a + skp (L s a)) e).toList == ([] : List UInt8)) = false := by
          rw [beq_eq_false_iff_ne]
          intro h
          have := congrArg List.length h
          rw [Go.ByteArray.toList_eq, dl_len, ByteArray.size_extract] at this
          simp at this
          omega
        rw [this, q5]
        decide
      refine Ev.step (f := fun k => (lexer_Skip.f k s (a : Int)).bind fun t => if ((a + skp (L s a) : Nat) : Int) = t then jobshelllaw07_LexerCovers.j1 k s l (i : Int) false q ((a + skp (L s a) : Nat) : Int) (e : Int) (s.extract (a + skp (L s a)) e) else jobshelllaw07_LexerCovers.j1 k s l (i : Int) true q ((a + skp (L s a) : Nat) : Int) (e : Int) (s.extract (a + skp (L s a)) e)) (fun k => ?_) (Ev.bind (g := fun k => lexer_Skip.f k s (a : Int)) K ?_)
      · simp only [jobshelllaw07_LexerCovers.l0]
        rw [if_pos (ilt hi), if_pos (ige i), rd32 l i hi, g4, W1.out]
        simp only [if_neg c1, if_neg c2, if_pos c3, if_pos c6, if_neg c7, if_pos (ige _), Int.toNat_natCast, if_true, if_neg c4, c5, gt_iff_lt]
      · simp only [if_true]
        exact n1
theorem LexerCovers : jobshelllaw07_LexerCovers.Pure := by
  intro s hs0
  refine Ev.rounds (g := fun k => jobshelllaw07_LexerCovers.f k s) ?_
  unfold jobshelllaw07_LexerCovers.f
  by_cases h1 : (s.size : Int) > 2000
  · simp only [if_pos h1]
    exact ev_awake
  · simp only [if_neg h1]
    have A := ev_All fullS s (by omega) (s.size + 1) 0 [] (by omega) (by omega) (by simp)
    have lal := allF_len s (s.size + 1) 0 []
    rcases allF_cov s (s.size + 1) 0 [] (by omega) (by omega) with ⟨l, a1, a2⟩ | ⟨o, b, a1⟩
    · rw [a1] at A lal
      rw [List.nil_append] at A lal
      refine Ev.bind (g := fun k => lexer_All.f k s) A ?_
      simp only [if_true]
      exact ev_covers_l0 ev_awake s (by omega) l (by simp at lal; omega) (List.length_pos_iff.2 (cov_ne s 0 l a2)) _ 0 0 rfl (by omega) (by omega) (Or.inr (by rw [List.drop_zero]; exact a2))
    · rw [a1] at A
      refine Ev.bind (g := fun k => lexer_All.f k s) A ?_
      simp only [if_neg (en_ne b)]
      exact ev_awake
end Go.Proofs.Ythoanbjklgoggaa.Pure
