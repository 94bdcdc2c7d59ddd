/- The law LexerLines, in plain Lean. -/
import Derived.Test.YthoanbjklgoggaaPAllx30
import Derived.Test.YthoanbjklgoggaaPlainMLines
namespace Go.Proofs.Ythoanbjklgoggaa.Pure
open Go.RowKit Go.Proofs.Ythoanbjklgoggaa.PAll Go.Proofs.YthoanbjklgoggaaW.PrintWords Go.Proofs.YthoanbjklgoggaaW.PrintLast
set_option linter.unusedVariables false
set_option linter.unusedSimpArgs false
theorem allF_two (s : ByteArray) : ∀ (n a : Nat) (acc : List S32), s.size + 1 - a ≤ n → a ≤ s.size → (∀ x ∈ acc, 0 ≤ x.f1 ∧ x.f1 ≤ s.size ∧ 0 ≤ x.f2 ∧ x.f2 ≤ s.size) →
    (∃ l, allF s n a acc = (l, 0, 0) ∧ ∀ x ∈ l, 0 ≤ x.f1 ∧ x.f1 ≤ s.size ∧ 0 ≤ x.f2 ∧ x.f2 ≤ s.size) ∨ (∃ (o : Nat) (b : Bool), allF s n a acc = ([], (o : Int), en b))
  | 0, a, acc, h1, h2, h3 => by omega
  | n + 1, a, acc, h1, h2, h3 => by
    have hsk := skip_le s a h2
    rw [allF]
    rcases nextF_cases s (a + skp (L s a)) hsk (skp_zero s a) with ⟨e, k, e1, e2, e3, e4⟩ | ⟨e1, e4⟩ | ⟨o, b, e4⟩
    · rw [e4]
      simp only [if_true, if_neg e3, Int.toNat_natCast]
      refine allF_two s n e _ (by omega) e2 (fun x hx => ?_)
      rw [List.mem_append, List.mem_singleton] at hx
      rcases hx with hx | hx
      · exact h3 x hx
      · rw [hx]
        dsimp only
        omega
    · rw [e4]
      simp only [if_true]
      refine Or.inl ⟨_, rfl, fun x hx => ?_⟩
      rw [List.mem_append, List.mem_singleton] at hx
      rcases hx with hx | hx
      · exact h3 x hx
      · rw [hx]
        dsimp only
        omega
    · rw [e4]
      simp only [if_neg (en_ne b)]
      exact Or.inr ⟨o, b, rfl⟩
theorem rd32 (l : List S32) (i : Nat) (h : i < l.length) : rd_T32 l (i : Int) = l[i] := by
  unfold rd_T32
  rw [Int.toNat_natCast, List.getD_eq_getElem?_getD, List.getElem?_eq_getElem h]
  rfl
theorem ev_lines_l0 [ScanC] (aw : Ev (fun k => (jobshelllaw07_awake.f k).bind fun t => some t) true) (s : ByteArray) (hs : s.size ≤ 1000) (lb R : List S32) (hR : R.length ≤ 10000) (hlb : lb.length ≤ 10000) (hb : ∀ x ∈ lb, 0 ≤ x.f1 ∧ x.f1 ≤ 1000 ∧ 0 ≤ x.f2 ∧ x.f2 ≤ 1000) : ∀ (d i : Nat) (acc : List S32), lb.length - i = d → i ≤ lb.length → acc ++ (lb.drop i).map (shT (s.size + 1)) = R → Ev (fun k => jobshelllaw07_LexerLines.l0 k s lb R 0 acc (i : Int)) true := by
  intro d
  induction d with
  | zero =>
    intro i acc h1 h2 h3
    rw [List.drop_of_length_le (by omega), List.map_nil, List.append_nil] at h3
    subst h3
    refine Ev.step (f := fun k => (jobshellref07_Same.f k acc acc).bind fun t420 => if t420 = true then (jobshelllaw07_awake.f k).bind fun t421 => some t421 else some false) (fun k => ?_) (Ev.bind (ev_Same acc (by omega)) ?_)
    · simp only [jobshelllaw07_LexerLines.l0]
      rw [if_neg (by omega), if_pos trivial]
    · simp only [if_true]
      exact aw
  | succ d ih =>
    intro i acc h1 h2 h3
    have hi : i < lb.length := by omega
    rw [dropc lb i hi, List.map_cons] at h3
    have b := hb _ (List.getElem_mem hi)
    have al : acc.length < 3518437208883 := by
      have := congrArg List.length h3
      rw [List.length_append] at this
      omega
    have w1 : wrap64 (wrap64 (lb[i].f1 + (s.size : Int)) + 1) = lb[i].f1 + ((s.size + 1 : Nat) : Int) := by unfold wrap64; omega
    have w2 : wrap64 (wrap64 (lb[i].f2 + (s.size : Int)) + 1) = lb[i].f2 + ((s.size + 1 : Nat) : Int) := by unfold wrap64; omega
    have W1 := Aside0.mk w1
    have W2 := Aside0.mk w2
    clear w1 w2
    have n := ih (i + 1) (acc ++ [shT (s.size + 1) lb[i]]) (by omega) (by omega) (by rw [← h3]; simp)
    refine Ev.step (fun k => ?_) n
    simp only [jobshelllaw07_LexerLines.l0]
    rw [if_pos (ilt hi), if_pos (ige i), if_pos al, rd32 lb i hi, W1.out, W2.out, wrapS (by omega)]
    rfl
theorem LexerLines : jobshelllaw07_LexerLines.Pure := by
  intro s t hs0 ht0
  refine Ev.rounds (g := fun k => jobshelllaw07_LexerLines.f k s t) ?_
  have stop : Ev (fun k => jobshelllaw07_LexerLines.j0 k s t true) true := Ev.step (fun k => by simp only [jobshelllaw07_LexerLines.j0]; rfl) ev_awake
  unfold jobshelllaw07_LexerLines.f
  by_cases h1 : (s.size : Int) > 1000
  · simp only [if_pos h1]
    exact stop
  · simp only [if_neg h1]
    by_cases h2 : (t.size : Int) > 1000
    · rw [decide_eq_true h2]
      exact stop
    · rw [decide_eq_false h2]
      obtain ⟨S, hS⟩ : ∃ S, (s ++ (⟨#[10]⟩ : ByteArray)) ++ t = S := ⟨_, rfl⟩
      have hSd : S.data.toList = s.data.toList ++ 10 :: t.data.toList := by
        have : ∀ a b : ByteArray, (a ++ b).data.toList = a.data.toList ++ b.data.toList := fun a b => by simp
        rw [← hS, this, this]
        simp
      have hSs := S_size s t S hSd
      have A := ev_All fullS s (by omega) (s.size + 1) 0 [] (by omega) (by omega) (by simp)
      rcases allF_two s (s.size + 1) 0 [] (by omega) (by omega) (fun x hx => by cases hx) with ⟨la, a1, a2⟩ | ⟨o, b, a1⟩
      · obtain ⟨M', m1, m2, m3⟩ := all_left s t S hSd (s.size + 1) 0 [] la (by omega) (by omega) a1 (t.size + 1)
        rw [a1] at A
        have B := ev_All fullS t (by omega) M' 0 [] (by omega) (by omega) (by simp)
        have C := ev_All fullS S (by omega) (s.size + 1 + (t.size + 1)) 0 [] (by omega) (by omega) (by simp)
        have lal := allF_len s (s.size + 1) 0 []
        rw [a1] at lal
        rcases allF_two t M' 0 [] (by omega) (by omega) (fun x hx => by cases hx) with ⟨lb, b1, b2⟩ | ⟨o, b, b1⟩
        · rw [b1] at B
          have R := all_right s t S hSd M' 0 [] (la.dropLast ++ [nlT s]) (la.dropLast ++ [nlT s]) lb (by omega) (by omega) (by simp) b1
          rw [Nat.add_zero] at R
          rw [m2, R] at C
          have ln : ((la.length : Int) == 0) = false := by
            rw [beq_eq_false_iff_ne]
            have := List.length_pos_iff.2 m3
            omega
          have Cl := allF_len S (s.size + 1 + (t.size + 1)) 0 []
          rw [m2, R] at Cl
          refine Ev.step (f := fun k => (lexer_All.f k s).bind fun bt388 => (lexer_All.f k t).bind fun bt393 => (if bt388.2.2 = 0 then (if bt393.2.2 = 0 then (jobshelllaw07_LexerLines.j1 k s t bt388.1 bt388.2.2 bt393.1 bt393.2.2 ((bt388.1.length : Int) == 0)) else (jobshelllaw07_LexerLines.j1 k s t bt388.1 bt388.2.2 bt393.1 bt393.2.2 true)) else (jobshelllaw07_LexerLines.j1 k s t bt388.1 bt388.2.2 bt393.1 bt393.2.2 true))) (fun k => by simp only [jobshelllaw07_LexerLines.j0]; rw [if_neg (by simp)]) ?_
          refine Ev.bind (g := fun k => lexer_All.f k s) A ?_
          refine Ev.bind (g := fun k => lexer_All.f k t) B ?_
          simp only [if_true, ln]
          have s1 : s.size + 1 ≤ 9223372036854775807 := by omega
          have s2 : s.size + 1 + t.size ≤ 9223372036854775807 := by omega
          have lp := List.length_pos_iff.2 m3
          have w : wrap64 ((la.length : Int) - 1) = ((la.length - 1 : Nat) : Int) := wrapM lp (by simp at lal; omega)
          have w2 : wrap64 ((s.size : Int) + 1) = ((s.size + 1 : Nat) : Int) := wrapS (by omega)
          have W := Aside0.mk w
          have W2 := Aside0.mk w2
          clear w w2
          have l1 : ((la.length - 1 : Nat) : Int) ≤ (la.length : Int) := by omega
          have ed : la.take (la.length - 1) = la.dropLast := by rw [List.dropLast_eq_take]
          have l2 : ([] : List S32).length + la.dropLast.length < 3518437208883 := by rw [List.length_dropLast]; simp at lal ⊢; omega
          have l3 : (([] : List S32) ++ la.dropLast).length < 3518437208883 := by rw [List.nil_append, List.length_dropLast]; simp at lal; omega
          refine Ev.step (f := fun k => (lexer_All.f k S).bind fun bt400 => jobshelllaw07_LexerLines.l0 k s lb bt400.1 bt400.2.2 (la.dropLast ++ [nlT s]) 0) (fun k => ?_) (Ev.bind (g := fun k => lexer_All.f k S) C ?_)
          · simp only [jobshelllaw07_LexerLines.j1]
            rw [if_neg (by simp), if_pos s1, if_pos s2, hS, W.out, W2.out]
            simp only [if_pos (ige _), if_pos l1, Int.toNat_natCast, ed, Option.bind_some, if_pos l2, if_pos l3]
            rfl
          · exact ev_lines_l0 ev_awake s (by omega) lb _ (by simp at Cl ⊢; omega) (by simp at Cl; omega) (fun x hx => by have := b2 x hx; omega) _ 0 _ rfl (by omega) (by rw [List.drop_zero])
        · rw [b1] at B
          have nb : ¬ en b = 0 := en_ne b
          refine Ev.step (f := fun k => (lexer_All.f k s).bind fun bt388 => (lexer_All.f k t).bind fun bt393 => (if bt388.2.2 = 0 then (if bt393.2.2 = 0 then (jobshelllaw07_LexerLines.j1 k s t bt388.1 bt388.2.2 bt393.1 bt393.2.2 ((bt388.1.length : Int) == 0)) else (jobshelllaw07_LexerLines.j1 k s t bt388.1 bt388.2.2 bt393.1 bt393.2.2 true)) else (jobshelllaw07_LexerLines.j1 k s t bt388.1 bt388.2.2 bt393.1 bt393.2.2 true))) (fun k => by simp only [jobshelllaw07_LexerLines.j0]; rw [if_neg (by simp)]) ?_
          refine Ev.bind (g := fun k => lexer_All.f k s) A ?_
          refine Ev.bind (g := fun k => lexer_All.f k t) B ?_
          simp only [if_true, if_neg nb]
          refine Ev.step (fun k => ?_) ev_awake
          simp only [jobshelllaw07_LexerLines.j1]
          rw [if_pos trivial, if_pos trivial, if_neg nb]
      · rw [a1] at A
        have nb : ¬ en b = 0 := en_ne b
        have B := ev_All fullS t (by omega) (t.size + 1) 0 [] (by omega) (by omega) (by simp)
        refine Ev.step (f := fun k => (lexer_All.f k s).bind fun bt388 => (lexer_All.f k t).bind fun bt393 => (if bt388.2.2 = 0 then (if bt393.2.2 = 0 then (jobshelllaw07_LexerLines.j1 k s t bt388.1 bt388.2.2 bt393.1 bt393.2.2 ((bt388.1.length : Int) == 0)) else (jobshelllaw07_LexerLines.j1 k s t bt388.1 bt388.2.2 bt393.1 bt393.2.2 true)) else (jobshelllaw07_LexerLines.j1 k s t bt388.1 bt388.2.2 bt393.1 bt393.2.2 true))) (fun k => by simp only [jobshelllaw07_LexerLines.j0]; rw [if_neg (by simp)]) ?_
        refine Ev.bind (g := fun k => lexer_All.f k s) A ?_
        refine Ev.bind (g := fun k => lexer_All.f k t) B ?_
        simp only [if_neg nb]
        refine Ev.step (fun k => ?_) ev_awake
        simp only [jobshelllaw07_LexerLines.j1]
        rw [if_pos trivial, if_neg nb]
end Go.Proofs.Ythoanbjklgoggaa.Pure
