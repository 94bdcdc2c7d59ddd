/- The program's scanner answers the plain one: what begins, and what is passed. -/
import Derived.Test.YthoanbjklgoggaaExtPlain4
namespace Go.Proofs.Ythoanbjklgoggaa.PAll
open Go.RowKit Go.Proofs.YthoanbjklgoggaaW.PrintWords Go.Proofs.YthoanbjklgoggaaW.PrintLast
set_option linter.unusedVariables false
set_option linter.unusedSimpArgs false
theorem eta3 (x : Int × Int × Int) : (x.1, x.2.1, x.2.2) = x := rfl
theorem ev_backquoted (s : ByteArray) (hB : s.size ≤ 1099511627776) (a : Nat) : ∀ (d i : Nat), s.size - i ≤ d → Ev (fun k => lexer_scanner_backquoted.l0 k (a : Int) (i : Int) s) (P a i (bq (L s i))) := by
  have none_ : ∀ i : Nat, s.size ≤ i → Ev (fun k => lexer_scanner_backquoted.l0 k (a : Int) (i : Int) s) (P a i (bq (L s i))) := by
    intro i hi
    rw [L_nil s i hi]
    refine Ev.step (f := fun _ => some (P a i .opn)) (fun k => ?_) (Ev.now _)
    simp only [lexer_scanner_backquoted.l0]
    rw [if_neg (by omega), lex_open]
    rfl
  intro d
  induction d with
  | zero => exact fun i h1 => none_ i (by omega)
  | succ d ih =>
    intro i h1
    rcases Nat.lt_or_ge i s.size with hi | hi
    case inr => exact none_ i hi
    obtain ⟨c, hc, hb⟩ := L_cons s i hi
    rw [hc, bq_cons]
    by_cases h96 : c = 96
    · rw [if_pos h96]
      refine Ev.step (f := fun _ => some (P a i (.ok 1))) (fun k => ?_) (Ev.now _)
      simp only [lexer_scanner_backquoted.l0]
      rw [if_pos (ilt hi), if_pos (ige i), if_pos (by rw [hb]; exact (num c 96).2 h96), wrapS (by omega)]
      rfl
    · have n96 : ¬ bt s (i : Int) = 96 := by rw [hb]; exact fun h => h96 ((num c 96).1 h)
      rw [if_neg h96]
      by_cases h92 : c = 92
      · have e92 : bt s (i : Int) = 92 := by rw [hb]; exact (num c 92).2 h92
        rw [if_pos h92]
        rcases Nat.lt_or_ge (i + 1) s.size with hj | hj
        · obtain ⟨e, he, heb⟩ := L_cons s (i + 1) hj
          have ne : ¬ ((i + 1 : Nat) : Int) = (s.size : Int) := by omega
          rw [he]
          dsimp only
          rw [P_sh]
          refine Ev.step (fun k => ?_) (ih (i + 2) (by omega))
          simp only [lexer_scanner_backquoted.l0]
          rw [if_pos (ilt hi), if_pos (ige i), if_neg n96, if_pos e92, wrapS (by omega), if_neg ne, wrapS (by omega)]
        · have ee : ((i + 1 : Nat) : Int) = (s.size : Int) := by omega
          rw [L_nil s (i + 1) hj]
          refine Ev.step (f := fun _ => some (P a i (.bad false 0))) (fun k => ?_) (Ev.now _)
          simp only [lexer_scanner_backquoted.l0]
          rw [if_pos (ilt hi), if_pos (ige i), if_neg n96, if_pos e92, wrapS (by omega), if_pos ee, wrapM (by omega) (by omega), lex_open]
          rfl
      · rw [if_neg h92, P_sh]
        refine Ev.step (fun k => ?_) (ih (i + 1) (by omega))
        simp only [lexer_scanner_backquoted.l0]
        rw [if_pos (ilt hi), if_pos (ige i), if_neg n96, if_neg (by rw [hb]; exact fun h => h92 ((num c 92).1 h)), wrapS (by omega)]
/-- What may follow a dollar. -/
def dlr : List UInt8 → Bool
  | [] => false
  | d :: _ => isLet d || isDig d || (isSpc d || d == 123 || d == 40)
/-- Does a construct begin here. -/
def bg (p : Int) : List UInt8 → Bool
  | [] => false
  | c :: t => if c = 39 ∨ c = 34 then decide (p = 0) else if c = 92 ∨ c = 96 then true else if c = 36 then dlr t else false
theorem bg_cons (p : Int) (c : UInt8) (t : List UInt8) : bg p (c :: t) = if c = 39 ∨ c = 34 then decide (p = 0) else if c = 92 ∨ c = 96 then true else if c = 36 then dlr t else false := by
  cases t <;> rfl
theorem ev_begins (s : ByteArray) (hB : s.size ≤ 1099511627776) (a : Nat) (ha : a < s.size) (p : Int) : Ev (fun k => lexer_scanner_begins.f k s (a : Int) p) (bg p (L s a)) := by
  obtain ⟨c, hc, hb⟩ := L_cons s a ha
  rw [hc, bg_cons]
  obtain ⟨t, ht⟩ : ∃ t, L s (a + 1) = t := ⟨_, rfl⟩
  rw [ht]
  have J1 : ∀ b : Bool, (b = true ↔ (c = 92 ∨ c = 96)) → Ev (fun k => lexer_scanner_begins.j1 k (a : Int) (bt s (a : Int)) b s) (if c = 92 ∨ c = 96 then true else if c = 36 then dlr t else false) := by
    intro b hbb
    by_cases hbt : b = true
    · rw [if_pos (hbb.1 hbt)]
      refine Ev.step (f := fun _ => some true) (fun k => ?_) (Ev.now _)
      simp only [lexer_scanner_begins.j1]
      rw [if_pos hbt]
    · rw [if_neg (fun h => hbt (hbb.2 h))]
      by_cases h36 : c = 36
      · have e36 : bt s (a : Int) = 36 := by rw [hb]; exact (num c 36).2 h36
        rw [if_pos h36]
        rcases Nat.lt_or_ge (a + 1) s.size with hj | hj
        · obtain ⟨d, hd, hdb⟩ := L_cons s (a + 1) hj
          rw [ht] at hd
          rw [hd]
          have sp := special_eq d
          refine Ev.step (f := fun _ => some (isLet d || isDig d || (isSpc d || d == 123 || d == 40))) (fun k => ?_) (Ev.now _)
          simp only [lexer_scanner_begins.j1]
          rw [if_neg hbt, if_pos e36, wrapS (by omega), if_pos (ilt hj), if_pos (ige _), hdb, letter_eq, digit_eq, Option.bind_some, Option.bind_some, sp]
          cases isLet d <;> cases isDig d <;> rfl
        · rw [L_nil s (a + 1) hj] at ht
          subst ht
          refine Ev.step (f := fun _ => some false) (fun k => ?_) (Ev.now _)
          simp only [lexer_scanner_begins.j1]
          rw [if_neg hbt, if_pos e36, wrapS (by omega), if_neg (by omega)]
      · rw [if_neg h36]
        refine Ev.step (f := fun _ => some false) (fun k => ?_) (Ev.now _)
        simp only [lexer_scanner_begins.j1]
        rw [if_neg hbt, if_neg (by rw [hb]; exact fun h => h36 ((num c 36).1 h))]
  have J0 : ∀ b : Bool, (b = true ↔ (c = 39 ∨ c = 34)) → Ev (fun k => lexer_scanner_begins.j0 k (a : Int) p (bt s (a : Int)) b s) (if c = 39 ∨ c = 34 then decide (p = 0) else if c = 92 ∨ c = 96 then true else if c = 36 then dlr t else false) := by
    intro b hbb
    by_cases hbt : b = true
    · rw [if_pos (hbb.1 hbt)]
      refine Ev.step (f := fun _ => some (decide (p = 0))) (fun k => ?_) (Ev.now _)
      simp only [lexer_scanner_begins.j0]
      rw [if_pos hbt]
      by_cases hp : p = 0
      · rw [if_pos hp, decide_eq_true hp]
      · rw [if_neg hp, decide_eq_false hp]
    · rw [if_neg (fun h => hbt (hbb.2 h))]
      by_cases h92 : c = 92
      · have e92 : bt s (a : Int) = 92 := by rw [hb]; exact (num c 92).2 h92
        refine Ev.step (fun k => ?_) (J1 (bt s (a : Int) == 92) (by rw [beq_iff_eq, hb]; exact ⟨fun h => Or.inl ((num c 92).1 h), fun _ => (num c 92).2 h92⟩))
        simp only [lexer_scanner_begins.j0]
        rw [if_neg hbt, if_pos e92]
      · have n92 : ¬ bt s (a : Int) = 92 := by rw [hb]; exact fun h => h92 ((num c 92).1 h)
        refine Ev.step (fun k => ?_) (J1 (bt s (a : Int) == 96) (by rw [beq_iff_eq, hb]; exact ⟨fun h => Or.inr ((num c 96).1 h), fun h => h.elim (fun h => absurd h h92) (fun h => (num c 96).2 h)⟩))
        simp only [lexer_scanner_begins.j0]
        rw [if_neg hbt, if_neg n92]
  unfold lexer_scanner_begins.f
  simp only [if_pos (ige a), if_pos (ilt ha)]
  by_cases h39 : c = 39
  · have e39 : bt s (a : Int) = 39 := by rw [hb]; exact (num c 39).2 h39
    simp only [if_pos e39]
    exact J0 _ (by rw [beq_iff_eq, hb]; exact ⟨fun h => Or.inl ((num c 39).1 h), fun _ => (num c 39).2 h39⟩)
  · have n39 : ¬ bt s (a : Int) = 39 := by rw [hb]; exact fun h => h39 ((num c 39).1 h)
    simp only [if_neg n39]
    exact J0 _ (by rw [beq_iff_eq, hb]; exact ⟨fun h => Or.inr ((num c 34).1 h), fun h => h.elim (fun h => absurd h h39) (fun h => (num c 34).2 h)⟩)
theorem st_one (p : Int) (c : UInt8) (t : List UInt8) (h : bg p (c :: t) = false) : sc (.st p) (c :: t) = .ok 1 := by
  rw [bg_cons] at h
  rw [sc_st]
  by_cases h1 : c = 39 ∨ c = 34
  · rw [if_pos h1] at h
    have hp : ¬ p = 0 := of_decide_eq_false h
    rw [if_neg (by rcases h1 with h1 | h1 <;> rw [h1] <;> decide), if_neg (by rcases h1 with h1 | h1 <;> rw [h1] <;> decide), if_neg (by rcases h1 with h1 | h1 <;> rw [h1] <;> decide), if_neg (fun h => hp h.2), if_neg (fun h => hp h.2)]
  · rw [if_neg h1] at h
    by_cases h2 : c = 92 ∨ c = 96
    · rw [if_pos h2] at h; cases h
    · rw [if_neg h2] at h
      rw [if_neg (fun e => h2 (Or.inl e)), if_neg (fun e => h2 (Or.inr e))]
      by_cases h3 : c = 36
      · rw [if_pos h3] at h ⊢
        cases t with
        | nil => rfl
        | cons d u =>
          dsimp only [dlr] at h ⊢
          rw [Bool.or_eq_false_iff, Bool.or_eq_false_iff, Bool.or_eq_false_iff, Bool.or_eq_false_iff] at h
          obtain ⟨⟨a1, a2⟩, ⟨a3, a4⟩, a5⟩ := h
          rw [if_neg (by simpa using a4), if_neg (by simpa using a5), if_neg (by rw [a1]; decide), if_neg (by rw [a2, a3]; decide)]
      · rw [if_neg h3, if_neg (fun e => h1 (Or.inl e.1)), if_neg (fun e => h1 (Or.inr e.1))]
theorem ev_dname (s : ByteArray) (hB : s.size ≤ 1099511627776) (a : Nat) (x : ByteArray) (hx : x.size ≤ s.size) (ha : a ≤ s.size) : ∀ (d n : Nat), x.size - n ≤ d → n ≤ x.size → Ev (fun k => lexer_scanner_dollar.l0 k (a : Int) x (n : Int)) (((a + (n + nameL (L x n)) : Nat) : Int), 0, 0) := by
  have stop : ∀ n : Nat, n ≤ x.size → Ev (fun k => lexer_scanner_dollar.j1 k (a : Int) x (n : Int) false) (((a + n : Nat) : Int), 0, 0) := by
    intro n hn
    refine Ev.step (f := fun _ => some (((a + n : Nat) : Int), 0, 0)) (fun k => ?_) (Ev.now _)
    simp only [lexer_scanner_dollar.j1]
    rw [if_neg (by simp), wrapK n (by omega)]
  intro d
  induction d with
  | zero =>
    intro n h1 h2
    rw [L_nil x n (by omega), nameL, Nat.add_zero]
    refine Ev.step (fun k => ?_) (stop n h2)
    simp only [lexer_scanner_dollar.l0]
    rw [if_neg (by omega)]
  | succ d ih =>
    intro n h1 h2
    rcases Nat.lt_or_ge n x.size with hi | hi
    case inr =>
      rw [L_nil x n hi, nameL, Nat.add_zero]
      refine Ev.step (fun k => ?_) (stop n h2)
      simp only [lexer_scanner_dollar.l0]
      rw [if_neg (by omega)]
    obtain ⟨c, hc, hb⟩ := L_cons x n hi
    rw [hc, nameL]
    have J : ∀ b : Bool, b = (isLet c || isDig c) → Ev (fun k => lexer_scanner_dollar.j1 k (a : Int) x (n : Int) b) (((a + (n + (if (isLet c || isDig c) = true then nameL (L x (n + 1)) + 1 else 0)) : Nat) : Int), 0, 0) := by
      intro b hb2
      subst hb2
      by_cases h : (isLet c || isDig c) = true
      · rw [if_pos h, h, show n + (nameL (L x (n + 1)) + 1) = n + 1 + nameL (L x (n + 1)) by omega]
        refine Ev.step (fun k => ?_) (ih (n + 1) (by omega) (by omega))
        simp only [lexer_scanner_dollar.j1]
        rw [if_pos trivial, wrapS (by omega)]
      · rw [if_neg h, Bool.eq_false_iff.2 h]
        exact stop n h2
    by_cases h : isLet c = true
    · refine Ev.step (fun k => ?_) (J true (by rw [h]; rfl))
      simp only [lexer_scanner_dollar.l0]
      rw [if_pos (ilt hi), if_pos (ige n), hb, letter_eq, h, Option.bind_some, if_pos rfl]
    · refine Ev.step (fun k => ?_) (J (isDig c) (by rw [Bool.eq_false_iff.2 h]; rfl))
      simp only [lexer_scanner_dollar.l0]
      rw [if_pos (ilt hi), if_pos (ige n), hb, letter_eq, digit_eq, Option.bind_some, if_neg h, Option.bind_some]
section
variable [ScanC] (s : ByteArray) (hB : s.size ≤ 1099511627776) (a : Nat) (ha : a < s.size) (hS : ∀ (i : Nat) (p : Int), a + 1 ≤ i → i < s.size → (p = 0 ∨ p = 1 ∨ p = 2) → lexer_scanner_step.f s (i : Int) p = some (P i i (sc (.st p) (L s i)))) (p : Int) (hp : p = 0 ∨ p = 1 ∨ p = 2)
include hB ha hS hp
theorem ev_dollar (d : UInt8) (u : List UInt8) (hd : L s a = 36 :: d :: u) (hb : bg p (36 :: d :: u) = true) : Ev (fun k => lexer_scanner_dollar.f k s (a : Int) p) (P a a (sc (.st p) (36 :: d :: u))) := by
  have hlen := L_len s a
  rw [hd, List.length_cons, List.length_cons] at hlen
  have h3 := hasPre_at s a ⟨#[36, 40, 40]⟩
  have h2 := hasPre_at s a ⟨#[36, 40]⟩
  have h1 := hasPre_at s a ⟨#[36, 123]⟩
  rw [hd] at h1 h2 h3
  have e3 : decide (([36, 40, 40] : List UInt8) <+: 36 :: d :: u) = decide (d = 40 ∧ u.head? = some 40) := by
    apply decide_eq_decide.2
    rw [List.cons_prefix_cons, pre2]
    exact ⟨fun h => h.2, fun h => ⟨rfl, h⟩⟩
  have e2 : decide (([36, 40] : List UInt8) <+: 36 :: d :: u) = decide (d = 40) := by
    apply decide_eq_decide.2
    rw [pre2, List.head?_cons, Option.some.injEq]
    exact ⟨fun h => h.2, fun h => ⟨rfl, h⟩⟩
  have e1 : decide (([36, 123] : List UInt8) <+: 36 :: d :: u) = decide (d = 123) := by
    apply decide_eq_decide.2
    rw [pre2, List.head?_cons, Option.some.injEq]
    exact ⟨fun h => h.2, fun h => ⟨rfl, h⟩⟩
  replace h3 : strings_HasPrefix.f (s.extract ((a : Int)).toNat s.size) ⟨#[36, 40, 40]⟩ = some (decide (d = 40 ∧ u.head? = some 40)) := h3.trans (congrArg some e3)
  replace h2 : strings_HasPrefix.f (s.extract ((a : Int)).toNat s.size) ⟨#[36, 40]⟩ = some (decide (d = 40)) := h2.trans (congrArg some e2)
  replace h1 : strings_HasPrefix.f (s.extract ((a : Int)).toNat s.size) ⟨#[36, 123]⟩ = some (decide (d = 123)) := h1.trans (congrArg some e1)
  have hu : u = L s (a + 2) := by
    have := L_drop s a 2
    rw [hd] at this
    exact this
  have w2 : wrap64 ((a : Int) + 2) = ((a + 2 : Nat) : Int) := wrapK (i := a) 2 (by omega)
  have w3 : wrap64 ((a : Int) + 3) = ((a + 3 : Nat) : Int) := wrapK (i := a) 3 (by omega)
  have W2 := Aside0.mk w2
  have W3 := Aside0.mk w3
  clear w2 w3
  have la : (a : Int) ≤ (s.size : Int) := by omega
  have sst : sc (.st p) (36 :: d :: u) = (if d = 123 then (sc (.br p) u).wr 2 else if d = 40 then (if u.head? = some 40 then (sc (.ar 0) u.tail).wr 3 else (sc (.cm 0 true) u).wr 2) else if isLet d then .ok (1 + nameL (d :: u)) else if isDig d || isSpc d then .ok 2 else .ok 1) := by
    rw [sc_st, if_neg (by decide), if_neg (by decide), if_pos rfl]
  rw [sst]
  unfold lexer_scanner_dollar.f
  simp only [if_pos (ige a), if_pos la, h3, h2, h1, Option.bind_some]
  by_cases d40 : d = 40
  · rw [if_neg (by rw [d40]; decide), if_pos d40]
    by_cases u40 : u.head? = some 40
    · have t1 : u.tail = L s (a + 3) := by rw [hu, ← List.drop_one, L_drop]
      have hl : a + 3 ≤ s.size := by
        cases u with
        | nil => cases u40
        | cons x y => rw [List.length_cons] at hlen; omega
      rw [if_pos u40, P_wr, t1]
      simp only [decide_eq_true (⟨d40, u40⟩ : d = 40 ∧ u.head? = some 40), if_true]
      refine Ev.bind ?_ (Ev.now (P a (a + 3) (sc (.ar 0) (L s (a + 3)))))
      unfold lexer_scanner_sum.f
      simp only [W3.out]
      exact ev_sum s hB (a + 1) 2 (fun i l1 l2 => hS i 2 l1 l2 (Or.inr (Or.inr rfl))) rfl a _ (a + 3) 0 (Nat.le_refl _) (by omega) hl (by omega)
    · rw [if_neg u40, P_wr, hu]
      rw [hu] at u40
      simp only [decide_eq_false (fun h => u40 h.2 : ¬ (d = 40 ∧ (L s (a + 2)).head? = some 40)), decide_eq_true d40, Bool.false_eq_true, if_false, if_true]
      refine Ev.bind ?_ (Ev.now (P a (a + 2) (sc (.cm 0 true) (L s (a + 2)))))
      unfold lexer_scanner_command.f
      simp only [W2.out]
      exact ev_command s hB (a + 1) (fun i l1 l2 => hS i 0 l1 l2 (Or.inl rfl)) a _ (a + 2) 0 true (Nat.le_refl _) (by omega) (by omega) (by omega)
  · have n3 : ¬ (d = 40 ∧ u.head? = some 40) := fun h => d40 h.1
    simp only [decide_eq_false n3, decide_eq_false d40, Bool.false_eq_true, if_false]
    by_cases d123 : d = 123
    · rw [if_pos d123, P_wr, hu]
      simp only [decide_eq_true d123, if_true]
      refine Ev.bind ?_ (Ev.now (P a (a + 2) (sc (.br p) (L s (a + 2)))))
      unfold lexer_scanner_braced.f
      simp only [W2.out]
      exact ev_braced s hB (a + 1) p (fun i l1 l2 => hS i p l1 l2 hp) a _ (a + 2) (Nat.le_refl _) (by omega) (by omega)
    · rw [if_neg d123, if_neg d40]
      simp only [decide_eq_false d123, Bool.false_eq_true, if_false]
      obtain ⟨x, hx⟩ : ∃ x, s.extract ((a : Int)).toNat s.size = x := ⟨_, rfl⟩
      have hxl : x.data.toList = 36 :: d :: u := by rw [← hx, Int.toNat_natCast, extr, hd]
      have hxs : x.size = u.length + 2 := by rw [← dl_len, hxl]; rfl
      have hL : ∀ n, L x n = (36 :: d :: u).drop n := fun n => by unfold L; rw [hxl]
      have hb1 : bt x (1 : Int) = (d.toNat : Int) := by
        obtain ⟨e, h1, h2⟩ := L_cons x 1 (by omega)
        rw [hL] at h1
        have : d = e := (List.cons.inj h1).1
        rw [this]
        exact h2
      have c1 : (1 : Int) < (x.size : Int) := by omega
      rw [hx]
      simp only [if_pos c1, hb1, letter_eq, Option.bind_some]
      by_cases hl : isLet d = true
      · rw [if_pos hl]
        simp only [hl, if_true]
        have := ev_dname s hB a x (by omega) (by omega) _ 2 (Nat.le_refl _) (by omega)
        rw [hL] at this
        have e : ((a + (2 + nameL ((36 :: d :: u).drop 2)) : Nat) : Int) = ((a + (1 + nameL (d :: u)) : Nat) : Int) := by
          rw [nameL, hl]
          show ((a + (2 + nameL u) : Nat) : Int) = ((a + (1 + (nameL u + 1)) : Nat) : Int)
          omega
        rw [e] at this
        exact this
      · rw [if_neg hl]
        simp only [hl, if_false, W2.out]
        have hds : (isDig d || isSpc d) = true := by
          rw [bg_cons, if_neg (by decide), if_neg (by decide), if_pos rfl, dlr] at hb
          have q1 : (d == 123) = false := by simpa using d123
          have q2 : (d == 40) = false := by simpa using d40
          rw [Bool.eq_false_iff.2 hl, q1, q2] at hb
          simpa using hb
        rw [if_pos hds]
        exact Ev.now _
theorem ev_pass (hb : bg p (L s a) = true) : Ev (fun k => lexer_scanner_pass.f k s (a : Int) p) (P a a (sc (.st p) (L s a))) := by
  obtain ⟨c, hc, hbt⟩ := L_cons s a ha
  rw [hc] at hb ⊢
  have hd := hc
  obtain ⟨t, ht⟩ : ∃ t, L s (a + 1) = t := ⟨_, rfl⟩
  rw [ht] at hb hd ⊢
  have hlen : t.length = s.size - (a + 1) := by rw [← ht, L_len]
  have W1 := Aside0.mk (wrapS (show a < 9223372036854775807 by omega))
  have W2 : Aside0 (wrap64 ((a : Int) + 2) = ((a + 2 : Nat) : Int)) := ⟨wrapK (i := a) 2 (by omega)⟩
  unfold lexer_scanner_pass.f
  simp only [if_pos (ige a), if_pos (ilt ha), W1.out, W2.out]
  by_cases h92 : c = 92
  · have e92 : bt s (a : Int) = 92 := by rw [hbt]; exact (num c 92).2 h92
    rw [sc_st, if_pos h92]
    simp only [if_pos e92]
    by_cases hn : t = []
    · have ee : ((a + 1 : Nat) : Int) = (s.size : Int) := by rw [hn] at hlen; simp at hlen; omega
      rw [if_pos hn]
      simp only [if_pos ee, lex_open]
      exact Ev.now _
    · have ne : ¬ ((a + 1 : Nat) : Int) = (s.size : Int) := by have := List.length_pos_iff.2 hn; omega
      rw [if_neg hn]
      simp only [if_neg ne]
      exact Ev.now _
  · have n92 : ¬ bt s (a : Int) = 92 := by rw [hbt]; exact fun h => h92 ((num c 92).1 h)
    simp only [if_neg n92]
    by_cases h39 : c = 39
    · have e39 : bt s (a : Int) = 39 := by rw [hbt]; exact (num c 39).2 h39
      have hp0 : p = 0 := by
        rw [bg_cons, if_pos (Or.inl h39)] at hb
        exact of_decide_eq_true hb
      have la : ((a + 1 : Nat) : Int) ≤ (s.size : Int) := by omega
      have hx := idx_at s (a + 1) 39
      have fi : Lib.indexByte t (39 : Int).toNat.toUInt8 = _ := fnd_idx 39 t
      rw [ht, fi] at hx
      have st : sc (.st p) (c :: t) = (match fnd 39 t with | none => .bad false 0 | some n => .ok (n + 2)) := by rw [sc_st, if_neg h92, if_neg (by rw [h39]; decide), if_neg (by rw [h39]; decide), if_pos ⟨h39, hp0⟩]; cases fnd 39 t <;> rfl
      rw [st]
      simp only [if_pos e39, if_pos (ige _), if_pos la, hx, Option.bind_some]
      cases hf : fnd 39 t with
      | none =>
        dsimp only
        rw [if_pos (by decide)]
        exact Ev.now _
      | some n =>
        dsimp only
        have fl := fnd_le 39 t n hf
        have nn : ¬ (n : Int) < 0 := by omega
        rw [if_neg nn, wrapK n (by omega), show wrap64 (((a + n : Nat) : Int) + 2) = ((a + n + 2 : Nat) : Int) from wrapK (i := a + n) 2 (by omega)]
        exact Ev.now _
    · have n39 : ¬ bt s (a : Int) = 39 := by rw [hbt]; exact fun h => h39 ((num c 39).1 h)
      simp only [if_neg n39]
      by_cases h34 : c = 34
      · have e34 : bt s (a : Int) = 34 := by rw [hbt]; exact (num c 34).2 h34
        have hp0 : p = 0 := by
          rw [bg_cons, if_pos (Or.inr h34)] at hb
          exact of_decide_eq_true hb
        have st : sc (.st p) (c :: t) = (sc .db t).wr 1 := by rw [sc_st, if_neg h92, if_neg (by rw [h34]; decide), if_neg (by rw [h34]; decide), if_neg (fun h => h39 h.1), if_pos ⟨h34, hp0⟩]
        rw [st, P_wr, ← ht]
        simp only [if_pos e34]
        refine Ev.bind ?_ (Ev.now (P a (a + 1) (sc .db (L s (a + 1)))))
        unfold lexer_scanner_doubled.f
        simp only [W1.out]
        exact ev_doubled s hB (a + 1) 1 (fun i l1 l2 => hS i 1 l1 l2 (Or.inr (Or.inl rfl))) rfl a _ (a + 1) (Nat.le_refl _) (Nat.le_refl _) (by omega)
      · have n34 : ¬ bt s (a : Int) = 34 := by rw [hbt]; exact fun h => h34 ((num c 34).1 h)
        simp only [if_neg n34]
        by_cases h96 : c = 96
        · have e96 : bt s (a : Int) = 96 := by rw [hbt]; exact (num c 96).2 h96
          have st : sc (.st p) (c :: t) = (bq t).wr 1 := by rw [sc_st, if_neg h92, if_pos h96]
          rw [st, P_wr, ← ht]
          simp only [if_pos e96]
          refine Ev.bind ?_ (Ev.now (P a (a + 1) (bq (L s (a + 1)))))
          unfold lexer_scanner_backquoted.f
          simp only [W1.out]
          exact ev_backquoted s hB a _ (a + 1) (Nat.le_refl _)
        · have n96 : ¬ bt s (a : Int) = 96 := by rw [hbt]; exact fun h => h96 ((num c 96).1 h)
          simp only [if_neg n96]
          have h36 : c = 36 := by
            rw [bg_cons, if_neg (fun h => h.elim h39 h34), if_neg (fun h => h.elim h92 h96)] at hb
            by_cases h : c = 36
            · exact h
            · rw [if_neg h] at hb; cases hb
          subst h36
          cases t with
          | nil =>
            rw [bg_cons, if_neg (by decide), if_neg (by decide), if_pos rfl] at hb
            cases hb
          | cons d u => exact Ev.bind (ev_dollar s hB a ha hS p hp d u hd hb) (Ev.now _)
end
end Go.Proofs.Ythoanbjklgoggaa.PAll
