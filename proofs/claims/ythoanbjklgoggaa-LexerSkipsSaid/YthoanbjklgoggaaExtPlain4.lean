/- The program's scanner answers the plain one: the command substitution, what begins with a dollar, and what is passed. -/
import Derived.Test.YthoanbjklgoggaaPAllx8
import Derived.Test.YthoanbjklgoggaaExtPlain3
import Derived.Test.YthoanbjklgoggaaExtPlain10
namespace Go.Proofs.Ythoanbjklgoggaa.PAll
open Go.RowKit Go.Proofs.YthoanbjklgoggaaW.PrintWords Go.Proofs.YthoanbjklgoggaaW.PrintLast
set_option linter.unusedVariables false
set_option linter.unusedSimpArgs false
section
variable [ScanC] (s : ByteArray) (hB : s.size ≤ 1099511627776) (lo : Nat) (hS : ∀ i, lo ≤ i → i < s.size → lexer_scanner_step.f s (i : Int) 0 = some (P i i (sc (.st 0) (L s i))))
include hB hS
theorem ev_command (a : Nat) : ∀ (d i dp : Nat) (b : Bool), s.size - i ≤ d → lo ≤ i → i ≤ s.size → dp ≤ i → Ev (fun k => lexer_scanner_command.l0 k (a : Int) (dp : Int) b (i : Int) s) (P a i (sc (.cm dp b) (L s i))) := by
  have j4 : ∀ i : Nat, Ev (fun k => lexer_scanner_command.j4 k (a : Int)) (P a i .opn) := fun i =>
    Ev.step (f := fun _ => some (P a i .opn)) (fun k => by simp only [lexer_scanner_command.j4]; rw [lex_open]; rfl) (Ev.now _)
  have none_ : ∀ (i dp : Nat) (b : Bool), s.size ≤ i → Ev (fun k => lexer_scanner_command.l0 k (a : Int) (dp : Int) b (i : Int) s) (P a i (sc (.cm dp b) (L s i))) := by
    intro i dp b hi
    rw [L_nil s i hi, sc_cm_nil]
    refine Ev.step (fun k => ?_) (j4 i)
    simp only [lexer_scanner_command.l0]
    rw [if_neg (by omega)]
  intro d
  induction d with
  | zero => exact fun i dp b h1 h2 h3 h4 => none_ i dp b (by omega)
  | succ d ih =>
    intro i dp b h1 h2 h3 h4
    rcases Nat.lt_or_ge i s.size with hi | hi
    case inr => exact none_ i dp b hi
    obtain ⟨c, hc, hb⟩ := L_cons s i hi
    have hs := hS i h2 hi
    have hx := idx_at s i 10
    have hh := hasPre_at s i ⟨#[92, 10]⟩
    rw [hc] at hs hx hh ⊢
    have len : (L s (i + 1)).length = s.size - (i + 1) := L_len s (i + 1)
    obtain ⟨t, ht⟩ : ∃ t, L s (i + 1) = t := ⟨_, rfl⟩
    rw [ht] at hs hx hh len ⊢
    rw [sc_cm]
    -- the step, at the depth and the flag that follow
    have J3 : ∀ (dq : Nat) (e : Bool), dq ≤ i + 1 → dq = dep dp c → Ev (fun k => lexer_scanner_command.j3 k (a : Int) (dq : Int) e (i : Int) s) (P a i ((sc (.st 0) (c :: t)).on (fun n => sc (.cm (dep dp c) e) (t.drop (n - 1))))) := by
      intro dq e hq hd
      rw [← hd]
      refine Ev.step (fun k => ?_) (ev_on (X := fun f n => lexer_scanner_command.l0 f (a : Int) (dq : Int) e n s) (st_no 0 _) (a := a) (i := i) (fun n hn => ?_))
      · simp only [lexer_scanner_command.j3]
        rw [hs]
      · have b := sc_in hn
        rw [List.length_cons, len] at b
        rw [← ht, L_drop, show i + 1 + (n - 1) = i + n by omega]
        exact ih (i + n) dq e (by omega) (by omega) (by omega) (by omega)
    have J2 : ∀ e : Bool, Ev (fun k => lexer_scanner_command.j2 k (a : Int) (dp : Int) e (i : Int) (bt s (i : Int)) s) (P a i (if c = 41 ∧ dp = 0 then .ok 1 else (sc (.st 0) (c :: t)).on (fun n => sc (.cm (dep dp c) e) (t.drop (n - 1))))) := by
      intro e
      by_cases h40 : c = 40
      · rw [if_neg (fun h => absurd h.1 (by rw [h40]; decide))]
        refine Ev.step (fun k => ?_) (J3 (dp + 1) e (by omega) (by unfold dep; rw [if_pos h40]))
        simp only [lexer_scanner_command.j2]
        rw [if_pos (by rw [hb]; exact (num c 40).2 h40), wrapS (by omega)]
      · have n40 : ¬ bt s (i : Int) = 40 := by rw [hb]; exact fun h => h40 ((num c 40).1 h)
        by_cases h41 : c = 41
        · have e41 : bt s (i : Int) = 41 := by rw [hb]; exact (num c 41).2 h41
          by_cases h0 : dp = 0
          · rw [if_pos ⟨h41, h0⟩]
            refine Ev.step (f := fun _ => some (P a i (.ok 1))) (fun k => ?_) (Ev.now _)
            simp only [lexer_scanner_command.j2]
            rw [if_neg n40, if_pos e41, if_pos (by omega), wrapS (by omega)]
            rfl
          · rw [if_neg (fun h => h0 h.2)]
            refine Ev.step (fun k => ?_) (J3 (dp - 1) e (by omega) (by unfold dep; rw [if_neg h40, if_pos h41]))
            simp only [lexer_scanner_command.j2]
            rw [if_neg n40, if_pos e41, if_neg (by omega), wrapM (by omega) (by omega)]
        · have n41 : ¬ bt s (i : Int) = 41 := by rw [hb]; exact fun h => h41 ((num c 41).1 h)
          rw [if_neg (fun h => h41 h.1)]
          refine Ev.step (fun k => ?_) (J3 dp e (by omega) (by unfold dep; rw [if_neg h40, if_neg h41]))
          simp only [lexer_scanner_command.j2]
          rw [if_neg n40, if_neg n41]
    have J1 : ∀ e : Bool, (e = true ↔ (c = 35 ∧ b = true)) → Ev (fun k => lexer_scanner_command.j1 k (a : Int) (dp : Int) b (i : Int) (bt s (i : Int)) e s) (P a i (if c = 35 ∧ b = true then (match fnd 10 t with | none => .opn | some n => (sc (.cm dp b) (t.drop n)).sh (n + 1))
    else if c = 92 ∧ t.head? = some 10 then (sc (.cm dp b) t.tail).sh 2
    else if c = 41 ∧ dp = 0 then .ok 1
    else (sc (.st 0) (c :: t)).on (fun n => sc (.cm (dep dp c) (isBlk c || c == 10 || isOp c)) (t.drop (n - 1))))) := by
      intro e he
      by_cases het : e = true
      · have q := he.1 het
        rw [if_pos q]
        have f0 : fnd 10 (c :: t) = (fnd 10 t).map (· + 1) := by rw [fnd, if_neg (by rw [q.1]; decide)]
        have fi : Lib.indexByte (c :: t) (10 : Int).toNat.toUInt8 = _ := fnd_idx 10 (c :: t)
        rw [fi, f0] at hx
        cases hf : fnd 10 t with
        | none =>
          rw [hf] at hx
          refine Ev.step (fun k => ?_) (j4 i)
          simp only [lexer_scanner_command.j1]
          rw [if_pos het, if_pos (ige i), if_pos (ile h3), hx]
          rfl
        | some n =>
          rw [hf] at hx
          have fl := fnd_le 10 t n hf
          have hx2 : strings_IndexByte.f (s.extract ((i : Int)).toNat s.size) 10 = some ((n + 1 : Nat) : Int) := hx
          dsimp only
          rw [P_sh, ← ht, L_drop, show i + 1 + n = i + (n + 1) by omega]
          refine Ev.step (fun k => ?_) (ih (i + (n + 1)) dp b (by omega) (by omega) (by omega) (by omega))
          simp only [lexer_scanner_command.j1]
          rw [if_pos het, if_pos (ige i), if_pos (ile h3), hx2, Option.bind_some, if_neg (by omega), wrapK (n + 1) (by omega)]
      · rw [if_neg (fun h => het (he.2 h))]
        by_cases h92 : c = 92 ∧ t.head? = some 10
        · rw [if_pos h92]
          have hh2 : strings_HasPrefix.f (s.extract ((i : Int)).toNat s.size) ⟨#[92, 10]⟩ = some true := by rw [hh]; exact congrArg some (decide_eq_true ((pre2 92 10 c t).2 h92))
          have tl : t.tail = L s (i + 2) := by rw [← ht, ← List.drop_one, L_drop]
          have t1 : 0 < t.length := by
            cases t with
            | nil => exact absurd h92.2 (by simp)
            | cons x y => simp
          rw [tl, P_sh]
          refine Ev.step (fun k => ?_) (ih (i + 2) dp b (by omega) (by omega) (by omega) (by omega))
          simp only [lexer_scanner_command.j1]
          rw [if_neg het, if_pos (ige i), if_pos (ile h3), hh2, Option.bind_some, if_pos rfl]
          have w2 := wrapK (i := i) 2 (by omega)
          rw [show ((2 : Nat) : Int) = 2 from rfl] at w2
          rw [w2]
        · rw [if_neg h92]
          have hh2 : strings_HasPrefix.f (s.extract ((i : Int)).toNat s.size) ⟨#[92, 10]⟩ = some false := by rw [hh]; exact congrArg some (decide_eq_false (fun h => h92 ((pre2 92 10 c t).1 h)))
          refine Ev.step (fun k => ?_) (J2 (isBlk c || c == 10 || isOp c))
          simp only [lexer_scanner_command.j1]
          rw [if_neg het, if_pos (ige i), if_pos (ile h3), hh2, Option.bind_some, if_neg (by simp), hb, blank_eq, opByte_eq, Option.bind_some, Option.bind_some]
          have n10 : ((c.toNat : Int) = 10) ↔ c = 10 := num c 10
          by_cases k1 : isBlk c = true
          · rw [if_pos k1, k1]
            rfl
          · rw [if_neg k1, Bool.eq_false_iff.2 k1]
            by_cases k2 : c = 10
            · rw [if_pos (n10.2 k2), k2]
              rfl
            · rw [if_neg (fun h => k2 (n10.1 h)), beq_false_of_ne k2]
              rfl
    by_cases h35 : c = 35
    · refine Ev.step (fun k => ?_) (J1 b ⟨fun h => ⟨h35, h⟩, fun h => h.2⟩)
      simp only [lexer_scanner_command.l0]
      rw [if_pos (ilt hi), if_pos (ige i), if_pos (by rw [hb]; exact (num c 35).2 h35)]
    · refine Ev.step (fun k => ?_) (J1 false ⟨fun h => (by cases h), fun h => absurd h.1 h35⟩)
      simp only [lexer_scanner_command.l0]
      rw [if_pos (ilt hi), if_pos (ige i), if_neg (by rw [hb]; exact fun h => h35 ((num c 35).1 h))]
end
end Go.Proofs.Ythoanbjklgoggaa.PAll
