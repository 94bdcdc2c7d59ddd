/- The program's scanner answers the plain one: its loops, one text further on. -/
import Derived.Test.YthoanbjklgoggaaPAllx7
import Derived.Test.YthoanbjklgoggaaExtPlain2
namespace Go.Proofs.Ythoanbjklgoggaa.PAll
open Go.RowKit Go.Proofs.YthoanbjklgoggaaW.PrintWords Go.Proofs.YthoanbjklgoggaaW.PrintLast
set_option linter.unusedVariables false
set_option linter.unusedSimpArgs false
def en (e : Bool) : Int := if e = true then 6 else 7
theorem en_ne (e : Bool) : ¬ en e = 0 := by cases e <;> decide
/-- A result as the program tells it: the construct began at a, the reading stands at i. -/
def P (a i : Nat) : R → Int × Int × Int
  | .ok n => (((i + n : Nat) : Int), 0, 0)
  | .bad e o => (0, en e, ((i + o : Nat) : Int))
  | .opn => (0, 7, (a : Int))
theorem P_sh (a i n : Nat) (r : R) : P a i (r.sh n) = P a (i + n) r := by
  cases r with
  | ok m => show (((i + (n + m) : Nat) : Int), (0 : Int), (0 : Int)) = (((i + n + m : Nat) : Int), 0, 0); rw [Nat.add_assoc]
  | bad e o => show ((0 : Int), en e, ((i + (n + o) : Nat) : Int)) = (0, en e, ((i + n + o : Nat) : Int)); rw [Nat.add_assoc]
  | opn => rfl
theorem P_wr (x a n : Nat) (r : R) : P x a (r.wr n) = P a (a + n) r := by
  cases r with
  | ok m => show (((a + (n + m) : Nat) : Int), (0 : Int), (0 : Int)) = (((a + n + m : Nat) : Int), 0, 0); rw [Nat.add_assoc]
  | bad e o => show ((0 : Int), en e, ((a + (n + o) : Nat) : Int)) = (0, en e, ((a + n + o : Nat) : Int)); rw [Nat.add_assoc]
  | opn => rfl
theorem wr_no (r : R) (n : Nat) : r.wr n ≠ .opn := by cases r <;> exact fun h => by cases h
theorem st_no (p : Int) (l : List UInt8) : sc (.st p) l ≠ .opn := by
  cases l with
  | nil => rw [sc_st_nil]; exact fun h => by cases h
  | cons c t =>
    rw [sc_st]
    split
    · split <;> exact fun h => by cases h
    · split
      · exact wr_no _ _
      · split
        · cases t with
          | nil => exact fun h => by cases h
          | cons d u =>
            dsimp only
            split
            · exact wr_no _ _
            · split
              · split <;> exact wr_no _ _
              · split
                · exact fun h => by cases h
                · split <;> exact fun h => by cases h
        · split
          · cases fnd 39 t <;> exact fun h => by cases h
          · split
            · exact wr_no _ _
            · exact fun h => by cases h
theorem ev_on {X : Nat → Int → Option (Int × Int × Int)} {r : R} (hr : r ≠ .opn) {k : Nat → R} {a i : Nat} (hX : ∀ n, r = .ok n → Ev (fun f => X f ((i + n : Nat) : Int)) (P a (i + n) (k n))) :
    Ev (fun f => (some (P i i r)).bind fun bt => if bt.2.1 = 0 then X f bt.1 else some (0, bt.2.1, bt.2.2)) (P a i (r.on k)) := by
  cases r with
  | ok n =>
    have := hX n rfl
    show Ev (fun f => X f ((i + n : Nat) : Int)) (P a i ((k n).sh n))
    rw [P_sh]
    exact this
  | bad e o =>
    refine ⟨0, fun f _ => ?_⟩
    show (if en e = 0 then X f 0 else some ((0 : Int), en e, ((i + o : Nat) : Int))) = _
    rw [if_neg (en_ne e)]
    rfl
  | opn => exact absurd rfl hr
theorem lex_open (a : Int) : lexer_open.f a = some (0, 7, a) := rfl
section
variable [ScanC] (s : ByteArray) (hB : s.size ≤ 1099511627776) (lo : Nat) (p : Int) (hS : ∀ i, lo ≤ i → i < s.size → lexer_scanner_step.f s (i : Int) p = some (P i i (sc (.st p) (L s i))))
include hB hS
theorem ev_doubled (hp : p = 1) (a : Nat) : ∀ (d i : Nat), s.size - i ≤ d → lo ≤ i → i ≤ s.size → Ev (fun k => lexer_scanner_doubled.l0 k (a : Int) (i : Int) s) (P a i (sc .db (L s i))) := by
  subst hp
  intro d
  induction d with
  | zero =>
    intro i h1 h2 h3
    rw [L_nil s i (by omega), sc_db_nil]
    refine Ev.step (f := fun _ => some (P a i .opn)) (fun k => ?_) (Ev.now _)
    simp only [lexer_scanner_doubled.l0]
    rw [if_neg (by omega), lex_open]
    rfl
  | succ d ih =>
    intro i h1 h2 h3
    rcases Nat.lt_or_ge i s.size with hi | hi
    case inr =>
      rw [L_nil s i hi, sc_db_nil]
      refine Ev.step (f := fun _ => some (P a i .opn)) (fun k => ?_) (Ev.now _)
      simp only [lexer_scanner_doubled.l0]
      rw [if_neg (by omega), lex_open]
      rfl
    obtain ⟨c, hc, hb⟩ := L_cons s i hi
    have hs := hS i h2 hi
    rw [hc] at hs ⊢
    rw [sc_db]
    by_cases h34 : c = 34
    · rw [if_pos h34]
      refine Ev.step (f := fun _ => some (P a i (.ok 1))) (fun k => ?_) (Ev.now _)
      simp only [lexer_scanner_doubled.l0]
      rw [if_pos (ilt hi), if_pos (ige i), if_pos (by rw [hb]; exact (num c 34).2 h34), wrapS (by omega)]
      rfl
    · rw [if_neg h34]
      refine Ev.step (fun k => ?_) (ev_on (X := fun f n => lexer_scanner_doubled.l0 f (a : Int) n s) (st_no 1 _) (a := a) (i := i) (fun n hn => ?_))
      · simp only [lexer_scanner_doubled.l0]
        rw [if_pos (ilt hi), if_pos (ige i), if_neg (by rw [hb]; exact fun h => h34 ((num c 34).1 h)), hs]
      · have b := sc_in hn
        rw [List.length_cons, L_len] at b
        rw [L_drop, show i + 1 + (n - 1) = i + n by omega]
        exact ih (i + n) (by omega) (by omega) (by omega)
theorem ev_braced (a : Nat) : ∀ (d i : Nat), s.size - i ≤ d → lo ≤ i → i ≤ s.size → Ev (fun k => lexer_scanner_braced.l0 k (a : Int) p (i : Int) s) (P a i (sc (.br p) (L s i))) := by
  intro d
  induction d with
  | zero =>
    intro i h1 h2 h3
    rw [L_nil s i (by omega), sc_br_nil]
    refine Ev.step (f := fun _ => some (P a i .opn)) (fun k => ?_) (Ev.now _)
    simp only [lexer_scanner_braced.l0]
    rw [if_neg (by omega), lex_open]
    rfl
  | succ d ih =>
    intro i h1 h2 h3
    rcases Nat.lt_or_ge i s.size with hi | hi
    case inr =>
      rw [L_nil s i hi, sc_br_nil]
      refine Ev.step (f := fun _ => some (P a i .opn)) (fun k => ?_) (Ev.now _)
      simp only [lexer_scanner_braced.l0]
      rw [if_neg (by omega), lex_open]
      rfl
    obtain ⟨c, hc, hb⟩ := L_cons s i hi
    have hs := hS i h2 hi
    rw [hc] at hs ⊢
    rw [sc_br]
    by_cases h125 : c = 125
    · rw [if_pos h125]
      refine Ev.step (f := fun _ => some (P a i (.ok 1))) (fun k => ?_) (Ev.now _)
      simp only [lexer_scanner_braced.l0]
      rw [if_pos (ilt hi), if_pos (ige i), if_pos (by rw [hb]; exact (num c 125).2 h125), wrapS (by omega)]
      rfl
    · rw [if_neg h125]
      have n125 : ¬ bt s (i : Int) = 125 := by rw [hb]; exact fun h => h125 ((num c 125).1 h)
      have J : ∀ b : Bool, (b = true ↔ (c = 34 ∧ p = 1)) → Ev (fun k => lexer_scanner_braced.j1 k (a : Int) p (i : Int) b s) (P a i (if c = 34 ∧ p = 1 then .bad true 0 else (sc (.st p) (c :: L s (i + 1))).on (fun n => sc (.br p) ((L s (i + 1)).drop (n - 1))))) := by
        intro b hb2
        by_cases hbt : b = true
        · rw [if_pos (hb2.1 hbt)]
          refine Ev.step (f := fun _ => some (P a i (.bad true 0))) (fun k => ?_) (Ev.now _)
          simp only [lexer_scanner_braced.j1]
          rw [if_pos hbt]
          rfl
        · rw [if_neg (fun h => hbt (hb2.2 h))]
          refine Ev.step (fun k => ?_) (ev_on (X := fun f n => lexer_scanner_braced.l0 f (a : Int) p n s) (st_no p _) (a := a) (i := i) (fun n hn => ?_))
          · simp only [lexer_scanner_braced.j1]
            rw [if_neg hbt, hs]
          · have b := sc_in hn
            rw [List.length_cons, L_len] at b
            rw [L_drop, show i + 1 + (n - 1) = i + n by omega]
            exact ih (i + n) (by omega) (by omega) (by omega)
      by_cases h34 : c = 34
      · refine Ev.step (fun k => ?_) (J (p == 1) (by rw [beq_iff_eq]; exact ⟨fun h => ⟨h34, h⟩, fun h => h.2⟩))
        simp only [lexer_scanner_braced.l0]
        rw [if_pos (ilt hi), if_pos (ige i), if_neg n125, if_pos (by rw [hb]; exact (num c 34).2 h34)]
      · refine Ev.step (fun k => ?_) (J false ⟨fun h => (by cases h), fun h => absurd h.1 h34⟩)
        simp only [lexer_scanner_braced.l0]
        rw [if_pos (ilt hi), if_pos (ige i), if_neg n125, if_neg (by rw [hb]; exact fun h => h34 ((num c 34).1 h))]
theorem ev_sum (hp : p = 2) (a : Nat) : ∀ (d i dp : Nat), s.size - i ≤ d → lo ≤ i → i ≤ s.size → dp ≤ i → Ev (fun k => lexer_scanner_sum.l0 k (a : Int) (dp : Int) (i : Int) s) (P a i (sc (.ar dp) (L s i))) := by
  subst hp
  have none_ : ∀ i dp : Nat, s.size ≤ i → Ev (fun k => lexer_scanner_sum.l0 k (a : Int) (dp : Int) (i : Int) s) (P a i (sc (.ar dp) (L s i))) := by
    intro i dp hi
    rw [L_nil s i hi, sc_ar_nil]
    refine Ev.step (f := fun _ => some (P a i .opn)) (fun k => ?_) (Ev.now _)
    simp only [lexer_scanner_sum.l0]
    rw [if_neg (by omega), lex_open]
    rfl
  intro d
  induction d with
  | zero => exact fun i dp h1 h2 h3 h4 => none_ i dp (by omega)
  | succ d ih =>
    intro i dp h1 h2 h3 h4
    rcases Nat.lt_or_ge i s.size with hi | hi
    case inr => exact none_ i dp hi
    obtain ⟨c, hc, hb⟩ := L_cons s i hi
    have hs := hS i h2 hi
    rw [hc] at hs ⊢
    rw [sc_ar]
    have W1 := wrapS (show i < 9223372036854775807 by omega)
    have J : ∀ dq : Nat, dq ≤ i + 1 → dq = dep dp c → Ev (fun k => lexer_scanner_sum.j1 k (a : Int) (dq : Int) (i : Int) s) (P a i ((sc (.st 2) (c :: L s (i + 1))).on (fun n => sc (.ar (dep dp c)) ((L s (i + 1)).drop (n - 1))))) := by
      intro dq hq hd
      rw [← hd]
      refine Ev.step (fun k => ?_) (ev_on (X := fun f n => lexer_scanner_sum.l0 f (a : Int) (dq : Int) n s) (st_no 2 _) (a := a) (i := i) (fun n hn => ?_))
      · simp only [lexer_scanner_sum.j1]
        rw [hs]
      · have b := sc_in hn
        rw [List.length_cons, L_len] at b
        rw [L_drop, show i + 1 + (n - 1) = i + n by omega]
        exact ih (i + n) dq (by omega) (by omega) (by omega) (by omega)
    clear W1
    by_cases h40 : c = 40
    · have e40 : bt s (i : Int) = 40 := by rw [hb]; exact (num c 40).2 h40
      rw [if_neg (fun h => absurd h.1 (by rw [h40]; decide))]
      refine Ev.step (fun k => ?_) (J (dp + 1) (by omega) (by unfold dep; rw [if_pos h40]))
      simp only [lexer_scanner_sum.l0]
      rw [if_pos (ilt hi), if_pos (ige i), if_pos e40, wrapS (by omega)]
    · have n40 : ¬ bt s (i : Int) = 40 := by rw [hb]; exact fun h => h40 ((num c 40).1 h)
      by_cases h41 : c = 41
      · have e41 : bt s (i : Int) = 41 := by rw [hb]; exact (num c 41).2 h41
        by_cases h0 : dp = 0
        · rw [if_pos ⟨h41, h0⟩]
          have z0 : (dp : Int) = 0 := by omega
          rcases Nat.lt_or_ge (i + 1) s.size with hj | hj
          · obtain ⟨e, he, heb⟩ := L_cons s (i + 1) hj
            have ne : ¬ ((i + 1 : Nat) : Int) = (s.size : Int) := by omega
            rw [he, if_neg (by simp), List.head?_cons]
            by_cases h2e : e = 41
            · rw [if_pos (by rw [h2e])]
              refine Ev.step (f := fun _ => some (P a i (.ok 2))) (fun k => ?_) (Ev.now _)
              simp only [lexer_scanner_sum.l0]
              rw [if_pos (ilt hi), if_pos (ige i), if_neg n40, if_pos e41, if_pos z0, wrapS (by omega), if_neg ne, if_pos (ige _), if_pos (ilt hj), if_pos (by rw [heb]; exact (num e 41).2 h2e)]
              have := wrapK (i := i) 2 (by omega)
              rw [show ((2 : Nat) : Int) = 2 from rfl] at this
              rw [this]
              rfl
            · rw [if_neg (fun h => h2e (Option.some.inj h))]
              refine Ev.step (f := fun _ => some (P a i (.bad true 0))) (fun k => ?_) (Ev.now _)
              simp only [lexer_scanner_sum.l0]
              rw [if_pos (ilt hi), if_pos (ige i), if_neg n40, if_pos e41, if_pos z0, wrapS (by omega), if_neg ne, if_pos (ige _), if_pos (ilt hj), if_neg (by rw [heb]; exact fun h => h2e ((num e 41).1 h))]
              rfl
          · have ee : ((i + 1 : Nat) : Int) = (s.size : Int) := by omega
            rw [L_nil s (i + 1) hj, if_pos rfl]
            refine Ev.step (f := fun _ => some (P a i .opn)) (fun k => ?_) (Ev.now _)
            simp only [lexer_scanner_sum.l0]
            rw [if_pos (ilt hi), if_pos (ige i), if_neg n40, if_pos e41, if_pos z0, wrapS (by omega), if_pos ee, lex_open]
            rfl
        · rw [if_neg (fun h => h0 h.2)]
          refine Ev.step (fun k => ?_) (J (dp - 1) (by omega) (by unfold dep; rw [if_neg h40, if_pos h41]))
          simp only [lexer_scanner_sum.l0]
          rw [if_pos (ilt hi), if_pos (ige i), if_neg n40, if_pos e41, if_neg (by omega), wrapM (by omega) (by omega)]
      · have n41 : ¬ bt s (i : Int) = 41 := by rw [hb]; exact fun h => h41 ((num c 41).1 h)
        rw [if_neg (fun h => h41 h.1)]
        refine Ev.step (fun k => ?_) (J dp (by omega) (by unfold dep; rw [if_neg h40, if_neg h41]))
        simp only [lexer_scanner_sum.l0]
        rw [if_pos (ilt hi), if_pos (ige i), if_neg n40, if_neg n41]
end
end Go.Proofs.Ythoanbjklgoggaa.PAll
