/- The scanner, plain: how its parts unfold, and that what is passed lies within the text. -/
import Derived.Test.YthoanbjklgoggaaExtPlain1
namespace Go.Proofs.Ythoanbjklgoggaa.PAll
open Go.RowKit Go.Proofs.YthoanbjklgoggaaW.PrintWords Go.Proofs.YthoanbjklgoggaaW.PrintLast
set_option linter.unusedVariables false
set_option linter.unusedSimpArgs false
theorem R.sh_ok {r : R} {n m : Nat} (h : r.sh n = .ok m) : ∃ k, r = .ok k ∧ m = n + k := by
  cases r with
  | ok k => exact ⟨k, rfl, (R.ok.inj h).symm⟩
  | bad e o => cases h
  | opn => cases h
theorem R.wr_ok {r : R} {n m : Nat} (h : r.wr n = .ok m) : ∃ k, r = .ok k ∧ m = n + k := by
  cases r with
  | ok k => exact ⟨k, rfl, (R.ok.inj h).symm⟩
  | bad e o => cases h
  | opn => cases h
theorem bq_cons (c : UInt8) (t : List UInt8) : bq (c :: t) = if c = 96 then .ok 1 else if c = 92 then (match t with | [] => .bad false 0 | _ :: u => (bq u).sh 2) else (bq t).sh 1 := by
  cases t with
  | nil =>
    rw [bq]
    rfl
  | cons d t => rw [bq]
theorem bq_ok : ∀ (n : Nat) (l : List UInt8) (m : Nat), l.length ≤ n → bq l = .ok m → 1 ≤ m ∧ m ≤ l.length := by
  intro n
  induction n with
  | zero =>
    intro l m hl h
    obtain rfl := List.eq_nil_of_length_eq_zero (show l.length = 0 by omega)
    cases h
  | succ n ih =>
    intro l m hl h
    cases l with
    | nil => cases h
    | cons c t =>
      rw [List.length_cons] at hl ⊢
      rw [bq_cons] at h
      split at h
      · obtain rfl := R.ok.inj h
        omega
      · split at h
        · cases t with
          | nil => cases h
          | cons d u =>
            obtain ⟨k, h1, h2⟩ := R.sh_ok h
            rw [List.length_cons] at hl ⊢
            have := ih u k (by omega) h1
            omega
        · obtain ⟨k, h1, h2⟩ := R.sh_ok h
          have := ih t k (by omega) h1
          omega
theorem nameL_le : ∀ l : List UInt8, nameL l ≤ l.length
  | [] => Nat.le_refl _
  | c :: t => by
    have := nameL_le t
    rw [nameL, List.length_cons]
    split <;> omega
/-! How the parts unfold. -/
theorem sc_st (p : Int) (c : UInt8) (t : List UInt8) : sc (.st p) (c :: t) =
    if c = 92 then (if t = [] then .bad false 0 else .ok 2)
    else if c = 96 then (bq t).wr 1
    else if c = 36 then
      match t with
      | [] => .ok 1
      | d :: u =>
        if d = 123 then (sc (.br p) u).wr 2
        else if d = 40 then (if u.head? = some 40 then (sc (.ar 0) u.tail).wr 3 else (sc (.cm 0 true) u).wr 2)
        else if isLet d then .ok (1 + nameL (d :: u))
        else if isDig d || isSpc d then .ok 2
        else .ok 1
    else if c = 39 ∧ p = 0 then (match fnd 39 t with | none => .bad false 0 | some n => .ok (n + 2))
    else if c = 34 ∧ p = 0 then (sc .db t).wr 1
    else .ok 1 := by
  rw [sc.eq_def]
  cases t <;> rfl
/-- What follows a step within a loop. -/
def R.on (r : R) (k : Nat → R) : R :=
  match r with
  | .ok n => (k n).sh n
  | .bad e o => .bad e o
  | .opn => .opn
theorem sc_db (c : UInt8) (t : List UInt8) : sc .db (c :: t) = if c = 34 then .ok 1 else (sc (.st 1) (c :: t)).on (fun n => sc .db (t.drop (n - 1))) := by
  rw [sc]
  rfl
theorem sc_br (p : Int) (c : UInt8) (t : List UInt8) : sc (.br p) (c :: t) = if c = 125 then .ok 1 else if c = 34 ∧ p = 1 then .bad true 0 else (sc (.st p) (c :: t)).on (fun n => sc (.br p) (t.drop (n - 1))) := by
  rw [sc]
  rfl
def dep (d : Nat) (c : UInt8) : Nat := if c = 40 then d + 1 else if c = 41 then d - 1 else d
theorem sc_ar (d : Nat) (c : UInt8) (t : List UInt8) : sc (.ar d) (c :: t) = if c = 41 ∧ d = 0 then (if t = [] then .opn else if t.head? = some 41 then .ok 2 else .bad true 0) else (sc (.st 2) (c :: t)).on (fun n => sc (.ar (dep d c)) (t.drop (n - 1))) := by
  rw [sc]
  rfl
theorem sc_cm (d : Nat) (b : Bool) (c : UInt8) (t : List UInt8) : sc (.cm d b) (c :: t) =
    if c = 35 ∧ b = true then (match fnd 10 t with | none => .opn | some n => (sc (.cm d b) (t.drop n)).sh (n + 1))
    else if c = 92 ∧ t.head? = some 10 then (sc (.cm d b) t.tail).sh 2
    else if c = 41 ∧ d = 0 then .ok 1
    else (sc (.st 0) (c :: t)).on (fun n => sc (.cm (dep d c) (isBlk c || c == 10 || isOp c)) (t.drop (n - 1))) := by
  rw [sc]
  rfl
theorem sc_db_nil : sc .db [] = .opn := by rw [sc]
theorem sc_br_nil (p : Int) : sc (.br p) [] = .opn := by rw [sc]
theorem sc_ar_nil (d : Nat) : sc (.ar d) [] = .opn := by rw [sc]
theorem sc_cm_nil (d : Nat) (b : Bool) : sc (.cm d b) [] = .opn := by rw [sc]
theorem sc_st_nil (p : Int) : sc (.st p) [] = .bad false 0 := by rw [sc]
theorem R.on_ok {r : R} {k : Nat → R} {m : Nat} (h : r.on k = .ok m) : ∃ n j, r = .ok n ∧ k n = .ok j ∧ m = n + j := by
  cases r with
  | ok n =>
    obtain ⟨j, h1, h2⟩ := R.sh_ok (show (k n).sh n = .ok m from h)
    exact ⟨n, j, rfl, h1, h2⟩
  | bad e o => cases h
  | opn => cases h
/-- What is passed lies within the text. -/
theorem sc_ok : ∀ (z : Nat) (md : Md) (l : List UInt8) (m : Nat), 2 * l.length + md.rk ≤ z → sc md l = .ok m → 1 ≤ m ∧ m ≤ l.length := by
  intro z
  induction z with
  | zero =>
    intro md l m hz h
    obtain rfl := List.eq_nil_of_length_eq_zero (show l.length = 0 by omega)
    cases md with
    | st p => rw [sc_st_nil] at h; cases h
    | db => rw [sc_db_nil] at h; cases h
    | br p => rw [sc_br_nil] at h; cases h
    | ar d => rw [sc_ar_nil] at h; cases h
    | cm d b => rw [sc_cm_nil] at h; cases h
  | succ z ih =>
    intro md l m hz h
    cases l with
    | nil =>
      cases md with
      | st p => rw [sc_st_nil] at h; cases h
      | db => rw [sc_db_nil] at h; cases h
      | br p => rw [sc_br_nil] at h; cases h
      | ar d => rw [sc_ar_nil] at h; cases h
      | cm d b => rw [sc_cm_nil] at h; cases h
    | cons c t =>
      rw [List.length_cons] at hz ⊢
      have loop : ∀ (p : Int) (md2 : Md) (k : Nat → R), md2.rk = 1 → md.rk = 1 → k = (fun n => sc md2 (t.drop (n - 1))) → (sc (.st p) (c :: t)).on k = .ok m → 1 ≤ m ∧ m ≤ t.length + 1 := by
        intro p md2 k r1 r2 hk hh
        subst hk
        obtain ⟨n, j, h1, h2, h3⟩ := R.on_ok hh
        have a := ih (.st p) (c :: t) n (by rw [List.length_cons]; simp only [Md.rk]; omega) h1
        rw [List.length_cons] at a
        have b := ih md2 (t.drop (n - 1)) j (by rw [List.length_drop]; omega) h2
        rw [List.length_drop] at b
        omega
      cases md with
      | st p =>
        simp only [Md.rk] at hz
        rw [sc_st] at h
        split at h
        · split at h
          · cases h
          · rename_i ht
            obtain rfl := R.ok.inj h
            have : 0 < t.length := List.length_pos_iff.2 ht
            omega
        · split at h
          · obtain ⟨k, h1, h2⟩ := R.wr_ok h
            have := bq_ok _ t k (Nat.le_refl _) h1
            omega
          · split at h
            · cases t with
              | nil =>
                obtain rfl := R.ok.inj h
                simp
              | cons d u =>
                dsimp only at h
                rw [List.length_cons] at hz ⊢
                split at h
                · obtain ⟨k, h1, h2⟩ := R.wr_ok h
                  have := ih (.br p) u k (by simp only [Md.rk]; omega) h1
                  omega
                · split at h
                  · split at h
                    · rename_i hh
                      cases u with
                      | nil => cases hh
                      | cons e v =>
                        obtain ⟨k, h1, h2⟩ := R.wr_ok h
                        rw [List.tail_cons] at h1
                        rw [List.length_cons] at hz ⊢
                        have := ih (.ar 0) v k (by simp only [Md.rk]; omega) h1
                        omega
                    · obtain ⟨k, h1, h2⟩ := R.wr_ok h
                      have := ih (.cm 0 true) u k (by simp only [Md.rk]; omega) h1
                      omega
                  · split at h
                    · obtain rfl := R.ok.inj h
                      have := nameL_le (d :: u)
                      rw [List.length_cons] at this
                      omega
                    · split at h
                      · obtain rfl := R.ok.inj h
                        omega
                      · obtain rfl := R.ok.inj h
                        omega
            · split at h
              · cases hf : fnd 39 t with
                | none => rw [hf] at h; cases h
                | some n =>
                  rw [hf] at h
                  obtain rfl := R.ok.inj h
                  have := fnd_le 39 t n hf
                  omega
              · split at h
                · obtain ⟨k, h1, h2⟩ := R.wr_ok h
                  have := ih .db t k (by simp only [Md.rk]; omega) h1
                  omega
                · obtain rfl := R.ok.inj h
                  omega
      | db =>
        simp only [Md.rk] at hz
        rw [sc_db] at h
        split at h
        · obtain rfl := R.ok.inj h
          omega
        · exact loop 1 .db _ rfl rfl rfl h
      | br p =>
        simp only [Md.rk] at hz
        rw [sc_br] at h
        split at h
        · obtain rfl := R.ok.inj h
          omega
        · split at h
          · cases h
          · exact loop p (.br p) _ rfl rfl rfl h
      | ar d =>
        simp only [Md.rk] at hz
        rw [sc_ar] at h
        split at h
        · split at h
          · cases h
          · rename_i ht
            have : 0 < t.length := List.length_pos_iff.2 ht
            split at h
            · obtain rfl := R.ok.inj h
              omega
            · cases h
        · exact loop 2 (.ar (dep d c)) _ rfl rfl rfl h
      | cm d b =>
        simp only [Md.rk] at hz
        rw [sc_cm] at h
        split at h
        · cases hf : fnd 10 t with
          | none => rw [hf] at h; cases h
          | some n =>
            rw [hf] at h
            obtain ⟨k, h1, h2⟩ := R.sh_ok h
            have f := fnd_le 10 t n hf
            have := ih (.cm d b) (t.drop n) k (by rw [List.length_drop]; simp only [Md.rk]; omega) h1
            rw [List.length_drop] at this
            omega
        · split at h
          · rename_i hh
            cases t with
            | nil => exact absurd hh.2 (by simp)
            | cons e v =>
              obtain ⟨k, h1, h2⟩ := R.sh_ok h
              rw [List.tail_cons] at h1
              rw [List.length_cons] at hz ⊢
              have := ih (.cm d b) v k (by simp only [Md.rk]; omega) h1
              omega
          · split at h
            · obtain rfl := R.ok.inj h
              omega
            · exact loop 0 (.cm (dep d c) (isBlk c || c == 10 || isOp c)) _ rfl rfl rfl h
theorem sc_in {md : Md} {l : List UInt8} {m : Nat} (h : sc md l = .ok m) : 1 ≤ m ∧ m ≤ l.length := sc_ok _ md l m (Nat.le_refl _) h
end Go.Proofs.Ythoanbjklgoggaa.PAll
