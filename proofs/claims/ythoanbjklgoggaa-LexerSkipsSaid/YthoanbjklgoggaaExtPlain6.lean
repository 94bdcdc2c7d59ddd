/- The plain scanner with rounds, so that examples can be reckoned. -/
import Derived.Test.YthoanbjklgoggaaExtPlain2
namespace Go.Proofs.Ythoanbjklgoggaa.PAll
open Go.RowKit Go.Proofs.YthoanbjklgoggaaW.PrintWords Go.Proofs.YthoanbjklgoggaaW.PrintLast
set_option linter.unusedVariables false
set_option linter.unusedSimpArgs false
def scB (rc : Md → List UInt8 → R) : Md → List UInt8 → R
  | .st p, [] => .bad false 0
  | .st p, c :: t =>
    if c = 92 then (if t = [] then .bad false 0 else .ok 2)
    else if c = 96 then (bq t).wr 1
    else if c = 36 then
      match t with
      | [] => .ok 1
      | d :: u =>
        if d = 123 then (rc (.br p) u).wr 2
        else if d = 40 then (if u.head? = some 40 then (rc (.ar 0) u.tail).wr 3 else (rc (.cm 0 true) u).wr 2)
        else if isLet d then .ok (1 + nameL (d :: u))
        else if isDig d || isSpc d then .ok 2
        else .ok 1
    else if c = 39 ∧ p = 0 then (match fnd 39 t with | none => .bad false 0 | some n => .ok (n + 2))
    else if c = 34 ∧ p = 0 then (rc .db t).wr 1
    else .ok 1
  | .db, [] => .opn
  | .db, c :: t => if c = 34 then .ok 1 else (rc (.st 1) (c :: t)).on (fun n => rc .db (t.drop (n - 1)))
  | .br p, [] => .opn
  | .br p, c :: t => if c = 125 then .ok 1 else if c = 34 ∧ p = 1 then .bad true 0 else (rc (.st p) (c :: t)).on (fun n => rc (.br p) (t.drop (n - 1)))
  | .ar d, [] => .opn
  | .ar d, c :: t => if c = 41 ∧ d = 0 then (if t = [] then .opn else if t.head? = some 41 then .ok 2 else .bad true 0) else (rc (.st 2) (c :: t)).on (fun n => rc (.ar (dep d c)) (t.drop (n - 1)))
  | .cm d b, [] => .opn
  | .cm d b, c :: t =>
    if c = 35 ∧ b = true then (match fnd 10 t with | none => .opn | some n => (rc (.cm d b) (t.drop n)).sh (n + 1))
    else if c = 92 ∧ t.head? = some 10 then (rc (.cm d b) t.tail).sh 2
    else if c = 41 ∧ d = 0 then .ok 1
    else (rc (.st 0) (c :: t)).on (fun n => rc (.cm (dep d c) (isBlk c || c == 10 || isOp c)) (t.drop (n - 1)))
theorem scB_sc (md : Md) (l : List UInt8) : sc md l = scB sc md l := by
  cases md with
  | st p =>
    cases l with
    | nil => rw [sc_st_nil]; rfl
    | cons c t => rw [sc_st]; cases t <;> rfl
  | db => cases l with | nil => rw [sc_db_nil]; rfl | cons c t => rw [sc_db]; rfl
  | br p => cases l with | nil => rw [sc_br_nil]; rfl | cons c t => rw [sc_br]; rfl
  | ar d => cases l with | nil => rw [sc_ar_nil]; rfl | cons c t => rw [sc_ar]; rfl
  | cm d b => cases l with | nil => rw [sc_cm_nil]; rfl | cons c t => rw [sc_cm]; rfl
theorem scB_cg (rc : Md → List UInt8 → R) (md : Md) (l : List UInt8) (h : ∀ md2 l2, 2 * l2.length + md2.rk < 2 * l.length + md.rk → rc md2 l2 = sc md2 l2) : scB rc md l = sc md l := by
  rw [scB_sc]
  cases l with
  | nil => cases md <;> rfl
  | cons c t =>
    have on_ : ∀ (p : Int) (md2 : Md), md2.rk = 1 → md.rk = 1 → (rc (.st p) (c :: t)).on (fun n => rc md2 (t.drop (n - 1))) = (sc (.st p) (c :: t)).on (fun n => sc md2 (t.drop (n - 1))) := by
      intro p md2 r1 r2
      have a := h (.st p) (c :: t) (by rw [r2]; show 2 * (c :: t).length + 0 < _; omega)
      have b : (fun n => rc md2 (t.drop (n - 1))) = (fun n => sc md2 (t.drop (n - 1))) := by
        funext n
        exact h md2 _ (by rw [List.length_drop, List.length_cons]; omega)
      rw [a, b]
    cases md with
    | st p =>
      cases t with
      | nil =>
        have a1 := h .db [] (by simp only [Md.rk, List.length_cons, List.length_nil]; omega)
        simp only [scB, a1]
      | cons d u =>
        have a1 := h .db (d :: u) (by simp only [Md.rk, List.length_cons]; omega)
        have a2 := h (.br p) u (by simp only [Md.rk, List.length_cons]; omega)
        have a3 := h (.ar 0) u.tail (by simp only [Md.rk, List.length_cons, List.length_tail]; omega)
        have a4 := h (.cm 0 true) u (by simp only [Md.rk, List.length_cons]; omega)
        simp only [scB, a1, a2, a3, a4]
    | db => simp only [scB, on_ 1 .db rfl rfl]
    | br p => simp only [scB, on_ p (.br p) rfl rfl]
    | ar d => simp only [scB, on_ 2 (.ar (dep d c)) rfl rfl]
    | cm d b =>
      have a1 : ∀ n, rc (.cm d b) (t.drop n) = sc (.cm d b) (t.drop n) := fun n => h (.cm d b) (t.drop n) (by rw [List.length_drop, List.length_cons]; simp only [Md.rk]; omega)
      have a2 := h (.cm d b) t.tail (by rw [List.length_tail, List.length_cons]; simp only [Md.rk]; omega)
      simp only [scB, a1, a2, on_ 0 (.cm (dep d c) (isBlk c || c == 10 || isOp c)) rfl rfl]
def scF : Nat → Md → List UInt8 → R
  | 0, _, _ => .opn
  | n + 1, md, l => scB (scF n) md l
theorem scF_sc : ∀ (n : Nat) (md : Md) (l : List UInt8), 2 * l.length + md.rk < n → scF n md l = sc md l
  | 0, md, l, h => by omega
  | n + 1, md, l, h => by
    rw [scF]
    exact scB_cg _ md l (fun md2 l2 h2 => scF_sc n md2 l2 (by omega))
end Go.Proofs.Ythoanbjklgoggaa.PAll
