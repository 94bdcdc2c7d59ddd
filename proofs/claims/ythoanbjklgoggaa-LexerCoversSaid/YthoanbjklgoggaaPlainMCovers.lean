/- Plain lemmas of this claim, out of the session's texts. -/
import Derived.Test.YthoanbjklgoggaaPAllx3
import Derived.Test.YthoanbjklgoggaaPAllx7
import Derived.Test.YthoanbjklgoggaaPAllx8
import Derived.Test.YthoanbjklgoggaaExtStepB
import Derived.Test.YthoanbjklgoggaaPAllx11
import Derived.KernelRfl
import Derived.Test.YthoanbjklgoggaaPAllx2
import Derived.Test.YthoanbjklgoggaaPAllx6
import Derived.Test.YthoanbjklgoggaaPAllx9
import Derived.Test.YthoanbjklgoggaaPAllx10
namespace Go.Proofs.Ythoanbjklgoggaa.PAll
open Go.RowKit Go.Proofs.YthoanbjklgoggaaW.PrintWords Go.Proofs.YthoanbjklgoggaaW.PrintLast
set_option linter.unusedVariables false
set_option linter.unusedSimpArgs false
section
theorem wrapS {i : Nat} (h : i < 9223372036854775807) : wrap64 ((i : Int) + 1) = ((i + 1 : Nat) : Int) := by unfold wrap64; omega
theorem wrapK {i : Nat} (j : Nat) (h : i + j ≤ 9223372036854775807) : wrap64 ((i : Int) + (j : Int)) = ((i + j : Nat) : Int) := by unfold wrap64; omega
theorem wrapM {n : Nat} (h : n > 0) (hm : n ≤ 9223372036854775807) : wrap64 ((n : Int) - 1) = ((n - 1 : Nat) : Int) := by unfold wrap64; omega
theorem ilt {i n : Nat} (h : i < n) : (i : Int) < (n : Int) := by omega
theorem ile {i n : Nat} (h : i ≤ n) : (i : Int) ≤ (n : Int) := by omega
theorem ige (i : Nat) : (0 : Int) ≤ (i : Int) := by omega
theorem dropc {α : Type} (l : List α) (i : Nat) (h : i < l.length) : l.drop i = l[i] :: l.drop (i + 1) := List.drop_eq_getElem_cons h
theorem dl_len (a : ByteArray) : a.data.toList.length = a.size := by rw [Array.length_toList]; rfl
theorem tl_eq {a b : ByteArray} : a.toList = b.toList ↔ a.data.toList = b.data.toList := by rw [Go.ByteArray.toList_eq, Go.ByteArray.toList_eq]
theorem bt_nat (s : ByteArray) (i : Nat) (h : i < s.size) : bt s (i : Int) = ((s.data.toList[i]'(by rw [dl_len]; exact h)).toNat : Int) := by
 unfold bt
 rw [Int.toNat_natCast]
 congr 1
 simp [ByteArray.get!, getElem!_def, h]
 rfl
theorem num (c n : UInt8) : ((c.toNat : Int) = (n.toNat : Int)) ↔ c = n := ⟨fun h => UInt8.toNat_inj.1 (by omega), fun h => by rw [h]⟩
def L (s : ByteArray) (i : Nat) : List UInt8 := s.data.toList.drop i
theorem L_cons (s : ByteArray) (i : Nat) (h : i < s.size) : ∃ c, L s i = c :: L s (i + 1) ∧ bt s (i : Int) = (c.toNat : Int) :=
 ⟨_, dropc _ i (by rw [dl_len]; exact h), bt_nat s i h⟩
theorem L_nil (s : ByteArray) (i : Nat) (h : s.size ≤ i) : L s i = [] := List.drop_of_length_le (by rw [dl_len]; exact h)
theorem L_len (s : ByteArray) (i : Nat) : (L s i).length = s.size - i := by unfold L; rw [List.length_drop, dl_len]
theorem L_drop (s : ByteArray) (i n : Nat) : (L s i).drop n = L s (i + n) := by unfold L; rw [List.drop_drop]
theorem extr (s : ByteArray) (i : Nat) : (s.extract i s.size).data.toList = L s i := by
 have e : (s.extract i s.size).data = s.data.extract i s.size := by simp
 rw [e, Array.toList_extract, List.extract_eq_take_drop]
 unfold L
 rw [List.take_of_length_le (by rw [List.length_drop, dl_len]; exact Nat.le_refl _)]
def isLet (c : UInt8) : Bool := (97 ≤ c && c ≤ 122) || (65 ≤ c && c ≤ 90) || c == 95
def isDig (c : UInt8) : Bool := 48 ≤ c && c ≤ 57
def isBlk (c : UInt8) : Bool := c == 32 || c == 9
def isOp (c : UInt8) : Bool := c == 38 || c == 124 || c == 59 || c == 40 || c == 41 || c == 60 || c == 62
def isSpc (c : UInt8) : Bool := c == 64 || c == 42 || c == 35 || c == 63 || c == 45 || c == 36 || c == 33
theorem all_bytes (p : UInt8 → Bool) (h : ∀ n : Fin 256, p (UInt8.ofNat n.val) = true) (c : UInt8) : p c = true := by
 have := h ⟨c.toNat, c.toNat_lt⟩
 have e : UInt8.ofNat c.toNat = c := UInt8.ofNat_toNat
 rw [e] at this
 exact this
theorem letter_eq (c : UInt8) : lexer_letter.f (c.toNat : Int) = some (isLet c) := by
 have := all_bytes (fun c => lexer_letter.f (c.toNat : Int) == some (isLet c)) (by decide +kernel) c
 exact eq_of_beq this
theorem digit_eq (c : UInt8) : lexer_digit.f (c.toNat : Int) = some (isDig c) := by
 have := all_bytes (fun c => lexer_digit.f (c.toNat : Int) == some (isDig c)) (by decide +kernel) c
 exact eq_of_beq this
theorem blank_eq (c : UInt8) : lexer_blank.f (c.toNat : Int) = some (isBlk c) := by
 have := all_bytes (fun c => lexer_blank.f (c.toNat : Int) == some (isBlk c)) (by decide +kernel) c
 exact eq_of_beq this
theorem opByte_eq (c : UInt8) : lexer_operatorByte.f (c.toNat : Int) = some (isOp c) := by
 have := all_bytes (fun c => lexer_operatorByte.f (c.toNat : Int) == some (isOp c)) (by decide +kernel) c
 exact eq_of_beq this
theorem special_eq (c : UInt8) : (strings_IndexByte.f (⟨#[64, 42, 35, 63, 45, 36, 33, 123, 40]⟩ : ByteArray) (c.toNat : Int)).bind (fun t => some (decide (t ≥ 0))) = some (isSpc c || c == 123 || c == 40) := by
 have := all_bytes (fun c => (strings_IndexByte.f (⟨#[64, 42, 35, 63, 45, 36, 33, 123, 40]⟩ : ByteArray) (c.toNat : Int)).bind (fun t => some (decide (t ≥ 0))) == some (isSpc c || c == 123 || c == 40)) (by decide +kernel) c
 exact eq_of_beq this
def fnd (b : UInt8) : List UInt8 → Option Nat
 | [] => none
 | c :: t => if c = b then some 0 else (fnd b t).map (· + 1)
theorem fnd_idx (b : UInt8) : ∀ l : List UInt8, Lib.indexByte l b = match fnd b l with | none => -1 | some n => (n : Int)
 | [] => rfl
 | c :: t => by
  have ih := fnd_idx b t
  rw [Lib.indexByte, fnd]
  by_cases h : c = b
  ·rw [if_pos h, if_pos (by rw [h]; exact beq_self_eq_true b)]
   rfl
  ·rw [if_neg h, if_neg (by simpa using h), ih]
   cases fnd b t with
   | none => rfl
   | some n =>
    have e : ((n : Int) == -1) = false := by rw [beq_eq_false_iff_ne]; omega
    dsimp only [Option.map_some]
    rw [e]
    rfl
theorem fnd_le (b : UInt8) : ∀ (l : List UInt8) (n : Nat), fnd b l = some n → n < l.length
 | [], n, h => by cases h
 | c :: t, n, h => by
  rw [fnd] at h
  split at h
  ·obtain rfl := Option.some.inj h
   simp
  ·cases ht : fnd b t with
   | none => rw [ht] at h; cases h
   | some m =>
    rw [ht] at h
    obtain rfl := Option.some.inj h
    have := fnd_le b t m ht
    dsimp only
    rw [List.length_cons]
    omega
inductive R where
 | ok (n : Nat)
 | bad (e : Bool) (o : Nat)
 | opn
def R.sh (n : Nat) : R → R
 | .ok m => .ok (n + m)
 | .bad e o => .bad e (n + o)
 | .opn => .opn
def R.wr (n : Nat) : R → R
 | .ok m => .ok (n + m)
 | .bad e o => .bad e (n + o)
 | .opn => .bad false 0
def bq : List UInt8 → R
 | [] => .opn
 | [c] => if c = 96 then .ok 1 else if c = 92 then .bad false 0 else .opn
 | c :: d :: t => if c = 96 then .ok 1 else if c = 92 then (bq t).sh 2 else (bq (d :: t)).sh 1
def nameL : List UInt8 → Nat
 | [] => 0
 | c :: t => if isLet c || isDig c then nameL t + 1 else 0
inductive Md where
 | st (p : Int)
 | db
 | br (p : Int)
 | ar (d : Nat)
 | cm (d : Nat) (b : Bool)
def Md.rk : Md → Nat
 | .st _ => 0
 | _ => 1
def sc : Md → List UInt8 → R
 | .st p, [] => .bad false 0
 | .st p, c :: t =>
  if c = 92 then (if t = [] then .bad false 0 else .ok 2)
  else if c = 96 then (bq t).wr 1
  else if c = 36 then
   match t with
   | [] => .ok 1
   | d :: u =>
    if d = 123 then (sc (.br p) u).wr 2
    else if d = 40 then (if u.head? = some 40 then (sc (.ar 0) u.tail).wr 3 else (sc (.cm 0 true) u).wr 2)
    else if isLet d then .ok (1 + nameL (d :: u))
    else if isDig d || isSpc d then .ok 2
    else .ok 1
  else if c = 39 ∧ p = 0 then (match fnd 39 t with | none => .bad false 0 | some n => .ok (n + 2))
  else if c = 34 ∧ p = 0 then (sc .db t).wr 1
  else .ok 1
 | .db, [] => .opn
 | .db, c :: t =>
  if c = 34 then .ok 1
  else match sc (.st 1) (c :: t) with
   | .ok n => (sc .db (t.drop (n - 1))).sh n
   | .bad e o => .bad e o
   | .opn => .opn
 | .br p, [] => .opn
 | .br p, c :: t =>
  if c = 125 then .ok 1
  else if c = 34 ∧ p = 1 then .bad true 0
  else match sc (.st p) (c :: t) with
   | .ok n => (sc (.br p) (t.drop (n - 1))).sh n
   | .bad e o => .bad e o
   | .opn => .opn
 | .ar d, [] => .opn
 | .ar d, c :: t =>
  if c = 41 ∧ d = 0 then (if t = [] then .opn else if t.head? = some 41 then .ok 2 else .bad true 0)
  else match sc (.st 2) (c :: t) with
   | .ok n => (sc (.ar (if c = 40 then d + 1 else if c = 41 then d - 1 else d)) (t.drop (n - 1))).sh n
   | .bad e o => .bad e o
   | .opn => .opn
 | .cm d b, [] => .opn
 | .cm d b, c :: t =>
  if c = 35 ∧ b = true then
   match fnd 10 t with
   | none => .opn
   | some n => (sc (.cm d b) (t.drop n)).sh (n + 1)
  else if c = 92 ∧ t.head? = some 10 then (sc (.cm d b) t.tail).sh 2
  else if c = 41 ∧ d = 0 then .ok 1
  else match sc (.st 0) (c :: t) with
   | .ok n => (sc (.cm (if c = 40 then d + 1 else if c = 41 then d - 1 else d) (isBlk c || c == 10 || isOp c)) (t.drop (n - 1))).sh n
   | .bad e o => .bad e o
   | .opn => .opn
termination_by md l => 2 * l.length + md.rk
decreasing_by
 all_goals simp_wf
 all_goals (try simp only [Md.rk, List.length_drop, List.length_tail])
 all_goals omega
end
section
theorem R.sh_ok {r : R} {n m : Nat} (h : r.sh n = .ok m) : ∃ k, r = .ok k ∧ m = n + k := by
 cases r with
 | ok k => exact ⟨k, rfl, (R.ok.inj h).symm⟩
 | bad e o => cases h
 | opn => cases h
theorem R.wr_ok {r : R} {n m : Nat} (h : r.wr n = .ok m) : ∃ k, r = .ok k ∧ m = n + k := by
 cases r with
 | ok k => exact ⟨k, rfl, (R.ok.inj h).symm⟩
 | bad e o => cases h
 | opn => cases h
theorem bq_cons (c : UInt8) (t : List UInt8) : bq (c :: t) = if c = 96 then .ok 1 else if c = 92 then (match t with | [] => .bad false 0 | _ :: u => (bq u).sh 2) else (bq t).sh 1 := by
 cases t with
 | nil =>
  rw [bq]
  rfl
 | cons d t => rw [bq]
theorem bq_ok : ∀ (n : Nat) (l : List UInt8) (m : Nat), l.length ≤ n → bq l = .ok m → 1 ≤ m ∧ m ≤ l.length := by
 intro n
 induction n with
 | zero =>
  intro l m hl h
  obtain rfl := List.eq_nil_of_length_eq_zero (show l.length = 0 by omega)
  cases h
 | succ n ih =>
  intro l m hl h
  cases l with
  | nil => cases h
  | cons c t =>
   rw [List.length_cons] at hl ⊢
   rw [bq_cons] at h
   split at h
   ·obtain rfl := R.ok.inj h
    omega
   ·split at h
    ·cases t with
     | nil => cases h
     | cons d u =>
      obtain ⟨k, h1, h2⟩ := R.sh_ok h
      rw [List.length_cons] at hl ⊢
      have := ih u k (by omega) h1
      omega
    ·obtain ⟨k, h1, h2⟩ := R.sh_ok h
     have := ih t k (by omega) h1
     omega
theorem nameL_le : ∀ l : List UInt8, nameL l ≤ l.length
 | [] => Nat.le_refl _
 | c :: t => by
  have := nameL_le t
  rw [nameL, List.length_cons]
  split <;> omega
theorem sc_st (p : Int) (c : UInt8) (t : List UInt8) : sc (.st p) (c :: t) =
  if c = 92 then (if t = [] then .bad false 0 else .ok 2)
  else if c = 96 then (bq t).wr 1
  else if c = 36 then
   match t with
   | [] => .ok 1
   | d :: u =>
    if d = 123 then (sc (.br p) u).wr 2
    else if d = 40 then (if u.head? = some 40 then (sc (.ar 0) u.tail).wr 3 else (sc (.cm 0 true) u).wr 2)
    else if isLet d then .ok (1 + nameL (d :: u))
    else if isDig d || isSpc d then .ok 2
    else .ok 1
  else if c = 39 ∧ p = 0 then (match fnd 39 t with | none => .bad false 0 | some n => .ok (n + 2))
  else if c = 34 ∧ p = 0 then (sc .db t).wr 1
  else .ok 1 := by
 rw [sc.eq_def]
 all_goals (cases t <;> rfl)
def R.on (r : R) (k : Nat → R) : R :=
 match r with
 | .ok n => (k n).sh n
 | .bad e o => .bad e o
 | .opn => .opn
theorem sc_db (c : UInt8) (t : List UInt8) : sc .db (c :: t) = if c = 34 then .ok 1 else (sc (.st 1) (c :: t)).on (fun n => sc .db (t.drop (n - 1))) := by
 rw [sc]
 rfl
theorem sc_br (p : Int) (c : UInt8) (t : List UInt8) : sc (.br p) (c :: t) = if c = 125 then .ok 1 else if c = 34 ∧ p = 1 then .bad true 0 else (sc (.st p) (c :: t)).on (fun n => sc (.br p) (t.drop (n - 1))) := by
 rw [sc]
 rfl
def dep (d : Nat) (c : UInt8) : Nat := if c = 40 then d + 1 else if c = 41 then d - 1 else d
theorem sc_ar (d : Nat) (c : UInt8) (t : List UInt8) : sc (.ar d) (c :: t) = if c = 41 ∧ d = 0 then (if t = [] then .opn else if t.head? = some 41 then .ok 2 else .bad true 0) else (sc (.st 2) (c :: t)).on (fun n => sc (.ar (dep d c)) (t.drop (n - 1))) := by
 rw [sc]
 rfl
theorem sc_cm (d : Nat) (b : Bool) (c : UInt8) (t : List UInt8) : sc (.cm d b) (c :: t) =
  if c = 35 ∧ b = true then (match fnd 10 t with | none => .opn | some n => (sc (.cm d b) (t.drop n)).sh (n + 1))
  else if c = 92 ∧ t.head? = some 10 then (sc (.cm d b) t.tail).sh 2
  else if c = 41 ∧ d = 0 then .ok 1
  else (sc (.st 0) (c :: t)).on (fun n => sc (.cm (dep d c) (isBlk c || c == 10 || isOp c)) (t.drop (n - 1))) := by
 rw [sc]
 rfl
theorem sc_db_nil : sc .db [] = .opn := by rw [sc]
theorem sc_br_nil (p : Int) : sc (.br p) [] = .opn := by rw [sc]
theorem sc_ar_nil (d : Nat) : sc (.ar d) [] = .opn := by rw [sc]
theorem sc_cm_nil (d : Nat) (b : Bool) : sc (.cm d b) [] = .opn := by rw [sc]
theorem sc_st_nil (p : Int) : sc (.st p) [] = .bad false 0 := by rw [sc]
theorem R.on_ok {r : R} {k : Nat → R} {m : Nat} (h : r.on k = .ok m) : ∃ n j, r = .ok n ∧ k n = .ok j ∧ m = n + j := by
 cases r with
 | ok n =>
  obtain ⟨j, h1, h2⟩ := R.sh_ok (show (k n).sh n = .ok m from h)
  exact ⟨n, j, rfl, h1, h2⟩
 | bad e o => cases h
 | opn => cases h
theorem sc_ok : ∀ (z : Nat) (md : Md) (l : List UInt8) (m : Nat), 2 * l.length + md.rk ≤ z → sc md l = .ok m → 1 ≤ m ∧ m ≤ l.length := by
 intro z
 induction z with
 | zero =>
  intro md l m hz h
  obtain rfl := List.eq_nil_of_length_eq_zero (show l.length = 0 by omega)
  cases md with
  | st p => rw [sc_st_nil] at h; cases h
  | db => rw [sc_db_nil] at h; cases h
  | br p => rw [sc_br_nil] at h; cases h
  | ar d => rw [sc_ar_nil] at h; cases h
  | cm d b => rw [sc_cm_nil] at h; cases h
 | succ z ih =>
  intro md l m hz h
  cases l with
  | nil =>
   cases md with
   | st p => rw [sc_st_nil] at h; cases h
   | db => rw [sc_db_nil] at h; cases h
   | br p => rw [sc_br_nil] at h; cases h
   | ar d => rw [sc_ar_nil] at h; cases h
   | cm d b => rw [sc_cm_nil] at h; cases h
  | cons c t =>
   rw [List.length_cons] at hz ⊢
   have loop : ∀ (p : Int) (md2 : Md) (k : Nat → R), md2.rk = 1 → md.rk = 1 → k = (fun n => sc md2 (t.drop (n - 1))) → (sc (.st p) (c :: t)).on k = .ok m → 1 ≤ m ∧ m ≤ t.length + 1 := by
    intro p md2 k r1 r2 hk hh
    subst hk
    obtain ⟨n, j, h1, h2, h3⟩ := R.on_ok hh
    have a := ih (.st p) (c :: t) n (by rw [List.length_cons]; simp only [Md.rk]; omega) h1
    rw [List.length_cons] at a
    have b := ih md2 (t.drop (n - 1)) j (by rw [List.length_drop]; omega) h2
    rw [List.length_drop] at b
    omega
   cases md with
   | st p =>
    simp only [Md.rk] at hz
    rw [sc_st] at h
    split at h
    ·split at h
     ·cases h
     ·rename_i ht
      obtain rfl := R.ok.inj h
      have : 0 < t.length := List.length_pos_iff.2 ht
      omega
    ·split at h
     ·obtain ⟨k, h1, h2⟩ := R.wr_ok h
      have := bq_ok _ t k (Nat.le_refl _) h1
      omega
     ·split at h
      ·cases t with
       | nil =>
        obtain rfl := R.ok.inj h
        simp
       | cons d u =>
        dsimp only at h
        rw [List.length_cons] at hz ⊢
        split at h
        ·obtain ⟨k, h1, h2⟩ := R.wr_ok h
         have := ih (.br p) u k (by simp only [Md.rk]; omega) h1
         omega
        ·split at h
         ·split at h
          ·rename_i hh
           cases u with
           | nil => cases hh
           | cons e v =>
            obtain ⟨k, h1, h2⟩ := R.wr_ok h
            rw [List.tail_cons] at h1
            rw [List.length_cons] at hz ⊢
            have := ih (.ar 0) v k (by simp only [Md.rk]; omega) h1
            omega
          ·obtain ⟨k, h1, h2⟩ := R.wr_ok h
           have := ih (.cm 0 true) u k (by simp only [Md.rk]; omega) h1
           omega
         ·split at h
          ·obtain rfl := R.ok.inj h
           have := nameL_le (d :: u)
           rw [List.length_cons] at this
           omega
          ·split at h
           ·obtain rfl := R.ok.inj h
            omega
           ·obtain rfl := R.ok.inj h
            omega
      ·split at h
       ·cases hf : fnd 39 t with
        | none => rw [hf] at h; cases h
        | some n =>
         rw [hf] at h
         obtain rfl := R.ok.inj h
         have := fnd_le 39 t n hf
         omega
       ·split at h
        ·obtain ⟨k, h1, h2⟩ := R.wr_ok h
         have := ih .db t k (by simp only [Md.rk]; omega) h1
         omega
        ·obtain rfl := R.ok.inj h
         omega
   | db =>
    simp only [Md.rk] at hz
    rw [sc_db] at h
    split at h
    ·obtain rfl := R.ok.inj h
     omega
    ·exact loop 1 .db _ rfl rfl rfl h
   | br p =>
    simp only [Md.rk] at hz
    rw [sc_br] at h
    split at h
    ·obtain rfl := R.ok.inj h
     omega
    ·split at h
     ·cases h
     ·exact loop p (.br p) _ rfl rfl rfl h
   | ar d =>
    simp only [Md.rk] at hz
    rw [sc_ar] at h
    split at h
    ·split at h
     ·cases h
     ·rename_i ht
      have : 0 < t.length := List.length_pos_iff.2 ht
      split at h
      ·obtain rfl := R.ok.inj h
       omega
      ·cases h
    ·exact loop 2 (.ar (dep d c)) _ rfl rfl rfl h
   | cm d b =>
    simp only [Md.rk] at hz
    rw [sc_cm] at h
    split at h
    ·cases hf : fnd 10 t with
     | none => rw [hf] at h; cases h
     | some n =>
      rw [hf] at h
      obtain ⟨k, h1, h2⟩ := R.sh_ok h
      have f := fnd_le 10 t n hf
      have := ih (.cm d b) (t.drop n) k (by rw [List.length_drop]; simp only [Md.rk]; omega) h1
      rw [List.length_drop] at this
      omega
    ·split at h
     ·rename_i hh
      cases t with
      | nil => exact absurd hh.2 (by simp)
      | cons e v =>
       obtain ⟨k, h1, h2⟩ := R.sh_ok h
       rw [List.tail_cons] at h1
       rw [List.length_cons] at hz ⊢
       have := ih (.cm d b) v k (by simp only [Md.rk]; omega) h1
       omega
     ·split at h
      ·obtain rfl := R.ok.inj h
       omega
      ·exact loop 0 (.cm (dep d c) (isBlk c || c == 10 || isOp c)) _ rfl rfl rfl h
theorem sc_in {md : Md} {l : List UInt8} {m : Nat} (h : sc md l = .ok m) : 1 ≤ m ∧ m ≤ l.length := sc_ok _ md l m (Nat.le_refl _) h
end
section
def skp : List UInt8 → Nat
 | [] => 0
 | c :: t => if isBlk c = true then skp t + 1 else if c = 92 ∧ t.head? = some 10 then skp t.tail + 2 else if c = 35 then (match fnd 10 t with | none => t.length + 1 | some n => n + 1) else 0
termination_by l => l.length
decreasing_by
 all_goals simp_wf
 all_goals omega
theorem skp_nil : skp [] = 0 := by rw [skp]
theorem skp_cons (c : UInt8) (t : List UInt8) : skp (c :: t) = if isBlk c = true then skp t + 1 else if c = 92 ∧ t.head? = some 10 then skp t.tail + 2 else if c = 35 then (match fnd 10 t with | none => t.length + 1 | some n => n + 1) else 0 := by
 rw [skp]
theorem fnd_at : ∀ (b : UInt8) (t : List UInt8) (n : Nat), fnd b t = some n → ∃ u, t.drop n = b :: u
 | b, [], n, h => by cases h
 | b, c :: t, n, h => by
  rw [fnd] at h
  split at h
  ·rename_i hc
   obtain rfl := Option.some.inj h
   exact ⟨t, by rw [hc]; rfl⟩
  ·cases hf : fnd b t with
   | none => rw [hf] at h; cases h
   | some m =>
    rw [hf] at h
    obtain rfl := Option.some.inj h
    obtain ⟨u, hu⟩ := fnd_at b t m hf
    exact ⟨u, hu⟩
theorem skp_nl (t : List UInt8) (n : Nat) (h : fnd 10 t = some n) : skp (t.drop n) = 0 := by
 obtain ⟨u, hu⟩ := fnd_at 10 t n h
 rw [hu, skp_cons, if_neg (by decide), if_neg (fun h => absurd h.1 (by decide)), if_neg (by decide)]
theorem skp_le : ∀ (n : Nat) (l : List UInt8), l.length ≤ n → skp l ≤ l.length
 | 0, l, h => by
  obtain rfl := List.eq_nil_of_length_eq_zero (show l.length = 0 by omega)
  rw [skp_nil]
  exact Nat.le_refl _
 | n + 1, [], h => by rw [skp_nil]; exact Nat.le_refl _
 | n + 1, c :: t, h => by
  rw [List.length_cons] at h ⊢
  rw [skp_cons]
  split
  ·have := skp_le n t (by omega)
   omega
  ·split
   ·rename_i hh
    cases t with
    | nil => exact absurd hh.2 (by simp)
    | cons e v =>
     rw [List.length_cons] at h ⊢
     have := skp_le n v (by omega)
     rw [List.tail_cons]
     omega
   ·split
    ·cases hf : fnd 10 t with
     | none => exact Nat.le_refl _
     | some m =>
      have := fnd_le 10 t m hf
      dsimp only
      omega
    ·omega
theorem hasPre (a b : ByteArray) : strings_HasPrefix.f a b = some (decide (b.data.toList <+: a.data.toList)) := by
 unfold strings_HasPrefix.f stringslite_HasPrefix.f
 have la := dl_len a
 have lb := dl_len b
 by_cases h : (a.size : Int) ≥ (b.size : Int)
 ·rw [if_pos h, if_pos (ige _), if_pos h, Option.bind_some]
  congr 1
  have e : (a.extract 0 ((b.size : Int)).toNat).toList = a.data.toList.take b.data.toList.length := by
   rw [Go.ByteArray.toList_eq, Int.toNat_natCast, lb]
   have e2 : (a.extract 0 b.size).data = a.data.extract 0 b.size := by simp
   rw [e2, Array.toList_extract, List.extract_eq_take_drop]
   simp
  rw [e, Go.ByteArray.toList_eq]
  rw [Bool.eq_iff_iff, beq_iff_eq, decide_eq_true_iff, List.prefix_iff_eq_take]
  exact eq_comm
 ·rw [if_neg h, Option.bind_some]
  congr 1
  refine (decide_eq_false (fun hp => ?_)).symm
  have := hp.length_le
  omega
theorem pre1 (y : UInt8) (t : List UInt8) : [y] <+: t ↔ t.head? = some y := by
 cases t with
 | nil => simp
 | cons e v => rw [List.cons_prefix_cons, List.head?_cons, Option.some.injEq]; exact ⟨fun h => h.1.symm, fun h => ⟨h.symm, List.nil_prefix⟩⟩
theorem pre2 (x y c : UInt8) (t : List UInt8) : [x, y] <+: c :: t ↔ (c = x ∧ t.head? = some y) := by
 rw [List.cons_prefix_cons, pre1]
 exact ⟨fun h => ⟨h.1.symm, h.2⟩, fun h => ⟨h.1.symm, h.2⟩⟩
theorem hasPre_at (s : ByteArray) (i : Nat) (b : ByteArray) : strings_HasPrefix.f (s.extract ((i : Int)).toNat s.size) b = some (decide (b.data.toList <+: L s i)) := by
 rw [hasPre, Int.toNat_natCast, extr]
theorem idx_at (s : ByteArray) (i : Nat) (b : Int) : strings_IndexByte.f (s.extract ((i : Int)).toNat s.size) b = some (Lib.indexByte (L s i) b.toNat.toUInt8) := by
 unfold strings_IndexByte.f
 rw [Int.toNat_natCast, extr]
end
section
def en (e : Bool) : Int := if e = true then 6 else 7
theorem en_ne (e : Bool) : ¬ en e = 0 := by cases e <;> decide
def P (a i : Nat) : R → Int × Int × Int
 | .ok n => (((i + n : Nat) : Int), 0, 0)
 | .bad e o => (0, en e, ((i + o : Nat) : Int))
 | .opn => (0, 7, (a : Int))
theorem P_sh (a i n : Nat) (r : R) : P a i (r.sh n) = P a (i + n) r := by
 cases r with
 | ok m => show (((i + (n + m) : Nat) : Int), (0 : Int), (0 : Int)) = (((i + n + m : Nat) : Int), 0, 0); rw [Nat.add_assoc]
 | bad e o => show ((0 : Int), en e, ((i + (n + o) : Nat) : Int)) = (0, en e, ((i + n + o : Nat) : Int)); rw [Nat.add_assoc]
 | opn => rfl
theorem P_wr (x a n : Nat) (r : R) : P x a (r.wr n) = P a (a + n) r := by
 cases r with
 | ok m => show (((a + (n + m) : Nat) : Int), (0 : Int), (0 : Int)) = (((a + n + m : Nat) : Int), 0, 0); rw [Nat.add_assoc]
 | bad e o => show ((0 : Int), en e, ((a + (n + o) : Nat) : Int)) = (0, en e, ((a + n + o : Nat) : Int)); rw [Nat.add_assoc]
 | opn => rfl
theorem wr_no (r : R) (n : Nat) : r.wr n ≠ .opn := by cases r <;> exact fun h => by cases h
theorem st_no (p : Int) (l : List UInt8) : sc (.st p) l ≠ .opn := by
 cases l with
 | nil => rw [sc_st_nil]; exact fun h => by cases h
 | cons c t =>
  rw [sc_st]
  split
  ·split <;> exact fun h => by cases h
  ·split
   ·exact wr_no _ _
   ·split
    ·cases t with
     | nil => exact fun h => by cases h
     | cons d u =>
      dsimp only
      split
      ·exact wr_no _ _
      ·split
       ·split <;> exact wr_no _ _
       ·split
        ·exact fun h => by cases h
        ·split <;> exact fun h => by cases h
    ·split
     ·cases fnd 39 t <;> exact fun h => by cases h
     ·split
      ·exact wr_no _ _
      ·exact fun h => by cases h
theorem ev_on {X : Nat → Int → Option (Int × Int × Int)} {r : R} (hr : r ≠ .opn) {k : Nat → R} {a i : Nat} (hX : ∀ n, r = .ok n → Ev (fun f => X f ((i + n : Nat) : Int)) (P a (i + n) (k n))) :
  Ev (fun f => (some (P i i r)).bind fun bt => if bt.2.1 = 0 then X f bt.1 else some (0, bt.2.1, bt.2.2)) (P a i (r.on k)) := by
 cases r with
 | ok n =>
  have := hX n rfl
  show Ev (fun f => X f ((i + n : Nat) : Int)) (P a i ((k n).sh n))
  rw [P_sh]
  exact this
 | bad e o =>
  refine ⟨0, fun f _ => ?_⟩
  show (if en e = 0 then X f 0 else some ((0 : Int), en e, ((i + o : Nat) : Int))) = _
  rw [if_neg (en_ne e)]
  rfl
 | opn => exact absurd rfl hr
theorem lex_open (a : Int) : lexer_open.f a = some (0, 7, a) := rfl
section
variable [ScanC] (s : ByteArray) (hB : s.size ≤ 1099511627776) (lo : Nat) (p : Int) (hS : ∀ i, lo ≤ i → i < s.size → lexer_scanner_step.f s (i : Int) p = some (P i i (sc (.st p) (L s i))))
include hB hS
theorem ev_doubled (hp : p = 1) (a : Nat) : ∀ (d i : Nat), s.size - i ≤ d → lo ≤ i → i ≤ s.size → Ev (fun k => lexer_scanner_doubled.l0 k (a : Int) (i : Int) s) (P a i (sc .db (L s i))) := by
 subst hp
 intro d
 induction d with
 | zero =>
  intro i h1 h2 h3
  rw [L_nil s i (by omega), sc_db_nil]
  refine Ev.step (f := fun _ => some (P a i .opn)) (fun k => ?_) (Ev.now _)
  simp only [lexer_scanner_doubled.l0]
  rw [if_neg (by omega), lex_open]
  rfl
 | succ d ih =>
  intro i h1 h2 h3
  rcases Nat.lt_or_ge i s.size with hi | hi
  case inr =>
   rw [L_nil s i hi, sc_db_nil]
   refine Ev.step (f := fun _ => some (P a i .opn)) (fun k => ?_) (Ev.now _)
   simp only [lexer_scanner_doubled.l0]
   rw [if_neg (by omega), lex_open]
   rfl
  obtain ⟨c, hc, hb⟩ := L_cons s i hi
  have hs := hS i h2 hi
  rw [hc] at hs ⊢
  rw [sc_db]
  by_cases h34 : c = 34
  ·rw [if_pos h34]
   refine Ev.step (f := fun _ => some (P a i (.ok 1))) (fun k => ?_) (Ev.now _)
   simp only [lexer_scanner_doubled.l0]
   rw [if_pos (ilt hi), if_pos (ige i), if_pos (by rw [hb]; exact (num c 34).2 h34), wrapS (by omega)]
   rfl
  ·rw [if_neg h34]
   refine Ev.step (fun k => ?_) (ev_on (X := fun f n => lexer_scanner_doubled.l0 f (a : Int) n s) (st_no 1 _) (a := a) (i := i) (fun n hn => ?_))
   ·simp only [lexer_scanner_doubled.l0]
    rw [if_pos (ilt hi), if_pos (ige i), if_neg (by rw [hb]; exact fun h => h34 ((num c 34).1 h)), hs]
   ·have b := sc_in hn
    rw [List.length_cons, L_len] at b
    rw [L_drop, show i + 1 + (n - 1) = i + n by omega]
    exact ih (i + n) (by omega) (by omega) (by omega)
theorem ev_braced (a : Nat) : ∀ (d i : Nat), s.size - i ≤ d → lo ≤ i → i ≤ s.size → Ev (fun k => lexer_scanner_braced.l0 k (a : Int) p (i : Int) s) (P a i (sc (.br p) (L s i))) := by
 intro d
 induction d with
 | zero =>
  intro i h1 h2 h3
  rw [L_nil s i (by omega), sc_br_nil]
  refine Ev.step (f := fun _ => some (P a i .opn)) (fun k => ?_) (Ev.now _)
  simp only [lexer_scanner_braced.l0]
  rw [if_neg (by omega), lex_open]
  rfl
 | succ d ih =>
  intro i h1 h2 h3
  rcases Nat.lt_or_ge i s.size with hi | hi
  case inr =>
   rw [L_nil s i hi, sc_br_nil]
   refine Ev.step (f := fun _ => some (P a i .opn)) (fun k => ?_) (Ev.now _)
   simp only [lexer_scanner_braced.l0]
   rw [if_neg (by omega), lex_open]
   rfl
  obtain ⟨c, hc, hb⟩ := L_cons s i hi
  have hs := hS i h2 hi
  rw [hc] at hs ⊢
  rw [sc_br]
  by_cases h125 : c = 125
  ·rw [if_pos h125]
   refine Ev.step (f := fun _ => some (P a i (.ok 1))) (fun k => ?_) (Ev.now _)
   simp only [lexer_scanner_braced.l0]
   rw [if_pos (ilt hi), if_pos (ige i), if_pos (by rw [hb]; exact (num c 125).2 h125), wrapS (by omega)]
   rfl
  ·rw [if_neg h125]
   have n125 : ¬ bt s (i : Int) = 125 := by rw [hb]; exact fun h => h125 ((num c 125).1 h)
   have J : ∀ b : Bool, (b = true ↔ (c = 34 ∧ p = 1)) → Ev (fun k => lexer_scanner_braced.j1 k (a : Int) p (i : Int) b s) (P a i (if c = 34 ∧ p = 1 then .bad true 0 else (sc (.st p) (c :: L s (i + 1))).on (fun n => sc (.br p) ((L s (i + 1)).drop (n - 1))))) := by
    intro b hb2
    by_cases hbt : b = true
    ·rw [if_pos (hb2.1 hbt)]
     refine Ev.step (f := fun _ => some (P a i (.bad true 0))) (fun k => ?_) (Ev.now _)
     simp only [lexer_scanner_braced.j1]
     rw [if_pos hbt]
     rfl
    ·rw [if_neg (fun h => hbt (hb2.2 h))]
     refine Ev.step (fun k => ?_) (ev_on (X := fun f n => lexer_scanner_braced.l0 f (a : Int) p n s) (st_no p _) (a := a) (i := i) (fun n hn => ?_))
     ·simp only [lexer_scanner_braced.j1]
      rw [if_neg hbt, hs]
     ·have b := sc_in hn
      rw [List.length_cons, L_len] at b
      rw [L_drop, show i + 1 + (n - 1) = i + n by omega]
      exact ih (i + n) (by omega) (by omega) (by omega)
   by_cases h34 : c = 34
   ·refine Ev.step (fun k => ?_) (J (p == 1) (by rw [beq_iff_eq]; exact ⟨fun h => ⟨h34, h⟩, fun h => h.2⟩))
    simp only [lexer_scanner_braced.l0]
    rw [if_pos (ilt hi), if_pos (ige i), if_neg n125, if_pos (by rw [hb]; exact (num c 34).2 h34)]
   ·refine Ev.step (fun k => ?_) (J false ⟨fun h => (by cases h), fun h => absurd h.1 h34⟩)
    simp only [lexer_scanner_braced.l0]
    rw [if_pos (ilt hi), if_pos (ige i), if_neg n125, if_neg (by rw [hb]; exact fun h => h34 ((num c 34).1 h))]
theorem ev_sum (hp : p = 2) (a : Nat) : ∀ (d i dp : Nat), s.size - i ≤ d → lo ≤ i → i ≤ s.size → dp ≤ i → Ev (fun k => lexer_scanner_sum.l0 k (a : Int) (dp : Int) (i : Int) s) (P a i (sc (.ar dp) (L s i))) := by
 subst hp
 have none_ : ∀ i dp : Nat, s.size ≤ i → Ev (fun k => lexer_scanner_sum.l0 k (a : Int) (dp : Int) (i : Int) s) (P a i (sc (.ar dp) (L s i))) := by
  intro i dp hi
  rw [L_nil s i hi, sc_ar_nil]
  refine Ev.step (f := fun _ => some (P a i .opn)) (fun k => ?_) (Ev.now _)
  simp only [lexer_scanner_sum.l0]
  rw [if_neg (by omega), lex_open]
  rfl
 intro d
 induction d with
 | zero => exact fun i dp h1 h2 h3 h4 => none_ i dp (by omega)
 | succ d ih =>
  intro i dp h1 h2 h3 h4
  rcases Nat.lt_or_ge i s.size with hi | hi
  case inr => exact none_ i dp hi
  obtain ⟨c, hc, hb⟩ := L_cons s i hi
  have hs := hS i h2 hi
  rw [hc] at hs ⊢
  rw [sc_ar]
  have W1 := wrapS (show i < 9223372036854775807 by omega)
  have J : ∀ dq : Nat, dq ≤ i + 1 → dq = dep dp c → Ev (fun k => lexer_scanner_sum.j1 k (a : Int) (dq : Int) (i : Int) s) (P a i ((sc (.st 2) (c :: L s (i + 1))).on (fun n => sc (.ar (dep dp c)) ((L s (i + 1)).drop (n - 1))))) := by
   intro dq hq hd
   rw [← hd]
   refine Ev.step (fun k => ?_) (ev_on (X := fun f n => lexer_scanner_sum.l0 f (a : Int) (dq : Int) n s) (st_no 2 _) (a := a) (i := i) (fun n hn => ?_))
   ·simp only [lexer_scanner_sum.j1]
    rw [hs]
   ·have b := sc_in hn
    rw [List.length_cons, L_len] at b
    rw [L_drop, show i + 1 + (n - 1) = i + n by omega]
    exact ih (i + n) dq (by omega) (by omega) (by omega) (by omega)
  clear W1
  by_cases h40 : c = 40
  ·have e40 : bt s (i : Int) = 40 := by rw [hb]; exact (num c 40).2 h40
   rw [if_neg (fun h => absurd h.1 (by rw [h40]; decide))]
   refine Ev.step (fun k => ?_) (J (dp + 1) (by omega) (by unfold dep; rw [if_pos h40]))
   simp only [lexer_scanner_sum.l0]
   rw [if_pos (ilt hi), if_pos (ige i), if_pos e40, wrapS (by omega)]
  ·have n40 : ¬ bt s (i : Int) = 40 := by rw [hb]; exact fun h => h40 ((num c 40).1 h)
   by_cases h41 : c = 41
   ·have e41 : bt s (i : Int) = 41 := by rw [hb]; exact (num c 41).2 h41
    by_cases h0 : dp = 0
    ·rw [if_pos ⟨h41, h0⟩]
     have z0 : (dp : Int) = 0 := by omega
     rcases Nat.lt_or_ge (i + 1) s.size with hj | hj
     ·obtain ⟨e, he, heb⟩ := L_cons s (i + 1) hj
      have ne : ¬ ((i + 1 : Nat) : Int) = (s.size : Int) := by omega
      rw [he, if_neg (by simp), List.head?_cons]
      by_cases h2e : e = 41
      ·rw [if_pos (by rw [h2e])]
       refine Ev.step (f := fun _ => some (P a i (.ok 2))) (fun k => ?_) (Ev.now _)
       simp only [lexer_scanner_sum.l0]
       rw [if_pos (ilt hi), if_pos (ige i), if_neg n40, if_pos e41, if_pos z0, wrapS (by omega), if_neg ne, if_pos (ige _), if_pos (ilt hj), if_pos (by rw [heb]; exact (num e 41).2 h2e)]
       have := wrapK (i := i) 2 (by omega)
       rw [show ((2 : Nat) : Int) = 2 from rfl] at this
       rw [this]
       rfl
      ·rw [if_neg (fun h => h2e (Option.some.inj h))]
       refine Ev.step (f := fun _ => some (P a i (.bad true 0))) (fun k => ?_) (Ev.now _)
       simp only [lexer_scanner_sum.l0]
       rw [if_pos (ilt hi), if_pos (ige i), if_neg n40, if_pos e41, if_pos z0, wrapS (by omega), if_neg ne, if_pos (ige _), if_pos (ilt hj), if_neg (by rw [heb]; exact fun h => h2e ((num e 41).1 h))]
       rfl
     ·have ee : ((i + 1 : Nat) : Int) = (s.size : Int) := by omega
      rw [L_nil s (i + 1) hj, if_pos rfl]
      refine Ev.step (f := fun _ => some (P a i .opn)) (fun k => ?_) (Ev.now _)
      simp only [lexer_scanner_sum.l0]
      rw [if_pos (ilt hi), if_pos (ige i), if_neg n40, if_pos e41, if_pos z0, wrapS (by omega), if_pos ee, lex_open]
      rfl
    ·rw [if_neg (fun h => h0 h.2)]
     refine Ev.step (fun k => ?_) (J (dp - 1) (by omega) (by unfold dep; rw [if_neg h40, if_pos h41]))
     simp only [lexer_scanner_sum.l0]
     rw [if_pos (ilt hi), if_pos (ige i), if_neg n40, if_pos e41, if_neg (by omega), wrapM (by omega) (by omega)]
   ·have n41 : ¬ bt s (i : Int) = 41 := by rw [hb]; exact fun h => h41 ((num c 41).1 h)
    rw [if_neg (fun h => h41 h.1)]
    refine Ev.step (fun k => ?_) (J dp (by omega) (by unfold dep; rw [if_neg h40, if_neg h41]))
    simp only [lexer_scanner_sum.l0]
    rw [if_pos (ilt hi), if_pos (ige i), if_neg n40, if_neg n41]
end
end
section
section
variable [ScanC] (s : ByteArray) (hB : s.size ≤ 1099511627776) (lo : Nat) (hS : ∀ i, lo ≤ i → i < s.size → lexer_scanner_step.f s (i : Int) 0 = some (P i i (sc (.st 0) (L s i))))
include hB hS
theorem ev_command (a : Nat) : ∀ (d i dp : Nat) (b : Bool), s.size - i ≤ d → lo ≤ i → i ≤ s.size → dp ≤ i → Ev (fun k => lexer_scanner_command.l0 k (a : Int) (dp : Int) b (i : Int) s) (P a i (sc (.cm dp b) (L s i))) := by
 have j4 : ∀ i : Nat, Ev (fun k => lexer_scanner_command.j4 k (a : Int)) (P a i .opn) := fun i =>
  Ev.step (f := fun _ => some (P a i .opn)) (fun k => by simp only [lexer_scanner_command.j4]; rw [lex_open]; rfl) (Ev.now _)
 have none_ : ∀ (i dp : Nat) (b : Bool), s.size ≤ i → Ev (fun k => lexer_scanner_command.l0 k (a : Int) (dp : Int) b (i : Int) s) (P a i (sc (.cm dp b) (L s i))) := by
  intro i dp b hi
  rw [L_nil s i hi, sc_cm_nil]
  refine Ev.step (fun k => ?_) (j4 i)
  simp only [lexer_scanner_command.l0]
  rw [if_neg (by omega)]
 intro d
 induction d with
 | zero => exact fun i dp b h1 h2 h3 h4 => none_ i dp b (by omega)
 | succ d ih =>
  intro i dp b h1 h2 h3 h4
  rcases Nat.lt_or_ge i s.size with hi | hi
  case inr => exact none_ i dp b hi
  obtain ⟨c, hc, hb⟩ := L_cons s i hi
  have hs := hS i h2 hi
  have hx := idx_at s i 10
  have hh := hasPre_at s i ⟨#[92, 10]⟩
  rw [hc] at hs hx hh ⊢
  have len : (L s (i + 1)).length = s.size - (i + 1) := L_len s (i + 1)
  obtain ⟨t, ht⟩ : ∃ t, L s (i + 1) = t := ⟨_, rfl⟩
  rw [ht] at hs hx hh len ⊢
  rw [sc_cm]
  -- the step, at the depth and the flag that follow
  have J3 : ∀ (dq : Nat) (e : Bool), dq ≤ i + 1 → dq = dep dp c → Ev (fun k => lexer_scanner_command.j3 k (a : Int) (dq : Int) e (i : Int) s) (P a i ((sc (.st 0) (c :: t)).on (fun n => sc (.cm (dep dp c) e) (t.drop (n - 1))))) := by
   intro dq e hq hd
   rw [← hd]
   refine Ev.step (fun k => ?_) (ev_on (X := fun f n => lexer_scanner_command.l0 f (a : Int) (dq : Int) e n s) (st_no 0 _) (a := a) (i := i) (fun n hn => ?_))
   ·simp only [lexer_scanner_command.j3]
    rw [hs]
   ·have b := sc_in hn
    rw [List.length_cons, len] at b
    rw [← ht, L_drop, show i + 1 + (n - 1) = i + n by omega]
    exact ih (i + n) dq e (by omega) (by omega) (by omega) (by omega)
  have J2 : ∀ e : Bool, Ev (fun k => lexer_scanner_command.j2 k (a : Int) (dp : Int) e (i : Int) (bt s (i : Int)) s) (P a i (if c = 41 ∧ dp = 0 then .ok 1 else (sc (.st 0) (c :: t)).on (fun n => sc (.cm (dep dp c) e) (t.drop (n - 1))))) := by
   intro e
   by_cases h40 : c = 40
   ·rw [if_neg (fun h => absurd h.1 (by rw [h40]; decide))]
    refine Ev.step (fun k => ?_) (J3 (dp + 1) e (by omega) (by unfold dep; rw [if_pos h40]))
    simp only [lexer_scanner_command.j2]
    rw [if_pos (by rw [hb]; exact (num c 40).2 h40), wrapS (by omega)]
   ·have n40 : ¬ bt s (i : Int) = 40 := by rw [hb]; exact fun h => h40 ((num c 40).1 h)
    by_cases h41 : c = 41
    ·have e41 : bt s (i : Int) = 41 := by rw [hb]; exact (num c 41).2 h41
     by_cases h0 : dp = 0
     ·rw [if_pos ⟨h41, h0⟩]
      refine Ev.step (f := fun _ => some (P a i (.ok 1))) (fun k => ?_) (Ev.now _)
      simp only [lexer_scanner_command.j2]
      rw [if_neg n40, if_pos e41, if_pos (by omega), wrapS (by omega)]
      rfl
     ·rw [if_neg (fun h => h0 h.2)]
      refine Ev.step (fun k => ?_) (J3 (dp - 1) e (by omega) (by unfold dep; rw [if_neg h40, if_pos h41]))
      simp only [lexer_scanner_command.j2]
      rw [if_neg n40, if_pos e41, if_neg (by omega), wrapM (by omega) (by omega)]
    ·have n41 : ¬ bt s (i : Int) = 41 := by rw [hb]; exact fun h => h41 ((num c 41).1 h)
     rw [if_neg (fun h => h41 h.1)]
     refine Ev.step (fun k => ?_) (J3 dp e (by omega) (by unfold dep; rw [if_neg h40, if_neg h41]))
     simp only [lexer_scanner_command.j2]
     rw [if_neg n40, if_neg n41]
  have J1 : ∀ e : Bool, (e = true ↔ (c = 35 ∧ b = true)) → Ev (fun k => lexer_scanner_command.j1 k (a : Int) (dp : Int) b (i : Int) (bt s (i : Int)) e s) (P a i (if c = 35 ∧ b = true then (match fnd 10 t with | none => .opn | some n => (sc (.cm dp b) (t.drop n)).sh (n + 1))
  else if c = 92 ∧ t.head? = some 10 then (sc (.cm dp b) t.tail).sh 2
  else if c = 41 ∧ dp = 0 then .ok 1
  else (sc (.st 0) (c :: t)).on (fun n => sc (.cm (dep dp c) (isBlk c || c == 10 || isOp c)) (t.drop (n - 1))))) := by
   intro e he
   by_cases het : e = true
   ·have q := he.1 het
    rw [if_pos q]
    have f0 : fnd 10 (c :: t) = (fnd 10 t).map (· + 1) := by rw [fnd, if_neg (by rw [q.1]; decide)]
    have fi : Lib.indexByte (c :: t) (10 : Int).toNat.toUInt8 = _ := fnd_idx 10 (c :: t)
    rw [fi, f0] at hx
    cases hf : fnd 10 t with
    | none =>
     rw [hf] at hx
     refine Ev.step (fun k => ?_) (j4 i)
     simp only [lexer_scanner_command.j1]
     rw [if_pos het, if_pos (ige i), if_pos (ile h3), hx]
     rfl
    | some n =>
     rw [hf] at hx
     have fl := fnd_le 10 t n hf
     have hx2 : strings_IndexByte.f (s.extract ((i : Int)).toNat s.size) 10 = some ((n + 1 : Nat) : Int) := hx
     dsimp only
     rw [P_sh, ← ht, L_drop, show i + 1 + n = i + (n + 1) by omega]
     refine Ev.step (fun k => ?_) (ih (i + (n + 1)) dp b (by omega) (by omega) (by omega) (by omega))
     simp only [lexer_scanner_command.j1]
     rw [if_pos het, if_pos (ige i), if_pos (ile h3), hx2, Option.bind_some, if_neg (by omega), wrapK (n + 1) (by omega)]
   ·rw [if_neg (fun h => het (he.2 h))]
    by_cases h92 : c = 92 ∧ t.head? = some 10
    ·rw [if_pos h92]
     have hh2 : strings_HasPrefix.f (s.extract ((i : Int)).toNat s.size) ⟨#[92, 10]⟩ = some true := by rw [hh]; exact congrArg some (decide_eq_true ((pre2 92 10 c t).2 h92))
     have tl : t.tail = L s (i + 2) := by rw [← ht, ← List.drop_one, L_drop]
     have t1 : 0 < t.length := by
      cases t with
      | nil => exact absurd h92.2 (by simp)
      | cons x y => simp
     rw [tl, P_sh]
     refine Ev.step (fun k => ?_) (ih (i + 2) dp b (by omega) (by omega) (by omega) (by omega))
     simp only [lexer_scanner_command.j1]
     rw [if_neg het, if_pos (ige i), if_pos (ile h3), hh2, Option.bind_some, if_pos rfl]
     have w2 := wrapK (i := i) 2 (by omega)
     rw [show ((2 : Nat) : Int) = 2 from rfl] at w2
     rw [w2]
    ·rw [if_neg h92]
     have hh2 : strings_HasPrefix.f (s.extract ((i : Int)).toNat s.size) ⟨#[92, 10]⟩ = some false := by rw [hh]; exact congrArg some (decide_eq_false (fun h => h92 ((pre2 92 10 c t).1 h)))
     refine Ev.step (fun k => ?_) (J2 (isBlk c || c == 10 || isOp c))
     simp only [lexer_scanner_command.j1]
     rw [if_neg het, if_pos (ige i), if_pos (ile h3), hh2, Option.bind_some, if_neg (by simp), hb, blank_eq, opByte_eq, Option.bind_some, Option.bind_some]
     have n10 : ((c.toNat : Int) = 10) ↔ c = 10 := num c 10
     by_cases k1 : isBlk c = true
     ·rw [if_pos k1, k1]
      rfl
     ·rw [if_neg k1, Bool.eq_false_iff.2 k1]
      by_cases k2 : c = 10
      ·rw [if_pos (n10.2 k2), k2]
       rfl
      ·rw [if_neg (fun h => k2 (n10.1 h)), beq_false_of_ne k2]
       rfl
  by_cases h35 : c = 35
  ·refine Ev.step (fun k => ?_) (J1 b ⟨fun h => ⟨h35, h⟩, fun h => h.2⟩)
   simp only [lexer_scanner_command.l0]
   rw [if_pos (ilt hi), if_pos (ige i), if_pos (by rw [hb]; exact (num c 35).2 h35)]
  ·refine Ev.step (fun k => ?_) (J1 false ⟨fun h => (by cases h), fun h => absurd h.1 h35⟩)
   simp only [lexer_scanner_command.l0]
   rw [if_pos (ilt hi), if_pos (ige i), if_neg (by rw [hb]; exact fun h => h35 ((num c 35).1 h))]
end
end
section
theorem ev_backquoted (s : ByteArray) (hB : s.size ≤ 1099511627776) (a : Nat) : ∀ (d i : Nat), s.size - i ≤ d → Ev (fun k => lexer_scanner_backquoted.l0 k (a : Int) (i : Int) s) (P a i (bq (L s i))) := by
 have none_ : ∀ i : Nat, s.size ≤ i → Ev (fun k => lexer_scanner_backquoted.l0 k (a : Int) (i : Int) s) (P a i (bq (L s i))) := by
  intro i hi
  rw [L_nil s i hi]
  refine Ev.step (f := fun _ => some (P a i .opn)) (fun k => ?_) (Ev.now _)
  simp only [lexer_scanner_backquoted.l0]
  rw [if_neg (by omega), lex_open]
  rfl
 intro d
 induction d with
 | zero => exact fun i h1 => none_ i (by omega)
 | succ d ih =>
  intro i h1
  rcases Nat.lt_or_ge i s.size with hi | hi
  case inr => exact none_ i hi
  obtain ⟨c, hc, hb⟩ := L_cons s i hi
  rw [hc, bq_cons]
  by_cases h96 : c = 96
  ·rw [if_pos h96]
   refine Ev.step (f := fun _ => some (P a i (.ok 1))) (fun k => ?_) (Ev.now _)
   simp only [lexer_scanner_backquoted.l0]
   rw [if_pos (ilt hi), if_pos (ige i), if_pos (by rw [hb]; exact (num c 96).2 h96), wrapS (by omega)]
   rfl
  ·have n96 : ¬ bt s (i : Int) = 96 := by rw [hb]; exact fun h => h96 ((num c 96).1 h)
   rw [if_neg h96]
   by_cases h92 : c = 92
   ·have e92 : bt s (i : Int) = 92 := by rw [hb]; exact (num c 92).2 h92
    rw [if_pos h92]
    rcases Nat.lt_or_ge (i + 1) s.size with hj | hj
    ·obtain ⟨e, he, heb⟩ := L_cons s (i + 1) hj
     have ne : ¬ ((i + 1 : Nat) : Int) = (s.size : Int) := by omega
     rw [he]
     dsimp only
     rw [P_sh]
     refine Ev.step (fun k => ?_) (ih (i + 2) (by omega))
     simp only [lexer_scanner_backquoted.l0]
     rw [if_pos (ilt hi), if_pos (ige i), if_neg n96, if_pos e92, wrapS (by omega), if_neg ne, wrapS (by omega)]
    ·have ee : ((i + 1 : Nat) : Int) = (s.size : Int) := by omega
     rw [L_nil s (i + 1) hj]
     refine Ev.step (f := fun _ => some (P a i (.bad false 0))) (fun k => ?_) (Ev.now _)
     simp only [lexer_scanner_backquoted.l0]
     rw [if_pos (ilt hi), if_pos (ige i), if_neg n96, if_pos e92, wrapS (by omega), if_pos ee, wrapM (by omega) (by omega), lex_open]
     rfl
   ·rw [if_neg h92, P_sh]
    refine Ev.step (fun k => ?_) (ih (i + 1) (by omega))
    simp only [lexer_scanner_backquoted.l0]
    rw [if_pos (ilt hi), if_pos (ige i), if_neg n96, if_neg (by rw [hb]; exact fun h => h92 ((num c 92).1 h)), wrapS (by omega)]
def dlr : List UInt8 → Bool
 | [] => false
 | d :: _ => isLet d || isDig d || (isSpc d || d == 123 || d == 40)
def bg (p : Int) : List UInt8 → Bool
 | [] => false
 | c :: t => if c = 39 ∨ c = 34 then decide (p = 0) else if c = 92 ∨ c = 96 then true else if c = 36 then dlr t else false
theorem bg_cons (p : Int) (c : UInt8) (t : List UInt8) : bg p (c :: t) = if c = 39 ∨ c = 34 then decide (p = 0) else if c = 92 ∨ c = 96 then true else if c = 36 then dlr t else false := by
 cases t <;> rfl
theorem ev_begins (s : ByteArray) (hB : s.size ≤ 1099511627776) (a : Nat) (ha : a < s.size) (p : Int) : Ev (fun k => lexer_scanner_begins.f k s (a : Int) p) (bg p (L s a)) := by
 obtain ⟨c, hc, hb⟩ := L_cons s a ha
 rw [hc, bg_cons]
 obtain ⟨t, ht⟩ : ∃ t, L s (a + 1) = t := ⟨_, rfl⟩
 rw [ht]
 have J1 : ∀ b : Bool, (b = true ↔ (c = 92 ∨ c = 96)) → Ev (fun k => lexer_scanner_begins.j1 k (a : Int) (bt s (a : Int)) b s) (if c = 92 ∨ c = 96 then true else if c = 36 then dlr t else false) := by
  intro b hbb
  by_cases hbt : b = true
  ·rw [if_pos (hbb.1 hbt)]
   refine Ev.step (f := fun _ => some true) (fun k => ?_) (Ev.now _)
   simp only [lexer_scanner_begins.j1]
   rw [if_pos hbt]
  ·rw [if_neg (fun h => hbt (hbb.2 h))]
   by_cases h36 : c = 36
   ·have e36 : bt s (a : Int) = 36 := by rw [hb]; exact (num c 36).2 h36
    rw [if_pos h36]
    rcases Nat.lt_or_ge (a + 1) s.size with hj | hj
    ·obtain ⟨d, hd, hdb⟩ := L_cons s (a + 1) hj
     rw [ht] at hd
     rw [hd]
     have sp := special_eq d
     refine Ev.step (f := fun _ => some (isLet d || isDig d || (isSpc d || d == 123 || d == 40))) (fun k => ?_) (Ev.now _)
     simp only [lexer_scanner_begins.j1]
     rw [if_neg hbt, if_pos e36, wrapS (by omega), if_pos (ilt hj), if_pos (ige _), hdb, letter_eq, digit_eq, Option.bind_some, Option.bind_some, sp]
     cases isLet d <;> cases isDig d <;> rfl
    ·rw [L_nil s (a + 1) hj] at ht
     subst ht
     refine Ev.step (f := fun _ => some false) (fun k => ?_) (Ev.now _)
     simp only [lexer_scanner_begins.j1]
     rw [if_neg hbt, if_pos e36, wrapS (by omega), if_neg (by omega)]
   ·rw [if_neg h36]
    refine Ev.step (f := fun _ => some false) (fun k => ?_) (Ev.now _)
    simp only [lexer_scanner_begins.j1]
    rw [if_neg hbt, if_neg (by rw [hb]; exact fun h => h36 ((num c 36).1 h))]
 have J0 : ∀ b : Bool, (b = true ↔ (c = 39 ∨ c = 34)) → Ev (fun k => lexer_scanner_begins.j0 k (a : Int) p (bt s (a : Int)) b s) (if c = 39 ∨ c = 34 then decide (p = 0) else if c = 92 ∨ c = 96 then true else if c = 36 then dlr t else false) := by
  intro b hbb
  by_cases hbt : b = true
  ·rw [if_pos (hbb.1 hbt)]
   refine Ev.step (f := fun _ => some (decide (p = 0))) (fun k => ?_) (Ev.now _)
   simp only [lexer_scanner_begins.j0]
   rw [if_pos hbt]
   by_cases hp : p = 0
   ·rw [if_pos hp, decide_eq_true hp]
   ·rw [if_neg hp, decide_eq_false hp]
  ·rw [if_neg (fun h => hbt (hbb.2 h))]
   by_cases h92 : c = 92
   ·have e92 : bt s (a : Int) = 92 := by rw [hb]; exact (num c 92).2 h92
    refine Ev.step (fun k => ?_) (J1 (bt s (a : Int) == 92) (by rw [beq_iff_eq, hb]; exact ⟨fun h => Or.inl ((num c 92).1 h), fun _ => (num c 92).2 h92⟩))
    simp only [lexer_scanner_begins.j0]
    rw [if_neg hbt, if_pos e92]
   ·have n92 : ¬ bt s (a : Int) = 92 := by rw [hb]; exact fun h => h92 ((num c 92).1 h)
    refine Ev.step (fun k => ?_) (J1 (bt s (a : Int) == 96) (by rw [beq_iff_eq, hb]; exact ⟨fun h => Or.inr ((num c 96).1 h), fun h => h.elim (fun h => absurd h h92) (fun h => (num c 96).2 h)⟩))
    simp only [lexer_scanner_begins.j0]
    rw [if_neg hbt, if_neg n92]
 unfold lexer_scanner_begins.f
 simp only [if_pos (ige a), if_pos (ilt ha)]
 by_cases h39 : c = 39
 ·have e39 : bt s (a : Int) = 39 := by rw [hb]; exact (num c 39).2 h39
  simp only [if_pos e39]
  exact J0 _ (by rw [beq_iff_eq, hb]; exact ⟨fun h => Or.inl ((num c 39).1 h), fun _ => (num c 39).2 h39⟩)
 ·have n39 : ¬ bt s (a : Int) = 39 := by rw [hb]; exact fun h => h39 ((num c 39).1 h)
  simp only [if_neg n39]
  exact J0 _ (by rw [beq_iff_eq, hb]; exact ⟨fun h => Or.inr ((num c 34).1 h), fun h => h.elim (fun h => absurd h h39) (fun h => (num c 34).2 h)⟩)
theorem st_one (p : Int) (c : UInt8) (t : List UInt8) (h : bg p (c :: t) = false) : sc (.st p) (c :: t) = .ok 1 := by
 rw [bg_cons] at h
 rw [sc_st]
 by_cases h1 : c = 39 ∨ c = 34
 ·rw [if_pos h1] at h
  have hp : ¬ p = 0 := of_decide_eq_false h
  rw [if_neg (by rcases h1 with h1 | h1 <;> rw [h1] <;> decide), if_neg (by rcases h1 with h1 | h1 <;> rw [h1] <;> decide), if_neg (by rcases h1 with h1 | h1 <;> rw [h1] <;> decide), if_neg (fun h => hp h.2), if_neg (fun h => hp h.2)]
 ·rw [if_neg h1] at h
  by_cases h2 : c = 92 ∨ c = 96
  ·rw [if_pos h2] at h; cases h
  ·rw [if_neg h2] at h
   rw [if_neg (fun e => h2 (Or.inl e)), if_neg (fun e => h2 (Or.inr e))]
   by_cases h3 : c = 36
   ·rw [if_pos h3] at h ⊢
    cases t with
    | nil => rfl
    | cons d u =>
     dsimp only [dlr] at h ⊢
     rw [Bool.or_eq_false_iff, Bool.or_eq_false_iff, Bool.or_eq_false_iff, Bool.or_eq_false_iff] at h
     obtain ⟨⟨a1, a2⟩, ⟨a3, a4⟩, a5⟩ := h
     rw [if_neg (by simpa using a4), if_neg (by simpa using a5), if_neg (by rw [a1]; decide), if_neg (by rw [a2, a3]; decide)]
   ·rw [if_neg h3, if_neg (fun e => h1 (Or.inl e.1)), if_neg (fun e => h1 (Or.inr e.1))]
theorem ev_dname (s : ByteArray) (hB : s.size ≤ 1099511627776) (a : Nat) (x : ByteArray) (hx : x.size ≤ s.size) (ha : a ≤ s.size) : ∀ (d n : Nat), x.size - n ≤ d → n ≤ x.size → Ev (fun k => lexer_scanner_dollar.l0 k (a : Int) x (n : Int)) (((a + (n + nameL (L x n)) : Nat) : Int), 0, 0) := by
 have stop : ∀ n : Nat, n ≤ x.size → Ev (fun k => lexer_scanner_dollar.j1 k (a : Int) x (n : Int) false) (((a + n : Nat) : Int), 0, 0) := by
  intro n hn
  refine Ev.step (f := fun _ => some (((a + n : Nat) : Int), 0, 0)) (fun k => ?_) (Ev.now _)
  simp only [lexer_scanner_dollar.j1]
  rw [if_neg (by simp), wrapK n (by omega)]
 intro d
 induction d with
 | zero =>
  intro n h1 h2
  rw [L_nil x n (by omega), nameL, Nat.add_zero]
  refine Ev.step (fun k => ?_) (stop n h2)
  simp only [lexer_scanner_dollar.l0]
  rw [if_neg (by omega)]
 | succ d ih =>
  intro n h1 h2
  rcases Nat.lt_or_ge n x.size with hi | hi
  case inr =>
   rw [L_nil x n hi, nameL, Nat.add_zero]
   refine Ev.step (fun k => ?_) (stop n h2)
   simp only [lexer_scanner_dollar.l0]
   rw [if_neg (by omega)]
  obtain ⟨c, hc, hb⟩ := L_cons x n hi
  rw [hc, nameL]
  have J : ∀ b : Bool, b = (isLet c || isDig c) → Ev (fun k => lexer_scanner_dollar.j1 k (a : Int) x (n : Int) b) (((a + (n + (if (isLet c || isDig c) = true then nameL (L x (n + 1)) + 1 else 0)) : Nat) : Int), 0, 0) := by
   intro b hb2
   subst hb2
   by_cases h : (isLet c || isDig c) = true
   ·rw [if_pos h, h, show n + (nameL (L x (n + 1)) + 1) = n + 1 + nameL (L x (n + 1)) by omega]
    refine Ev.step (fun k => ?_) (ih (n + 1) (by omega) (by omega))
    simp only [lexer_scanner_dollar.j1]
    rw [if_pos trivial, wrapS (by omega)]
   ·rw [if_neg h, Bool.eq_false_iff.2 h]
    exact stop n h2
  by_cases h : isLet c = true
  ·refine Ev.step (fun k => ?_) (J true (by rw [h]; rfl))
   simp only [lexer_scanner_dollar.l0]
   rw [if_pos (ilt hi), if_pos (ige n), hb, letter_eq, h, Option.bind_some, if_pos rfl]
  ·refine Ev.step (fun k => ?_) (J (isDig c) (by rw [Bool.eq_false_iff.2 h]; rfl))
   simp only [lexer_scanner_dollar.l0]
   rw [if_pos (ilt hi), if_pos (ige n), hb, letter_eq, digit_eq, Option.bind_some, if_neg h, Option.bind_some]
section
variable [ScanC] (s : ByteArray) (hB : s.size ≤ 1099511627776) (a : Nat) (ha : a < s.size) (hS : ∀ (i : Nat) (p : Int), a + 1 ≤ i → i < s.size → (p = 0 ∨ p = 1 ∨ p = 2) → lexer_scanner_step.f s (i : Int) p = some (P i i (sc (.st p) (L s i)))) (p : Int) (hp : p = 0 ∨ p = 1 ∨ p = 2)
include hB ha hS hp
theorem ev_dollar (d : UInt8) (u : List UInt8) (hd : L s a = 36 :: d :: u) (hb : bg p (36 :: d :: u) = true) : Ev (fun k => lexer_scanner_dollar.f k s (a : Int) p) (P a a (sc (.st p) (36 :: d :: u))) := by
 have hlen := L_len s a
 rw [hd, List.length_cons, List.length_cons] at hlen
 have h3 := hasPre_at s a ⟨#[36, 40, 40]⟩
 have h2 := hasPre_at s a ⟨#[36, 40]⟩
 have h1 := hasPre_at s a ⟨#[36, 123]⟩
 rw [hd] at h1 h2 h3
 have e3 : decide (([36, 40, 40] : List UInt8) <+: 36 :: d :: u) = decide (d = 40 ∧ u.head? = some 40) := by
  apply decide_eq_decide.2
  rw [List.cons_prefix_cons, pre2]
  exact ⟨fun h => h.2, fun h => ⟨rfl, h⟩⟩
 have e2 : decide (([36, 40] : List UInt8) <+: 36 :: d :: u) = decide (d = 40) := by
  apply decide_eq_decide.2
  rw [pre2, List.head?_cons, Option.some.injEq]
  exact ⟨fun h => h.2, fun h => ⟨rfl, h⟩⟩
 have e1 : decide (([36, 123] : List UInt8) <+: 36 :: d :: u) = decide (d = 123) := by
  apply decide_eq_decide.2
  rw [pre2, List.head?_cons, Option.some.injEq]
  exact ⟨fun h => h.2, fun h => ⟨rfl, h⟩⟩
 replace h3 : strings_HasPrefix.f (s.extract ((a : Int)).toNat s.size) ⟨#[36, 40, 40]⟩ = some (decide (d = 40 ∧ u.head? = some 40)) := h3.trans (congrArg some e3)
 replace h2 : strings_HasPrefix.f (s.extract ((a : Int)).toNat s.size) ⟨#[36, 40]⟩ = some (decide (d = 40)) := h2.trans (congrArg some e2)
 replace h1 : strings_HasPrefix.f (s.extract ((a : Int)).toNat s.size) ⟨#[36, 123]⟩ = some (decide (d = 123)) := h1.trans (congrArg some e1)
 have hu : u = L s (a + 2) := by
  have := L_drop s a 2
  rw [hd] at this
  exact this
 have w2 : wrap64 ((a : Int) + 2) = ((a + 2 : Nat) : Int) := wrapK (i := a) 2 (by omega)
 have w3 : wrap64 ((a : Int) + 3) = ((a + 3 : Nat) : Int) := wrapK (i := a) 3 (by omega)
 have W2 := Aside0.mk w2
 have W3 := Aside0.mk w3
 clear w2 w3
 have la : (a : Int) ≤ (s.size : Int) := by omega
 have sst : sc (.st p) (36 :: d :: u) = (if d = 123 then (sc (.br p) u).wr 2 else if d = 40 then (if u.head? = some 40 then (sc (.ar 0) u.tail).wr 3 else (sc (.cm 0 true) u).wr 2) else if isLet d then .ok (1 + nameL (d :: u)) else if isDig d || isSpc d then .ok 2 else .ok 1) := by
  rw [sc_st, if_neg (by decide), if_neg (by decide), if_pos rfl]
 rw [sst]
 unfold lexer_scanner_dollar.f
 simp only [if_pos (ige a), if_pos la, h3, h2, h1, Option.bind_some]
 by_cases d40 : d = 40
 ·rw [if_neg (by rw [d40]; decide), if_pos d40]
  by_cases u40 : u.head? = some 40
  ·have t1 : u.tail = L s (a + 3) := by rw [hu, ← List.drop_one, L_drop]
   have hl : a + 3 ≤ s.size := by
    cases u with
    | nil => cases u40
    | cons x y => rw [List.length_cons] at hlen; omega
   rw [if_pos u40, P_wr, t1]
   simp only [decide_eq_true (⟨d40, u40⟩ : d = 40 ∧ u.head? = some 40), if_true]
   refine Ev.bind ?_ (Ev.now (P a (a + 3) (sc (.ar 0) (L s (a + 3)))))
   unfold lexer_scanner_sum.f
   simp only [W3.out]
   exact ev_sum s hB (a + 1) 2 (fun i l1 l2 => hS i 2 l1 l2 (Or.inr (Or.inr rfl))) rfl a _ (a + 3) 0 (Nat.le_refl _) (by omega) hl (by omega)
  ·rw [if_neg u40, P_wr, hu]
   rw [hu] at u40
   simp only [decide_eq_false (fun h => u40 h.2 : ¬ (d = 40 ∧ (L s (a + 2)).head? = some 40)), decide_eq_true d40, Bool.false_eq_true, if_false, if_true]
   refine Ev.bind ?_ (Ev.now (P a (a + 2) (sc (.cm 0 true) (L s (a + 2)))))
   unfold lexer_scanner_command.f
   simp only [W2.out]
   exact ev_command s hB (a + 1) (fun i l1 l2 => hS i 0 l1 l2 (Or.inl rfl)) a _ (a + 2) 0 true (Nat.le_refl _) (by omega) (by omega) (by omega)
 ·have n3 : ¬ (d = 40 ∧ u.head? = some 40) := fun h => d40 h.1
  simp only [decide_eq_false n3, decide_eq_false d40, Bool.false_eq_true, if_false]
  by_cases d123 : d = 123
  ·rw [if_pos d123, P_wr, hu]
   simp only [decide_eq_true d123, if_true]
   refine Ev.bind ?_ (Ev.now (P a (a + 2) (sc (.br p) (L s (a + 2)))))
   unfold lexer_scanner_braced.f
   simp only [W2.out]
   exact ev_braced s hB (a + 1) p (fun i l1 l2 => hS i p l1 l2 hp) a _ (a + 2) (Nat.le_refl _) (by omega) (by omega)
  ·rw [if_neg d123, if_neg d40]
   simp only [decide_eq_false d123, Bool.false_eq_true, if_false]
   obtain ⟨x, hx⟩ : ∃ x, s.extract ((a : Int)).toNat s.size = x := ⟨_, rfl⟩
   have hxl : x.data.toList = 36 :: d :: u := by rw [← hx, Int.toNat_natCast, extr, hd]
   have hxs : x.size = u.length + 2 := by rw [← dl_len, hxl]; rfl
   have hL : ∀ n, L x n = (36 :: d :: u).drop n := fun n => by unfold L; rw [hxl]
   have hb1 : bt x (1 : Int) = (d.toNat : Int) := by
    obtain ⟨e, h1, h2⟩ := L_cons x 1 (by omega)
    rw [hL] at h1
    have : d = e := (List.cons.inj h1).1
    rw [this]
    exact h2
   have c1 : (1 : Int) < (x.size : Int) := by omega
   rw [hx]
   simp only [if_pos c1, hb1, letter_eq, Option.bind_some]
   by_cases hl : isLet d = true
   ·rw [if_pos hl]
    simp only [hl, if_true]
    have := ev_dname s hB a x (by omega) (by omega) _ 2 (Nat.le_refl _) (by omega)
    rw [hL] at this
    have e : ((a + (2 + nameL ((36 :: d :: u).drop 2)) : Nat) : Int) = ((a + (1 + nameL (d :: u)) : Nat) : Int) := by
     rw [nameL, hl]
     show ((a + (2 + nameL u) : Nat) : Int) = ((a + (1 + (nameL u + 1)) : Nat) : Int)
     omega
    rw [e] at this
    exact this
   ·rw [if_neg hl]
    simp only [hl, if_false, W2.out]
    have hds : (isDig d || isSpc d) = true := by
     rw [bg_cons, if_neg (by decide), if_neg (by decide), if_pos rfl, dlr] at hb
     have q1 : (d == 123) = false := by simpa using d123
     have q2 : (d == 40) = false := by simpa using d40
     rw [Bool.eq_false_iff.2 hl, q1, q2] at hb
     simpa using hb
    rw [if_pos hds]
    exact Ev.now _
theorem ev_pass (hb : bg p (L s a) = true) : Ev (fun k => lexer_scanner_pass.f k s (a : Int) p) (P a a (sc (.st p) (L s a))) := by
 obtain ⟨c, hc, hbt⟩ := L_cons s a ha
 rw [hc] at hb ⊢
 have hd := hc
 obtain ⟨t, ht⟩ : ∃ t, L s (a + 1) = t := ⟨_, rfl⟩
 rw [ht] at hb hd ⊢
 have hlen : t.length = s.size - (a + 1) := by rw [← ht, L_len]
 have W1 := Aside0.mk (wrapS (show a < 9223372036854775807 by omega))
 have W2 : Aside0 (wrap64 ((a : Int) + 2) = ((a + 2 : Nat) : Int)) := ⟨wrapK (i := a) 2 (by omega)⟩
 unfold lexer_scanner_pass.f
 simp only [if_pos (ige a), if_pos (ilt ha), W1.out, W2.out]
 by_cases h92 : c = 92
 ·have e92 : bt s (a : Int) = 92 := by rw [hbt]; exact (num c 92).2 h92
  rw [sc_st, if_pos h92]
  simp only [if_pos e92]
  by_cases hn : t = []
  ·have ee : ((a + 1 : Nat) : Int) = (s.size : Int) := by rw [hn] at hlen; simp at hlen; omega
   rw [if_pos hn]
   simp only [if_pos ee, lex_open]
   exact Ev.now _
  ·have ne : ¬ ((a + 1 : Nat) : Int) = (s.size : Int) := by have := List.length_pos_iff.2 hn; omega
   rw [if_neg hn]
   simp only [if_neg ne]
   exact Ev.now _
 ·have n92 : ¬ bt s (a : Int) = 92 := by rw [hbt]; exact fun h => h92 ((num c 92).1 h)
  simp only [if_neg n92]
  by_cases h39 : c = 39
  ·have e39 : bt s (a : Int) = 39 := by rw [hbt]; exact (num c 39).2 h39
   have hp0 : p = 0 := by
    rw [bg_cons, if_pos (Or.inl h39)] at hb
    exact of_decide_eq_true hb
   have la : ((a + 1 : Nat) : Int) ≤ (s.size : Int) := by omega
   have hx := idx_at s (a + 1) 39
   have fi : Lib.indexByte t (39 : Int).toNat.toUInt8 = _ := fnd_idx 39 t
   rw [ht, fi] at hx
   have st : sc (.st p) (c :: t) = (match fnd 39 t with | none => .bad false 0 | some n => .ok (n + 2)) := by rw [sc_st, if_neg h92, if_neg (by rw [h39]; decide), if_neg (by rw [h39]; decide), if_pos ⟨h39, hp0⟩]; all_goals (cases fnd 39 t <;> rfl)
   rw [st]
   simp only [if_pos e39, if_pos (ige _), if_pos la, hx, Option.bind_some]
   cases hf : fnd 39 t with
   | none =>
    dsimp only
    rw [if_pos (by decide)]
    exact Ev.now _
   | some n =>
    dsimp only
    have fl := fnd_le 39 t n hf
    have nn : ¬ (n : Int) < 0 := by omega
    rw [if_neg nn, wrapK n (by omega), show wrap64 (((a + n : Nat) : Int) + 2) = ((a + n + 2 : Nat) : Int) from wrapK (i := a + n) 2 (by omega)]
    exact Ev.now _
  ·have n39 : ¬ bt s (a : Int) = 39 := by rw [hbt]; exact fun h => h39 ((num c 39).1 h)
   simp only [if_neg n39]
   by_cases h34 : c = 34
   ·have e34 : bt s (a : Int) = 34 := by rw [hbt]; exact (num c 34).2 h34
    have hp0 : p = 0 := by
     rw [bg_cons, if_pos (Or.inr h34)] at hb
     exact of_decide_eq_true hb
    have st : sc (.st p) (c :: t) = (sc .db t).wr 1 := by rw [sc_st, if_neg h92, if_neg (by rw [h34]; decide), if_neg (by rw [h34]; decide), if_neg (fun h => h39 h.1), if_pos ⟨h34, hp0⟩]
    rw [st, P_wr, ← ht]
    simp only [if_pos e34]
    refine Ev.bind ?_ (Ev.now (P a (a + 1) (sc .db (L s (a + 1)))))
    unfold lexer_scanner_doubled.f
    simp only [W1.out]
    exact ev_doubled s hB (a + 1) 1 (fun i l1 l2 => hS i 1 l1 l2 (Or.inr (Or.inl rfl))) rfl a _ (a + 1) (Nat.le_refl _) (Nat.le_refl _) (by omega)
   ·have n34 : ¬ bt s (a : Int) = 34 := by rw [hbt]; exact fun h => h34 ((num c 34).1 h)
    simp only [if_neg n34]
    by_cases h96 : c = 96
    ·have e96 : bt s (a : Int) = 96 := by rw [hbt]; exact (num c 96).2 h96
     have st : sc (.st p) (c :: t) = (bq t).wr 1 := by rw [sc_st, if_neg h92, if_pos h96]
     rw [st, P_wr, ← ht]
     simp only [if_pos e96]
     refine Ev.bind ?_ (Ev.now (P a (a + 1) (bq (L s (a + 1)))))
     unfold lexer_scanner_backquoted.f
     simp only [W1.out]
     exact ev_backquoted s hB a _ (a + 1) (Nat.le_refl _)
    ·have n96 : ¬ bt s (a : Int) = 96 := by rw [hbt]; exact fun h => h96 ((num c 96).1 h)
     simp only [if_neg n96]
     have h36 : c = 36 := by
      rw [bg_cons, if_neg (fun h => h.elim h39 h34), if_neg (fun h => h.elim h92 h96)] at hb
      by_cases h : c = 36
      ·exact h
      ·rw [if_neg h] at hb; cases hb
     subst h36
     cases t with
     | nil =>
      rw [bg_cons, if_neg (by decide), if_neg (by decide), if_pos rfl] at hb
      cases hb
     | cons d u => exact Ev.bind (ev_dollar s hB a ha hS p hp d u hd hb) (Ev.now _)
end
end
section
def scB (rc : Md → List UInt8 → R) : Md → List UInt8 → R
 | .st p, [] => .bad false 0
 | .st p, c :: t =>
  if c = 92 then (if t = [] then .bad false 0 else .ok 2)
  else if c = 96 then (bq t).wr 1
  else if c = 36 then
   match t with
   | [] => .ok 1
   | d :: u =>
    if d = 123 then (rc (.br p) u).wr 2
    else if d = 40 then (if u.head? = some 40 then (rc (.ar 0) u.tail).wr 3 else (rc (.cm 0 true) u).wr 2)
    else if isLet d then .ok (1 + nameL (d :: u))
    else if isDig d || isSpc d then .ok 2
    else .ok 1
  else if c = 39 ∧ p = 0 then (match fnd 39 t with | none => .bad false 0 | some n => .ok (n + 2))
  else if c = 34 ∧ p = 0 then (rc .db t).wr 1
  else .ok 1
 | .db, [] => .opn
 | .db, c :: t => if c = 34 then .ok 1 else (rc (.st 1) (c :: t)).on (fun n => rc .db (t.drop (n - 1)))
 | .br p, [] => .opn
 | .br p, c :: t => if c = 125 then .ok 1 else if c = 34 ∧ p = 1 then .bad true 0 else (rc (.st p) (c :: t)).on (fun n => rc (.br p) (t.drop (n - 1)))
 | .ar d, [] => .opn
 | .ar d, c :: t => if c = 41 ∧ d = 0 then (if t = [] then .opn else if t.head? = some 41 then .ok 2 else .bad true 0) else (rc (.st 2) (c :: t)).on (fun n => rc (.ar (dep d c)) (t.drop (n - 1)))
 | .cm d b, [] => .opn
 | .cm d b, c :: t =>
  if c = 35 ∧ b = true then (match fnd 10 t with | none => .opn | some n => (rc (.cm d b) (t.drop n)).sh (n + 1))
  else if c = 92 ∧ t.head? = some 10 then (rc (.cm d b) t.tail).sh 2
  else if c = 41 ∧ d = 0 then .ok 1
  else (rc (.st 0) (c :: t)).on (fun n => rc (.cm (dep d c) (isBlk c || c == 10 || isOp c)) (t.drop (n - 1)))
theorem scB_sc (md : Md) (l : List UInt8) : sc md l = scB sc md l := by
 cases md with
 | st p =>
  cases l with
  | nil => rw [sc_st_nil]; rfl
  | cons c t => rw [sc_st]; cases t <;> rfl
 | db => cases l with | nil => rw [sc_db_nil]; rfl | cons c t => rw [sc_db]; rfl
 | br p => cases l with | nil => rw [sc_br_nil]; rfl | cons c t => rw [sc_br]; rfl
 | ar d => cases l with | nil => rw [sc_ar_nil]; rfl | cons c t => rw [sc_ar]; rfl
 | cm d b => cases l with | nil => rw [sc_cm_nil]; rfl | cons c t => rw [sc_cm]; rfl
theorem scB_cg (rc : Md → List UInt8 → R) (md : Md) (l : List UInt8) (h : ∀ md2 l2, 2 * l2.length + md2.rk < 2 * l.length + md.rk → rc md2 l2 = sc md2 l2) : scB rc md l = sc md l := by
 rw [scB_sc]
 cases l with
 | nil => cases md <;> rfl
 | cons c t =>
  have on_ : ∀ (p : Int) (md2 : Md), md2.rk = 1 → md.rk = 1 → (rc (.st p) (c :: t)).on (fun n => rc md2 (t.drop (n - 1))) = (sc (.st p) (c :: t)).on (fun n => sc md2 (t.drop (n - 1))) := by
   intro p md2 r1 r2
   have a := h (.st p) (c :: t) (by rw [r2]; show 2 * (c :: t).length + 0 < _; omega)
   have b : (fun n => rc md2 (t.drop (n - 1))) = (fun n => sc md2 (t.drop (n - 1))) := by
    funext n
    exact h md2 _ (by rw [List.length_drop, List.length_cons]; omega)
   rw [a, b]
  cases md with
  | st p =>
   cases t with
   | nil =>
    have a1 := h .db [] (by simp only [Md.rk, List.length_cons, List.length_nil]; omega)
    simp only [scB, a1]
   | cons d u =>
    have a1 := h .db (d :: u) (by simp only [Md.rk, List.length_cons]; omega)
    have a2 := h (.br p) u (by simp only [Md.rk, List.length_cons]; omega)
    have a3 := h (.ar 0) u.tail (by simp only [Md.rk, List.length_cons, List.length_tail]; omega)
    have a4 := h (.cm 0 true) u (by simp only [Md.rk, List.length_cons]; omega)
    simp only [scB, a1, a2, a3, a4]
  | db => simp only [scB, on_ 1 .db rfl rfl]
  | br p => simp only [scB, on_ p (.br p) rfl rfl]
  | ar d => simp only [scB, on_ 2 (.ar (dep d c)) rfl rfl]
  | cm d b =>
   have a1 : ∀ n, rc (.cm d b) (t.drop n) = sc (.cm d b) (t.drop n) := fun n => h (.cm d b) (t.drop n) (by rw [List.length_drop, List.length_cons]; simp only [Md.rk]; omega)
   have a2 := h (.cm d b) t.tail (by rw [List.length_tail, List.length_cons]; simp only [Md.rk]; omega)
   simp only [scB, a1, a2, on_ 0 (.cm (dep d c) (isBlk c || c == 10 || isOp c)) rfl rfl]
def scF : Nat → Md → List UInt8 → R
 | 0, _, _ => .opn
 | n + 1, md, l => scB (scF n) md l
theorem scF_sc : ∀ (n : Nat) (md : Md) (l : List UInt8), 2 * l.length + md.rk < n → scF n md l = sc md l
 | 0, md, l, h => by omega
 | n + 1, md, l, h => by
  rw [scF]
  exact scB_cg _ md l (fun md2 l2 h2 => scF_sc n md2 l2 (by omega))
end
section
def stF (m : Nat) (s : ByteArray) (a1 a2 : Int) : Option (Int × Int × Int) :=
 if 0 ≤ a1 then (if a1 < (s.size : Int) then (if s.size ≤ 1099511627776 then (if s.size - a1.toNat ≤ m then (if a2 = 0 ∨ a2 = 1 ∨ a2 = 2 then some (P a1.toNat a1.toNat (scF (2 * (s.size - a1.toNat) + 2) (.st a2) (L s a1.toNat))) else none) else none) else none) else none) else none
theorem stF_at (m : Nat) (s : ByteArray) (hB : s.size ≤ 1099511627776) (i : Nat) (hi : i < s.size) (hm : s.size - i ≤ m) (p : Int) (hp : p = 0 ∨ p = 1 ∨ p = 2) : stF m s (i : Int) p = some (P i i (sc (.st p) (L s i))) := by
 unfold stF
 rw [if_pos (ige i), if_pos (ilt hi), if_pos hB, Int.toNat_natCast, if_pos hm, if_pos hp, scF_sc _ _ _ (by rw [L_len]; simp only [Md.rk]; omega)]
theorem stF_inv {m : Nat} {s : ByteArray} {a1 a2 : Int} {r : Int × Int × Int} (h : stF m s a1 a2 = some r) : ∃ i : Nat, a1 = (i : Int) ∧ i < s.size ∧ s.size ≤ 1099511627776 ∧ s.size - i ≤ m ∧ (a2 = 0 ∨ a2 = 1 ∨ a2 = 2) ∧ r = P i i (sc (.st a2) (L s i)) := by
 have h0 := h
 unfold stF at h
 split at h
 case isFalse => cases h
 rename_i c1
 split at h
 case isFalse => cases h
 rename_i c2
 split at h
 case isFalse => cases h
 rename_i c3
 split at h
 case isFalse => cases h
 rename_i c4
 split at h
 case isFalse => cases h
 rename_i c5
 obtain ⟨i, rfl⟩ : ∃ i : Nat, a1 = (i : Int) := ⟨a1.toNat, by omega⟩
 rw [Int.toNat_natCast] at c4
 refine ⟨i, rfl, by omega, c3, c4, c5, ?_⟩
 rw [stF_at m s c3 i (by omega) c4 a2 c5] at h0
 exact (Option.some.inj h0).symm
theorem ev_stepB [ScanC] (s : ByteArray) (hB : s.size ≤ 1099511627776) (a : Nat) (ha : a < s.size) (hS : ∀ (i : Nat) (p : Int), a + 1 ≤ i → i < s.size → (p = 0 ∨ p = 1 ∨ p = 2) → lexer_scanner_step.f s (i : Int) p = some (P i i (sc (.st p) (L s i)))) (p : Int) (hp : p = 0 ∨ p = 1 ∨ p = 2) : Ev (fun k => lexer_scanner_stepB.f k s (a : Int) p) (P a a (sc (.st p) (L s a))) := by
 unfold lexer_scanner_stepB.f
 refine Ev.bind (ev_begins s hB a ha p) ?_
 by_cases hb : bg p (L s a) = true
 ·simp only [hb, if_true]
  exact Ev.bind (ev_pass s hB a ha hS p hp hb) (Ev.now _)
 ·have hb := Bool.eq_false_iff.2 hb
  simp only [hb, Bool.false_eq_true, if_false]
  obtain ⟨c, hc, _⟩ := L_cons s a ha
  rw [hc] at hb ⊢
  rw [st_one p c _ hb, wrapS (by omega)]
  exact Ev.now _
theorem st_calls : ∀ (m : Nat) (a0_0 : ByteArray) (a1 a2 r1 r2 r3 : Int) (w : World), stF m a0_0 a1 a2 = some (r1, r2, r3) →
  Calls Try.prog 63 #[.agg #[.string a0_0], .int .i64 a1, .int .i64 a2] w fun e w' => e = .returned (.tuple #[.int .i64 r1, .agg #[.int .i64 r2, .int .i64 r3]]) ∧ Below w.heap.size w w'
 | 0, s, a1, a2, r1, r2, r3, w, h => by
  obtain ⟨i, rfl, h1, h2, h3, h4, h5⟩ := stF_inv h
  omega
 | m + 1, s, a1, a2, r1, r2, r3, w, h => by
  obtain ⟨i, rfl, h1, h2, h3, h4, h5⟩ := stF_inv h
  letI I : ScanC := { f := stF m, calls := st_calls m, g := fun _ _ _ => none, callsG := fun _ _ _ _ _ _ h => by cases h }
  have E := @ev_stepB I s h2 i h1 (fun j p l1 l2 l3 => stF_at m s h2 j l2 (by omega) p l3) a2 h4
  rw [← h5] at E
  obtain ⟨K, hK⟩ := E
  exact @lexer_scanner_stepB.calls I K s (i : Int) a2 r1 r2 r3 w (hK K (Nat.le_refl _))
def FullS [ScanC] : Prop := ∀ (s : ByteArray), s.size ≤ 1099511627776 → ∀ (i : Nat), i < s.size → ∀ p : Int, (p = 0 ∨ p = 1 ∨ p = 2) → lexer_scanner_step.f s (i : Int) p = some (P i i (sc (.st p) (L s i)))
end
section
instance scanI : ScanC where
 f := fun s a1 a2 => stF s.size s a1 a2
 calls := fun s a1 a2 r1 r2 r3 w h => st_calls s.size s a1 a2 r1 r2 r3 w h
 g := fun _ _ _ => none
 callsG := fun _ _ _ _ _ _ h => by cases h
theorem fullS : FullS := fun s hB i hi p hp => stF_at s.size s hB i hi (Nat.sub_le _ _) p hp
end
section
theorem awake_at : jobshelllaw07_awake.f 60 = some true := by kernel_rfl
theorem ev_awake : Ev (fun k => (jobshelllaw07_awake.f k).bind fun t => some t) true := Ev.bind (Ev.of jobshelllaw07_awake.mono awake_at) (Ev.now _)
end
section
theorem rdo (l : List ByteArray) (i : Nat) (h : i < l.length) : rdOf ByteArray.empty l (i : Int) = l[i] := by
 unfold rdOf
 rw [Int.toNat_natCast, List.getD_eq_getElem?_getD, List.getElem?_eq_getElem h]
 rfl
def opsL : List (List UInt8) := [[60, 60, 45], [38, 38], [124, 124], [59, 59], [60, 60], [62, 62], [60, 38], [62, 38], [60, 62], [62, 124], [59], [38], [124], [40], [41], [60], [62]]
end
section
theorem ev_Skip_l0 (s : ByteArray) (hB : s.size ≤ 1099511627776) : ∀ (d i : Nat), s.size - i ≤ d → i ≤ s.size → Ev (fun k => lexer_Skip.l0 k s (i : Int)) ((i + skp (L s i) : Nat) : Int) := by
 have none_ : ∀ i : Nat, s.size = i → Ev (fun k => lexer_Skip.l0 k s (i : Int)) ((i + skp (L s i) : Nat) : Int) := by
  intro i hi
  rw [L_nil s i (by omega), skp_nil]
  refine Ev.step (f := fun _ => some (i : Int)) (fun k => ?_) (Ev.now _)
  simp only [lexer_Skip.l0]
  rw [if_neg (by omega)]
 intro d
 induction d with
 | zero => exact fun i h1 h2 => none_ i (by omega)
 | succ d ih =>
  intro i h1 h2
  rcases Nat.lt_or_ge i s.size with hi | hi
  case inr => exact none_ i (by omega)
  obtain ⟨c, hc, hb⟩ := L_cons s i hi
  have hx := idx_at s i 10
  have hh := hasPre_at s i ⟨#[92, 10]⟩
  have len : (L s (i + 1)).length = s.size - (i + 1) := L_len s (i + 1)
  rw [hc] at hx hh
  obtain ⟨t, ht⟩ : ∃ t, L s (i + 1) = t := ⟨_, rfl⟩
  rw [ht] at hx hh len
  rw [hc, ht, skp_cons]
  have il : (i : Int) ≤ (s.size : Int) := by omega
  have W1 := Aside0.mk (wrapS (show i < 9223372036854775807 by omega))
  have W2 : Aside0 (wrap64 ((i : Int) + 2) = ((i + 2 : Nat) : Int)) := ⟨wrapK (i := i) 2 (by omega)⟩
  by_cases hbl : isBlk c = true
  ·rw [if_pos hbl, show i + (skp t + 1) = i + 1 + skp t by omega, ← ht]
   refine Ev.step (fun k => ?_) (ih (i + 1) (by omega) (by omega))
   simp only [lexer_Skip.l0]
   rw [if_pos (ilt hi), if_pos (ige i), hb, blank_eq, Option.bind_some, if_pos hbl, W1.out]
  ·rw [if_neg hbl]
   by_cases h92 : c = 92 ∧ t.head? = some 10
   ·have hh2 : strings_HasPrefix.f (s.extract ((i : Int)).toNat s.size) ⟨#[92, 10]⟩ = some true := by rw [hh]; exact congrArg some (decide_eq_true ((pre2 92 10 c t).2 h92))
    have tl : t.tail = L s (i + 2) := by rw [← ht, ← List.drop_one, L_drop]
    have t1 : 0 < t.length := by
     cases t with
     | nil => exact absurd h92.2 (by simp)
     | cons x y => simp
    rw [if_pos h92, tl, show i + (skp (L s (i + 2)) + 2) = i + 2 + skp (L s (i + 2)) by omega]
    refine Ev.step (fun k => ?_) (ih (i + 2) (by omega) (by omega))
    simp only [lexer_Skip.l0]
    rw [if_pos (ilt hi), if_pos (ige i), hb, blank_eq, Option.bind_some, if_neg hbl, if_pos il, hh2, Option.bind_some, if_pos rfl, W2.out]
   ·have hh2 : strings_HasPrefix.f (s.extract ((i : Int)).toNat s.size) ⟨#[92, 10]⟩ = some false := by rw [hh]; exact congrArg some (decide_eq_false (fun h => h92 ((pre2 92 10 c t).1 h)))
    rw [if_neg h92]
    by_cases h35 : c = 35
    ·have e35 : (c.toNat : Int) = 35 := (num c 35).2 h35
     rw [if_pos h35]
     have f0 : fnd 10 (c :: t) = (fnd 10 t).map (· + 1) := by rw [fnd, if_neg (by rw [h35]; decide)]
     have fi : Lib.indexByte (c :: t) (10 : Int).toNat.toUInt8 = _ := fnd_idx 10 (c :: t)
     rw [fi, f0] at hx
     cases hf : fnd 10 t with
     | none =>
      rw [hf] at hx
      have hx2 : strings_IndexByte.f (s.extract ((i : Int)).toNat s.size) 10 = some (-1) := hx
      dsimp only
      rw [show i + (t.length + 1) = s.size by omega]
      refine Ev.step (f := fun _ => some (s.size : Int)) (fun k => ?_) (Ev.now _)
      simp only [lexer_Skip.l0]
      rw [if_pos (ilt hi), if_pos (ige i), hb, blank_eq, Option.bind_some, if_neg hbl, if_pos il, hh2, Option.bind_some, if_neg (by simp), if_pos e35, hx2, Option.bind_some, if_pos (by decide)]
     | some n =>
      rw [hf] at hx
      have fl := fnd_le 10 t n hf
      have hx2 : strings_IndexByte.f (s.extract ((i : Int)).toNat s.size) 10 = some ((n + 1 : Nat) : Int) := hx
      dsimp only
      have hz : skp (L s (i + (n + 1))) = 0 := by
       rw [show i + (n + 1) = i + 1 + n by omega, ← L_drop, ht]
       exact skp_nl t n hf
      have := ih (i + (n + 1)) (by omega) (by omega)
      rw [hz, Nat.add_zero] at this
      have wn := Aside0.mk (wrapK (i := i) (n + 1) (by omega))
      have nn : ¬ (((n + 1 : Nat) : Int)) < 0 := by omega
      refine Ev.step (fun k => ?_) this
      simp only [lexer_Skip.l0]
      rw [if_pos (ilt hi), if_pos (ige i), hb, blank_eq, Option.bind_some, if_neg hbl, if_pos il, hh2, Option.bind_some, if_neg (by simp), if_pos e35, hx2, Option.bind_some, if_neg nn, wn.out]
    ·have n35 : ¬ (c.toNat : Int) = 35 := fun h => h35 ((num c 35).1 h)
     rw [if_neg h35, Nat.add_zero]
     refine Ev.step (f := fun _ => some (i : Int)) (fun k => ?_) (Ev.now _)
     simp only [lexer_Skip.l0]
     rw [if_pos (ilt hi), if_pos (ige i), hb, blank_eq, Option.bind_some, if_neg hbl, if_pos il, hh2, Option.bind_some, if_neg (by simp), if_neg n35]
theorem ev_Skip (s : ByteArray) (hB : s.size ≤ 1099511627776) (i : Nat) (hi : i ≤ s.size) : Ev (fun k => lexer_Skip.f k s (i : Int)) ((i + skp (L s i) : Nat) : Int) := by
 have h : mn (mx (i : Int) 0) (s.size : Int) = (i : Int) := by unfold mn mx; repeat' split <;> omega
 unfold lexer_Skip.f
 simp only [h]
 exact ev_Skip_l0 s hB _ i (Nat.le_refl _) hi
end
section
def Q (a i : Nat) : R → Int × Int
 | .ok n => (((i + n : Nat) : Int), 0)
 | .bad e o => (((i + o : Nat) : Int), en e)
 | .opn => ((a : Int), 7)
def FullP [ScanC] : Prop := ∀ (s : ByteArray), s.size ≤ 1099511627776 → ∀ (i : Nat), i < s.size → ∀ p : Int, (p = 0 ∨ p = 1 ∨ p = 2) → jobshellref07_Pass.f s (i : Int) p = some (Q i i (sc (.st p) (L s i)))
section
variable [ScanC] (s : ByteArray) (hB : s.size ≤ 1099511627776) (lo : Nat) (p : Int) (hS : ∀ i, lo ≤ i → i < s.size → jobshellref07_Pass.f s (i : Int) p = some (Q i i (sc (.st p) (L s i))))
include hB hS
end
end
section
def ends (c : UInt8) : Bool := isBlk c || c == 10 || isOp c
def wdL : List UInt8 → R
 | [] => .ok 0
 | c :: t => if ends c = true then .ok 0 else (sc (.st 0) (c :: t)).on (fun n => wdL (t.drop (n - 1)))
termination_by l => l.length
decreasing_by
 simp_wf
 omega
theorem wdL_nil : wdL [] = .ok 0 := by rw [wdL]
theorem wdL_cons (c : UInt8) (t : List UInt8) : wdL (c :: t) = if ends c = true then .ok 0 else (sc (.st 0) (c :: t)).on (fun n => wdL (t.drop (n - 1))) := by rw [wdL]
theorem on_no {r : R} {k : Nat → R} (hr : r ≠ .opn) (hk : ∀ n, k n ≠ .opn) : r.on k ≠ .opn := by
 cases r with
 | ok n =>
  intro h
  have h2 : (k n).sh n = .opn := h
  cases hkn : k n with
  | ok m => rw [hkn] at h2; cases h2
  | bad e o => rw [hkn] at h2; cases h2
  | opn => exact hk n hkn
 | bad e o => exact fun h => by cases h
 | opn => exact absurd rfl hr
theorem wdL_no : ∀ (n : Nat) (l : List UInt8), l.length ≤ n → wdL l ≠ .opn
 | 0, l, h => by
  obtain rfl := List.eq_nil_of_length_eq_zero (show l.length = 0 by omega)
  rw [wdL_nil]
  exact fun h => by cases h
 | n + 1, [], h => by rw [wdL_nil]; exact fun h => by cases h
 | n + 1, c :: t, h => by
  rw [wdL_cons]
  rw [List.length_cons] at h
  split
  ·exact fun h => by cases h
  ·exact on_no (st_no 0 _) (fun m => wdL_no n _ (by rw [List.length_drop]; omega))
theorem wdL_le : ∀ (n : Nat) (l : List UInt8) (m : Nat), l.length ≤ n → wdL l = .ok m → m ≤ l.length
 | 0, l, m, h, h2 => by
  obtain rfl := List.eq_nil_of_length_eq_zero (show l.length = 0 by omega)
  rw [wdL_nil] at h2
  obtain rfl := R.ok.inj h2
  exact Nat.le_refl _
 | n + 1, [], m, h, h2 => by
  rw [wdL_nil] at h2
  obtain rfl := R.ok.inj h2
  exact Nat.le_refl _
 | n + 1, c :: t, m, h, h2 => by
  rw [wdL_cons] at h2
  rw [List.length_cons] at h ⊢
  split at h2
  ·obtain rfl := R.ok.inj h2
   omega
  ·obtain ⟨x, j, h3, h4, h5⟩ := R.on_ok h2
   have a := sc_in h3
   rw [List.length_cons] at a
   have b := wdL_le n _ j (by rw [List.length_drop]; omega) h4
   rw [List.length_drop] at b
   omega
theorem wdL_pos (c : UInt8) (t : List UInt8) (m : Nat) (hc : ends c = false) (h : wdL (c :: t) = .ok m) : 0 < m := by
 rw [wdL_cons, if_neg (by rw [hc]; decide)] at h
 obtain ⟨x, j, h3, h4, h5⟩ := R.on_ok h
 have a := sc_in h3
 omega
theorem ev_word [ScanC] (FS : FullS) (s : ByteArray) (hB : s.size ≤ 1099511627776) : ∀ (d i : Nat), s.size - i ≤ d → i ≤ s.size → Ev (fun k => lexer_scanner_word.l0 k (i : Int) s) (P i i (wdL (L s i))) := by
 have stop : ∀ i : Nat, Ev (fun k => lexer_scanner_word.j1 k (i : Int) false s) (P i i (.ok 0)) := by
  intro i
  refine Ev.step (f := fun _ => some (P i i (.ok 0))) (fun k => ?_) (Ev.now _)
  simp only [lexer_scanner_word.j1]
  rw [if_neg (by simp)]
  rfl
 have none_ : ∀ i : Nat, s.size ≤ i → Ev (fun k => lexer_scanner_word.l0 k (i : Int) s) (P i i (wdL (L s i))) := by
  intro i hi
  rw [L_nil s i hi, wdL_nil]
  refine Ev.step (fun k => ?_) (stop i)
  simp only [lexer_scanner_word.l0]
  rw [if_neg (by omega)]
 have Pi : ∀ (x i : Nat) (r : R), r ≠ .opn → P x i r = P i i r := by
  intro x i r hr
  cases r with
  | ok n => rfl
  | bad e o => rfl
  | opn => exact absurd rfl hr
 intro d
 induction d with
 | zero => exact fun i h1 h2 => none_ i (by omega)
 | succ d ih =>
  intro i h1 h2
  rcases Nat.lt_or_ge i s.size with hi | hi
  case inr => exact none_ i hi
  obtain ⟨c, hc, hb⟩ := L_cons s i hi
  have hs := FS s hB i hi 0 (Or.inl rfl)
  rw [hc] at hs ⊢
  rw [wdL_cons]
  have J : ∀ b : Bool, b = !(ends c) → Ev (fun k => lexer_scanner_word.j1 k (i : Int) b s) (P i i (if ends c = true then .ok 0 else (sc (.st 0) (c :: L s (i + 1))).on (fun n => wdL ((L s (i + 1)).drop (n - 1))))) := by
   intro b hbb
   by_cases he : ends c = true
   ·rw [if_pos he]
    rw [he] at hbb
    rw [hbb]
    exact stop i
   ·rw [if_neg he]
    rw [Bool.eq_false_iff.2 he] at hbb
    rw [hbb]
    refine Ev.step (fun k => ?_) (ev_on (X := fun f n => lexer_scanner_word.l0 f n s) (st_no 0 _) (a := i) (i := i) (fun n hn => ?_))
    ·simp only [lexer_scanner_word.j1]
     rw [if_pos (by rfl), hs]
    ·have b := sc_in hn
     rw [List.length_cons, L_len] at b
     rw [L_drop, show i + 1 + (n - 1) = i + n by omega, Pi i (i + n) _ (wdL_no _ _ (Nat.le_refl _))]
     exact ih (i + n) (by omega) (by omega)
  have n10 : ((c.toNat : Int) = 10) ↔ c = 10 := num c 10
  by_cases k1 : isBlk c = true
  ·refine Ev.step (fun k => ?_) (J false (by unfold ends; rw [k1]; rfl))
   simp only [lexer_scanner_word.l0]
   rw [if_pos (ilt hi), if_pos (ige i), hb, blank_eq, Option.bind_some, if_pos k1]
  ·by_cases k2 : c = 10
   ·refine Ev.step (fun k => ?_) (J false (by unfold ends; rw [k2]; rfl))
    simp only [lexer_scanner_word.l0]
    rw [if_pos (ilt hi), if_pos (ige i), hb, blank_eq, Option.bind_some, if_neg k1, if_pos (n10.2 k2)]
   ·refine Ev.step (fun k => ?_) (J (!(isOp c)) (by unfold ends; rw [Bool.eq_false_iff.2 k1, beq_false_of_ne k2]; rfl))
    simp only [lexer_scanner_word.l0]
    rw [if_pos (ilt hi), if_pos (ige i), hb, blank_eq, Option.bind_some, if_neg k1, if_neg (fun h => k2 (n10.1 h)), opByte_eq, Option.bind_some]
theorem ev_number_l0 (x : ByteArray) (hB : x.size ≤ 1099511627776) : ∀ (d i : Nat), x.size - i = d → i ≤ x.size → Ev (fun k => lexer_number.l0 k x (i : Int)) ((L x i).all isDig) := by
 intro d
 induction d with
 | zero =>
  intro i h1 h2
  rw [L_nil x i (by omega)]
  refine Ev.step (f := fun _ => some true) (fun k => ?_) (Ev.now _)
  simp only [lexer_number.l0]
  rw [if_neg (by omega)]
 | succ d ih =>
  intro i h1 h2
  have hi : i < x.size := by omega
  obtain ⟨c, hc, hb⟩ := L_cons x i hi
  rw [hc, List.all_cons]
  by_cases h : isDig c = true
  ·rw [h, Bool.true_and]
   refine Ev.step (fun k => ?_) (ih (i + 1) (by omega) (by omega))
   simp only [lexer_number.l0]
   rw [if_pos (ilt hi), if_pos (ige i), hb, digit_eq, Option.bind_some, if_pos h, wrapS (by omega)]
  ·rw [Bool.eq_false_iff.2 h, Bool.false_and]
   refine Ev.step (f := fun _ => some false) (fun k => ?_) (Ev.now _)
   simp only [lexer_number.l0]
   rw [if_pos (ilt hi), if_pos (ige i), hb, digit_eq, Option.bind_some, if_neg h]
theorem ev_number (x : ByteArray) (hB : x.size ≤ 1099511627776) : Ev (fun k => lexer_number.f k x) (x.data.toList.all isDig) := ev_number_l0 x hB _ 0 rfl (by omega)
def opF (G : List (List UInt8)) (l : List UInt8) : List UInt8 := (G.find? (fun x => decide (x <+: l))).getD []
theorem ev_operator_l0 (s : ByteArray) (ops : List ByteArray) (hm : ops.length ≤ 1000) : ∀ (d i : Nat), ops.length - i = d → i ≤ ops.length → ∃ r : ByteArray, Ev (fun k => lexer_operator.l0 k s ops (ops.length : Int) (i : Int)) r ∧ r.data.toList = opF ((ops.drop i).map (fun x => x.data.toList)) s.data.toList := by
 intro d
 induction d with
 | zero =>
  intro i h1 h2
  refine ⟨⟨#[]⟩, Ev.step (f := fun _ => some ⟨#[]⟩) (fun k => ?_) (Ev.now _), ?_⟩
  ·simp only [lexer_operator.l0]
   rw [if_neg (by omega)]
  ·rw [List.drop_of_length_le (by omega)]
   rfl
 | succ d ih =>
  intro i h1 h2
  have hi : i < ops.length := by omega
  obtain ⟨r, e1, e2⟩ := ih (i + 1) (by omega) (by omega)
  rw [dropc ops i hi, List.map_cons]
  have hp := hasPre s ops[i]
  by_cases h : ops[i].data.toList <+: s.data.toList
  ·refine ⟨ops[i], Ev.step (f := fun _ => some ops[i]) (fun k => ?_) (Ev.now _), ?_⟩
   ·simp only [lexer_operator.l0]
    rw [if_pos (ilt hi), if_pos (ige i), if_pos (ilt hi), rdo ops i hi, hp, decide_eq_true h, Option.bind_some, if_pos rfl]
   ·unfold opF
    rw [List.find?_cons_of_pos (by exact decide_eq_true h)]
    rfl
  ·refine ⟨r, Ev.step (fun k => ?_) e1, ?_⟩
   ·simp only [lexer_operator.l0]
    rw [if_pos (ilt hi), if_pos (ige i), if_pos (ilt hi), rdo ops i hi, hp, decide_eq_false h, Option.bind_some, if_neg (by simp), wrapS (by omega)]
   ·rw [e2]
    unfold opF
    rw [List.find?_cons_of_neg (by rw [decide_eq_false h]; decide)]
theorem ev_operator (s : ByteArray) : ∃ r : ByteArray, Ev (fun k => lexer_operator.f k s) r ∧ r.data.toList = opF opsL s.data.toList := by
 obtain ⟨l, hl⟩ : ∃ l, lexer_operators.f = some l := ⟨_, rfl⟩
 have hl2 := hl
 unfold lexer_operators.f at hl2
 have hl3 := Option.some.inj hl2
 obtain ⟨r, e1, e2⟩ := ev_operator_l0 s l (by rw [← hl3]; decide) _ 0 rfl (by omega)
 have hmap : (l.drop 0).map (fun x => x.data.toList) = opsL := by rw [List.drop_zero, ← hl3]; rfl
 rw [hmap] at e2
 refine ⟨r, ?_, e2⟩
 unfold lexer_operator.f
 simp only [hl, Option.bind_some]
 exact e1
theorem opF_grp (n : Nat) (l : List UInt8) : ∀ (G H : List (List UInt8)), (∀ x ∈ G, x.length = n) → opF (G ++ H) l = if n ≤ l.length ∧ l.take n ∈ G then l.take n else opF H l
 | [], H, _ => by rw [if_neg (by simp)]; rfl
 | x :: G, H, hG => by
  have ih := opF_grp n l G H (fun y hy => hG y (List.mem_cons_of_mem _ hy))
  have hx := hG x (by simp)
  by_cases h : x <+: l
  ·have e : x = l.take n := by rw [List.prefix_iff_eq_take.1 h, hx]
   have hle := h.length_le
   unfold opF
   rw [List.cons_append, List.find?_cons_of_pos (by exact decide_eq_true h), if_pos ⟨by omega, by rw [← e]; exact List.mem_cons_self⟩, ← e]
   rfl
  ·have e : opF (x :: G ++ H) l = opF (G ++ H) l := by
    unfold opF
    rw [List.cons_append, List.find?_cons_of_neg (by rw [decide_eq_false h]; decide)]
   rw [e, ih]
   have q : (n ≤ l.length ∧ l.take n ∈ x :: G) ↔ (n ≤ l.length ∧ l.take n ∈ G) := by
    rw [List.mem_cons]
    constructor
    ·rintro ⟨h1, h2 | h2⟩
     ·exact absurd (h2 ▸ List.take_prefix n l) h
     ·exact ⟨h1, h2⟩
    ·exact fun h => ⟨h.1, Or.inr h.2⟩
   by_cases hq : n ≤ l.length ∧ l.take n ∈ G
   ·rw [if_pos hq, if_pos (q.2 hq)]
   ·rw [if_neg hq, if_neg (fun h => hq (q.1 h))]
def ops3 : List (List UInt8) := [[60, 60, 45]]
def ops2 : List (List UInt8) := [[38, 38], [124, 124], [59, 59], [60, 60], [62, 62], [60, 38], [62, 38], [60, 62], [62, 124]]
def ops1 : List (List UInt8) := [[59], [38], [124], [40], [41], [60], [62]]
def opN (l : List UInt8) : Nat := if 3 ≤ l.length ∧ l.take 3 ∈ ops3 then 3 else if 2 ≤ l.length ∧ l.take 2 ∈ ops2 then 2 else if 1 ≤ l.length ∧ l.take 1 ∈ ops1 then 1 else 0
theorem opF_len (l : List UInt8) : opF opsL l = l.take (opN l) ∧ opN l ≤ l.length := by
 have e : opsL = ops3 ++ (ops2 ++ (ops1 ++ [])) := rfl
 rw [e, opF_grp 3 l ops3 _ (by decide), opF_grp 2 l ops2 _ (by decide), opF_grp 1 l ops1 _ (by decide)]
 unfold opN
 split
 ·rename_i h; exact ⟨rfl, h.1⟩
 ·split
  ·rename_i h; exact ⟨rfl, h.1⟩
  ·split
   ·rename_i h; exact ⟨rfl, h.1⟩
   ·exact ⟨rfl, Nat.zero_le _⟩
theorem extr2 (s : ByteArray) (i n : Nat) (h : i + n ≤ s.size) : (s.extract i (i + n)).data.toList = (L s i).take n := by
 have e : (s.extract i (i + n)).data = s.data.extract i (i + n) := by simp
 rw [e, Array.toList_extract, List.extract_eq_take_drop, show i + n - i = n by omega]
 rfl
end
section
theorem skp_idem : ∀ (n : Nat) (l : List UInt8), l.length ≤ n → skp (l.drop (skp l)) = 0
 | 0, l, h => by
  obtain rfl := List.eq_nil_of_length_eq_zero (show l.length = 0 by omega)
  rw [List.drop_nil, skp_nil]
 | n + 1, [], h => by rw [List.drop_nil, skp_nil]
 | n + 1, c :: t, h => by
  rw [List.length_cons] at h
  obtain ⟨z, hz⟩ : ∃ z, skp (c :: t) = z := ⟨_, rfl⟩
  rw [hz]
  have hz2 := hz
  rw [skp_cons] at hz
  split at hz
  ·subst hz
   exact skp_idem n t (by omega)
  ·split at hz
   ·rename_i hh
    subst hz
    cases t with
    | nil => exact absurd hh.2 (by simp)
    | cons e v =>
     rw [List.length_cons] at h
     exact skp_idem n v (by omega)
   ·split at hz
    ·cases hf : fnd 10 t with
     | none =>
      rw [hf] at hz
      subst hz
      rw [List.drop_of_length_le (by rw [List.length_cons]; exact Nat.le_refl _), skp_nil]
     | some m =>
      rw [hf] at hz
      subst hz
      exact skp_nl t m hf
    ·subst hz
     exact hz2
theorem skp_zero (s : ByteArray) (A : Nat) : skp (L s (A + skp (L s A))) = 0 := by
 rw [← L_drop]
 exact skp_idem _ _ (Nat.le_refl _)
theorem op_one (c : UInt8) (t : List UInt8) (h : opN (c :: t) = 0) : isOp c = false := by
 unfold opN at h
 split at h
 ·cases h
 ·split at h
  ·cases h
  ·split at h
   ·cases h
   ·rename_i h1
    have n1 : ¬ [c] ∈ ops1 := fun h => h1 ⟨by simp, h⟩
    have := all_bytes (fun c => !(isOp c) || decide ([c] ∈ ops1)) (by decide +kernel) c
    rw [decide_eq_false n1] at this
    simpa using this
def nextF (s : ByteArray) (i : Nat) : Int × Int × Int × ByteArray × Int :=
 if (L s i).head? = none then (5, (i : Int), (i : Int), ⟨#[]⟩, 0)
 else if (L s i).head? = some 10 then (3, (i : Int), ((i + 1 : Nat) : Int), s.extract i (i + 1), 0)
 else if opN (L s i) ≠ 0 then (2, (i : Int), ((i + opN (L s i) : Nat) : Int), s.extract i (i + opN (L s i)), 0)
 else match wdL (L s i) with
  | .ok m => (if ((L s (i + m)).head? = some 60 ∨ (L s (i + m)).head? = some 62) ∧ ((L s i).take m).all isDig = true then 4 else 1, (i : Int), ((i + m : Nat) : Int), s.extract i (i + m), 0)
  | .bad e o => (0, ((i + o : Nat) : Int), 0, ⟨#[]⟩, en e)
  | .opn => (0, 0, 0, ⟨#[]⟩, 0)
theorem nextF_end (s : ByteArray) (i : Nat) (h : L s i = []) : nextF s i = (5, (i : Int), (i : Int), ⟨#[]⟩, 0) := by
 unfold nextF
 rw [h, if_pos (show ([] : List UInt8).head? = none from rfl)]
theorem nextF_nl (s : ByteArray) (i : Nat) (h : (L s i).head? = some 10) : nextF s i = (3, (i : Int), ((i + 1 : Nat) : Int), s.extract i (i + 1), 0) := by
 unfold nextF
 rw [h, if_neg (show ¬ (some (10 : UInt8) = none) by simp), if_pos rfl]
theorem nextF_op (s : ByteArray) (i : Nat) (c : UInt8) (hc : (L s i).head? = some c) (h : ¬ c = 10) (ho : opN (L s i) ≠ 0) : nextF s i = (2, (i : Int), ((i + opN (L s i) : Nat) : Int), s.extract i (i + opN (L s i)), 0) := by
 unfold nextF
 rw [hc, if_neg (show ¬ (some c = none) by simp), if_neg (fun e => h (Option.some.inj e)), if_pos ho]
def kdN (s : ByteArray) (i m : Nat) : Int := if ((L s (i + m)).head? = some 60 ∨ (L s (i + m)).head? = some 62) ∧ ((L s i).take m).all isDig = true then 4 else 1
theorem nextF_wd (s : ByteArray) (i : Nat) (c : UInt8) (hc : (L s i).head? = some c) (h : ¬ c = 10) (ho : opN (L s i) = 0) (m : Nat) (hw : wdL (L s i) = .ok m) : nextF s i = (kdN s i m, (i : Int), ((i + m : Nat) : Int), s.extract i (i + m), 0) := by
 unfold nextF
 rw [hc, if_neg (show ¬ (some c = none) by simp), if_neg (fun e => h (Option.some.inj e)), if_neg (fun e => e ho), hw]
 rfl
theorem nextF_bad (s : ByteArray) (i : Nat) (c : UInt8) (hc : (L s i).head? = some c) (h : ¬ c = 10) (ho : opN (L s i) = 0) (e : Bool) (o : Nat) (hw : wdL (L s i) = .bad e o) : nextF s i = (0, ((i + o : Nat) : Int), 0, ⟨#[]⟩, en e) := by
 unfold nextF
 rw [hc, if_neg (show ¬ (some c = none) by simp), if_neg (fun e => h (Option.some.inj e)), if_neg (fun e => e ho), hw]
theorem mk_size (l : List UInt8) (x : ByteArray) (h : x.data.toList = l) : x.size = l.length := by rw [← dl_len, h]
section
variable [ScanC] (FS : FullS) (s : ByteArray) (hB : s.size ≤ 16384) (a : Int) (i : Nat) (hi : i ≤ s.size)
include FS hB hi
theorem ev_Next (hz : skp (L s i) = 0) (hs : Ev (fun k => lexer_Skip.f k s a) (i : Int)) : Ev (fun k => lexer_Next.f k s a) (nextF s i) := by
 have hB2 : s.size ≤ 1099511627776 := by omega
 have c1 : ¬ (s.size : Int) > 16384 := by omega
 unfold lexer_Next.f
 simp only [if_neg c1]
 refine Ev.bind hs ?_
 have il : (i : Int) ≤ (s.size : Int) := by omega
 rcases Nat.lt_or_ge i s.size with hlt | hge
 case inr =>
  have cn : ¬ (i : Int) < (s.size : Int) := by omega
  have e : nextF s i = (5, (i : Int), (i : Int), s.extract ((i : Int)).toNat ((i : Int)).toNat, 0) := by
   rw [nextF_end s i (L_nil s i hge), ext_self]
   rfl
  rw [e]
  simp only [if_neg cn, if_pos (ige i), if_pos (Int.le_refl (i : Int)), if_pos il]
  exact Ev.now _
 have W1 := Aside0.mk (wrapS (show i < 9223372036854775807 by omega))
 obtain ⟨c, hc, hb⟩ := L_cons s i hlt
 obtain ⟨t, ht⟩ : ∃ t, L s (i + 1) = t := ⟨_, rfl⟩
 rw [ht] at hc
 obtain ⟨o, o1, o2⟩ := ev_operator (s.extract ((i : Int)).toNat s.size)
 rw [Int.toNat_natCast, extr] at o2
 obtain ⟨f1, f2⟩ := opF_len (L s i)
 rw [f1] at o2
 have osz := mk_size _ o o2
 rw [List.length_take, Nat.min_eq_left f2] at osz
 have ll := L_len s i
 have n10 : ((c.toNat : Int) = 10) ↔ c = 10 := num c 10
 have W : wrap64 ((i : Int) + (o.size : Int)) = ((i + o.size : Nat) : Int) := wrapK (i := i) o.size (by omega)
 have WO := Aside0.mk W
 clear W
 simp only [if_pos (ilt hlt), if_pos (ige i), if_pos il, W1.out]
 refine Ev.bind o1 ?_
 have hh : (L s i).head? = some c := by rw [hc]; rfl
 by_cases h10 : c = 10
 ·have e10 : bt s (i : Int) = 10 := by rw [hb]; exact n10.2 h10
  have d1 : (i : Int) ≤ ((i + 1 : Nat) : Int) := by omega
  have d2 : ((i + 1 : Nat) : Int) ≤ (s.size : Int) := by omega
  rw [nextF_nl s i (by rw [hh, h10])]
  simp only [if_pos e10, if_pos d1, if_pos d2, Int.toNat_natCast]
  exact Ev.now _
 ·have n10' : ¬ bt s (i : Int) = 10 := by rw [hb]; exact fun h => h10 (n10.1 h)
  simp only [if_neg n10']
  by_cases ho : opN (L s i) = 0
  ·have ot : o.toList = ([] : List UInt8) := by
    rw [Go.ByteArray.toList_eq, o2, ho]
    rfl
   simp only [if_pos ot]
   have E := ev_word FS s hB2 _ i (Nat.le_refl _) hi
   refine Ev.bind E ?_
   cases hw : wdL (L s i) with
   | opn => exact absurd hw (wdL_no _ _ (Nat.le_refl _))
   | bad e of =>
    have ne : ¬ (P i i (.bad e of)).2.1 = 0 := en_ne e
    rw [nextF_bad s i c hh h10 ho e of hw]
    simp only [if_neg ne]
    exact Ev.now _
   | ok m =>
    have ml := wdL_le _ _ m (Nat.le_refl _) hw
    rw [nextF_wd s i c hh h10 ho m hw]
    have z0 : (P i i (.ok m)).2.1 = 0 := rfl
    have z1 : (P i i (.ok m)).1 = ((i + m : Nat) : Int) := rfl
    have ie : (i : Int) ≤ ((i + m : Nat) : Int) := by omega
    have es : ((i + m : Nat) : Int) ≤ (s.size : Int) := by omega
    simp only [if_pos z0, z1]
    have J : ∀ b : Bool, (b = true ↔ (((L s (i + m)).head? = some 60 ∨ (L s (i + m)).head? = some 62) ∧ ((L s i).take m).all isDig = true)) → Ev (fun k => lexer_Next.j0 k s (i : Int) 1 ((i + m : Nat) : Int) b) (kdN s i m, (i : Int), ((i + m : Nat) : Int), s.extract i (i + m), 0) := by
     intro b hbb
     by_cases hbt : b = true
     ·rw [show kdN s i m = 4 by unfold kdN; rw [if_pos (hbb.1 hbt)]]
      refine Ev.step (f := fun _ => some (4, (i : Int), ((i + m : Nat) : Int), s.extract i (i + m), 0)) (fun k => ?_) (Ev.now _)
      simp only [lexer_Next.j0]
      rw [if_pos hbt, if_pos (ige i), if_pos ie, if_pos es, Int.toNat_natCast, Int.toNat_natCast]
     ·rw [show kdN s i m = 1 by unfold kdN; rw [if_neg (fun h => hbt (hbb.2 h))]]
      refine Ev.step (f := fun _ => some (1, (i : Int), ((i + m : Nat) : Int), s.extract i (i + m), 0)) (fun k => ?_) (Ev.now _)
      simp only [lexer_Next.j0]
      rw [if_neg hbt, if_pos (ige i), if_pos ie, if_pos es, Int.toNat_natCast, Int.toNat_natCast]
    have xd : (s.extract i (i + m)).data.toList = (L s i).take m := extr2 s i m (by omega)
    have xs := mk_size _ _ xd
    rw [List.length_take] at xs
    have N := ev_number (s.extract i (i + m)) (by omega)
    rw [xd] at N
    rcases Nat.lt_or_ge (i + m) s.size with he | he
    ·obtain ⟨c2, hc2, hb2⟩ := L_cons s (i + m) he
     have q60 : ((c2.toNat : Int) = 60) ↔ c2 = 60 := num c2 60
     have q62 : ((c2.toNat : Int) = 62) ↔ c2 = 62 := num c2 62
     rw [hc2, List.head?_cons] at J
     simp only [if_pos (ilt he), if_pos (ige _), hb2, Int.toNat_natCast]
     by_cases h60 : c2 = 60
     ·simp only [if_pos (q60.2 h60), if_pos ie, if_pos es]
      exact Ev.bind N (J _ ⟨fun h => ⟨Or.inl (by rw [h60]), h⟩, fun h => h.2⟩)
     ·simp only [if_neg (fun h => h60 (q60.1 h))]
      by_cases h62 : c2 = 62
      ·simp only [if_pos (q62.2 h62), if_pos ie, if_pos es]
       exact Ev.bind N (J _ ⟨fun h => ⟨Or.inr (by rw [h62]), h⟩, fun h => h.2⟩)
      ·simp only [if_neg (fun h => h62 (q62.1 h))]
       exact J false ⟨fun h => (by cases h), fun h => h.1.elim (fun h => absurd (Option.some.inj h) h60) (fun h => absurd (Option.some.inj h) h62)⟩
    ·have cn : ¬ ((i + m : Nat) : Int) < (s.size : Int) := by omega
     rw [L_nil s (i + m) he] at J
     simp only [if_neg cn]
     exact J false ⟨fun h => (by cases h), fun h => h.1.elim (fun h => by cases h) (fun h => by cases h)⟩
  ·rw [nextF_op s i c hh h10 ho]
   have on : ¬ o.toList = ([] : List UInt8) := by
    rw [Go.ByteArray.toList_eq]
    intro h
    have := dl_len o
    rw [h] at this
    simp at this
    omega
   have d1 : (i : Int) ≤ ((i + o.size : Nat) : Int) := by omega
   have d2 : ((i + o.size : Nat) : Int) ≤ (s.size : Int) := by omega
   simp only [if_neg on, WO.out, if_pos d1, if_pos d2, Int.toNat_natCast]
   rw [osz]
   exact Ev.now _
end
section
variable [ScanC] (FP : FullP) (s : ByteArray) (hB : s.size ≤ 16384) (a : Int) (i : Nat) (hi : i ≤ s.size)
include FP hB hi
end
end
section
theorem nextF_cases (s : ByteArray) (i : Nat) (hi : i ≤ s.size) (hz : skp (L s i) = 0) :
  (∃ (e : Nat) (k : Int), i < e ∧ e ≤ s.size ∧ k ≠ 5 ∧ nextF s i = (k, (i : Int), (e : Int), s.extract i e, 0)) ∨ (i = s.size ∧ nextF s i = (5, (i : Int), (i : Int), ⟨#[]⟩, 0)) ∨ (∃ (o : Nat) (b : Bool), nextF s i = (0, (o : Int), 0, ⟨#[]⟩, en b)) := by
 rcases Nat.lt_or_ge i s.size with hlt | hge
 case inr => exact Or.inr (Or.inl ⟨by omega, nextF_end s i (L_nil s i hge)⟩)
 obtain ⟨c, hc, hb⟩ := L_cons s i hlt
 have hh : (L s i).head? = some c := by rw [hc]; rfl
 have ll := L_len s i
 by_cases h10 : c = 10
 ·exact Or.inl ⟨i + 1, 3, by omega, by omega, by decide, nextF_nl s i (by rw [hh, h10])⟩
 ·by_cases ho : opN (L s i) = 0
  ·cases hw : wdL (L s i) with
   | opn => exact absurd hw (wdL_no _ _ (Nat.le_refl _))
   | bad e o => exact Or.inr (Or.inr ⟨i + o, e, nextF_bad s i c hh h10 ho e o hw⟩)
   | ok m =>
    have ml := wdL_le _ _ m (Nat.le_refl _) hw
    have mp : 0 < m := by
     rw [hc] at hw ho hz
     refine wdL_pos c _ m ?_ hw
     have b1 : isBlk c = false := by
      rw [skp_cons] at hz
      by_cases hbk : isBlk c = true
      ·rw [if_pos hbk] at hz; cases hz
      ·exact Bool.eq_false_iff.2 hbk
     unfold ends
     rw [b1, beq_false_of_ne h10, op_one c _ ho]
     rfl
    refine Or.inl ⟨i + m, kdN s i m, by omega, by omega, ?_, nextF_wd s i c hh h10 ho m hw⟩
    unfold kdN
    split <;> decide
  ·obtain ⟨_, f2⟩ := opF_len (L s i)
   exact Or.inl ⟨i + opN (L s i), 2, by omega, by omega, by decide, nextF_op s i c hh h10 ho⟩
def allF (s : ByteArray) : Nat → Nat → List S32 → List S32 × Int × Int
 | 0, _, acc => (acc, 0, 0)
 | n + 1, a, acc =>
  if (nextF s (a + skp (L s a))).2.2.2.2 = 0 then
   if (nextF s (a + skp (L s a))).1 = 5 then (acc ++ [⟨(nextF s (a + skp (L s a))).1, (nextF s (a + skp (L s a))).2.1, (nextF s (a + skp (L s a))).2.2.1, (nextF s (a + skp (L s a))).2.2.2.1⟩], 0, 0)
   else allF s n (nextF s (a + skp (L s a))).2.2.1.toNat (acc ++ [⟨(nextF s (a + skp (L s a))).1, (nextF s (a + skp (L s a))).2.1, (nextF s (a + skp (L s a))).2.2.1, (nextF s (a + skp (L s a))).2.2.2.1⟩])
  else ([], (nextF s (a + skp (L s a))).2.1, (nextF s (a + skp (L s a))).2.2.2.2)
theorem skip_le (s : ByteArray) (a : Nat) (ha : a ≤ s.size) : a + skp (L s a) ≤ s.size := by
 have hl := skp_le _ (L s a) (Nat.le_refl _)
 rw [L_len] at hl
 omega
theorem ev_All [ScanC] (FS : FullS) (s : ByteArray) (hB : s.size ≤ 16384) : ∀ (n a : Nat) (acc : List S32), s.size + 1 - a ≤ n → a ≤ s.size → acc.length ≤ a → Ev (fun k => lexer_All.l0 k s acc (a : Int)) (allF s n a acc) := by
 intro n
 induction n with
 | zero => intro a acc h1 h2; omega
 | succ n ih =>
  intro a acc h1 h2 h3
  have hsk := skip_le s a h2
  have N := ev_Next FS s hB (a : Int) (a + skp (L s a)) hsk (skp_zero s a) (ev_Skip s (by omega) a h2)
  have ac : acc.length < 3518437208883 := by omega
  refine Ev.step (fun k => by simp only [lexer_All.l0]; rfl) (Ev.bind N ?_)
  rw [allF]
  rcases nextF_cases s (a + skp (L s a)) hsk (skp_zero s a) with ⟨e, k, e1, e2, e3, e4⟩ | ⟨e1, e4⟩ | ⟨o, b, e4⟩
  ·rw [e4]
   simp only [if_pos ac, Option.bind_some, if_neg e3, if_true, Int.toNat_natCast]
   exact ih e _ (by omega) e2 (by rw [List.length_append]; simp; omega)
  ·rw [e4]
   simp only [if_pos ac, Option.bind_some, if_true]
   exact Ev.now _
  ·rw [e4]
   simp only [if_neg (en_ne b)]
   exact Ev.now _
theorem allF_len (s : ByteArray) : ∀ (n a : Nat) (acc : List S32), (allF s n a acc).1.length ≤ acc.length + n
 | 0, a, acc => Nat.le_refl _
 | n + 1, a, acc => by
  rw [allF]
  split
  ·split
   ·simp
   ·have := allF_len s n (nextF s (a + skp (L s a))).2.2.1.toNat (acc ++ [⟨(nextF s (a + skp (L s a))).1, (nextF s (a + skp (L s a))).2.1, (nextF s (a + skp (L s a))).2.2.1, (nextF s (a + skp (L s a))).2.2.2.1⟩])
    rw [List.length_append] at this
    simp at this
    omega
  ·simp
end
end Go.Proofs.Ythoanbjklgoggaa.PAll
