/- The scanner, plain: what both sides answer, told over what is left of the text. -/
import Derived.Test.YthoanbjklgoggaaPAllx3
namespace Go.Proofs.Ythoanbjklgoggaa.PAll
open Go.RowKit Go.Proofs.YthoanbjklgoggaaW.PrintWords Go.Proofs.YthoanbjklgoggaaW.PrintLast
set_option linter.unusedVariables false
set_option linter.unusedSimpArgs false
/-! Numbers and texts. -/
theorem wrapS {i : Nat} (h : i < 9223372036854775807) : wrap64 ((i : Int) + 1) = ((i + 1 : Nat) : Int) := by unfold wrap64; omega
theorem wrapK {i : Nat} (j : Nat) (h : i + j ≤ 9223372036854775807) : wrap64 ((i : Int) + (j : Int)) = ((i + j : Nat) : Int) := by unfold wrap64; omega
theorem wrapM {n : Nat} (h : n > 0) (hm : n ≤ 9223372036854775807) : wrap64 ((n : Int) - 1) = ((n - 1 : Nat) : Int) := by unfold wrap64; omega
theorem ilt {i n : Nat} (h : i < n) : (i : Int) < (n : Int) := by omega
theorem ile {i n : Nat} (h : i ≤ n) : (i : Int) ≤ (n : Int) := by omega
theorem ige (i : Nat) : (0 : Int) ≤ (i : Int) := by omega
theorem dropc {α : Type} (l : List α) (i : Nat) (h : i < l.length) : l.drop i = l[i] :: l.drop (i + 1) := List.drop_eq_getElem_cons h
theorem dl_len (a : ByteArray) : a.data.toList.length = a.size := by rw [Array.length_toList]; rfl
theorem ba_ext {a b : ByteArray} (h : a.data.toList = b.data.toList) : a = b := by
  cases a; cases b
  congr
  exact Array.toList_inj.1 h
theorem tl_eq {a b : ByteArray} : a.toList = b.toList ↔ a.data.toList = b.data.toList := by rw [Go.ByteArray.toList_eq, Go.ByteArray.toList_eq]
theorem bt_nat (s : ByteArray) (i : Nat) (h : i < s.size) : bt s (i : Int) = ((s.data.toList[i]'(by rw [dl_len]; exact h)).toNat : Int) := by
  unfold bt
  rw [Int.toNat_natCast]
  congr 1
  simp [ByteArray.get!, getElem!_def, h]
  rfl
theorem num (c n : UInt8) : ((c.toNat : Int) = (n.toNat : Int)) ↔ c = n := ⟨fun h => UInt8.toNat_inj.1 (by omega), fun h => by rw [h]⟩
/-- The text from a place on. -/
def L (s : ByteArray) (i : Nat) : List UInt8 := s.data.toList.drop i
theorem L_cons (s : ByteArray) (i : Nat) (h : i < s.size) : ∃ c, L s i = c :: L s (i + 1) ∧ bt s (i : Int) = (c.toNat : Int) :=
  ⟨_, dropc _ i (by rw [dl_len]; exact h), bt_nat s i h⟩
theorem L_nil (s : ByteArray) (i : Nat) (h : s.size ≤ i) : L s i = [] := List.drop_of_length_le (by rw [dl_len]; exact h)
theorem L_len (s : ByteArray) (i : Nat) : (L s i).length = s.size - i := by unfold L; rw [List.length_drop, dl_len]
theorem L_drop (s : ByteArray) (i n : Nat) : (L s i).drop n = L s (i + n) := by unfold L; rw [List.drop_drop]
theorem extr (s : ByteArray) (i : Nat) : (s.extract i s.size).data.toList = L s i := by
  have e : (s.extract i s.size).data = s.data.extract i s.size := by simp
  rw [e, Array.toList_extract, List.extract_eq_take_drop]
  unfold L
  rw [List.take_of_length_le (by rw [List.length_drop, dl_len]; exact Nat.le_refl _)]
/-! Bytes. -/
def isLet (c : UInt8) : Bool := (97 ≤ c && c ≤ 122) || (65 ≤ c && c ≤ 90) || c == 95
def isDig (c : UInt8) : Bool := 48 ≤ c && c ≤ 57
def isBlk (c : UInt8) : Bool := c == 32 || c == 9
def isOp (c : UInt8) : Bool := c == 38 || c == 124 || c == 59 || c == 40 || c == 41 || c == 60 || c == 62
def isSpc (c : UInt8) : Bool := c == 64 || c == 42 || c == 35 || c == 63 || c == 45 || c == 36 || c == 33
theorem all_bytes (p : UInt8 → Bool) (h : ∀ n : Fin 256, p (UInt8.ofNat n.val) = true) (c : UInt8) : p c = true := by
  have := h ⟨c.toNat, c.toNat_lt⟩
  have e : UInt8.ofNat c.toNat = c := UInt8.ofNat_toNat
  rw [e] at this
  exact this
theorem letter_eq (c : UInt8) : lexer_letter.f (c.toNat : Int) = some (isLet c) := by
  have := all_bytes (fun c => lexer_letter.f (c.toNat : Int) == some (isLet c)) (by decide +kernel) c
  exact eq_of_beq this
theorem digit_eq (c : UInt8) : lexer_digit.f (c.toNat : Int) = some (isDig c) := by
  have := all_bytes (fun c => lexer_digit.f (c.toNat : Int) == some (isDig c)) (by decide +kernel) c
  exact eq_of_beq this
theorem blank_eq (c : UInt8) : lexer_blank.f (c.toNat : Int) = some (isBlk c) := by
  have := all_bytes (fun c => lexer_blank.f (c.toNat : Int) == some (isBlk c)) (by decide +kernel) c
  exact eq_of_beq this
theorem opByte_eq (c : UInt8) : lexer_operatorByte.f (c.toNat : Int) = some (isOp c) := by
  have := all_bytes (fun c => lexer_operatorByte.f (c.toNat : Int) == some (isOp c)) (by decide +kernel) c
  exact eq_of_beq this
theorem special_eq (c : UInt8) : (strings_IndexByte.f (⟨#[64, 42, 35, 63, 45, 36, 33, 123, 40]⟩ : ByteArray) (c.toNat : Int)).bind (fun t => some (decide (t ≥ 0))) = some (isSpc c || c == 123 || c == 40) := by
  have := all_bytes (fun c => (strings_IndexByte.f (⟨#[64, 42, 35, 63, 45, 36, 33, 123, 40]⟩ : ByteArray) (c.toNat : Int)).bind (fun t => some (decide (t ≥ 0))) == some (isSpc c || c == 123 || c == 40)) (by decide +kernel) c
  exact eq_of_beq this
/-- The first place of a byte. -/
def fnd (b : UInt8) : List UInt8 → Option Nat
  | [] => none
  | c :: t => if c = b then some 0 else (fnd b t).map (· + 1)
theorem fnd_idx (b : UInt8) : ∀ l : List UInt8, Lib.indexByte l b = match fnd b l with | none => -1 | some n => (n : Int)
  | [] => rfl
  | c :: t => by
    have ih := fnd_idx b t
    rw [Lib.indexByte, fnd]
    by_cases h : c = b
    · rw [if_pos h, if_pos (by rw [h]; exact beq_self_eq_true b)]
      rfl
    · rw [if_neg h, if_neg (by simpa using h), ih]
      cases fnd b t with
      | none => rfl
      | some n =>
        have e : ((n : Int) == -1) = false := by rw [beq_eq_false_iff_ne]; omega
        dsimp only [Option.map_some]
        rw [e]
        rfl
theorem fnd_le (b : UInt8) : ∀ (l : List UInt8) (n : Nat), fnd b l = some n → n < l.length
  | [], n, h => by cases h
  | c :: t, n, h => by
    rw [fnd] at h
    split at h
    · obtain rfl := Option.some.inj h
      simp
    · cases ht : fnd b t with
      | none => rw [ht] at h; cases h
      | some m =>
        rw [ht] at h
        obtain rfl := Option.some.inj h
        have := fnd_le b t m ht
        dsimp only
        rw [List.length_cons]
        omega
/-! Results: so many bytes; an error so far on; not closed. -/
inductive R where
  | ok (n : Nat)
  | bad (e : Bool) (o : Nat)
  | opn
def R.sh (n : Nat) : R → R
  | .ok m => .ok (n + m)
  | .bad e o => .bad e (n + o)
  | .opn => .opn
def R.wr (n : Nat) : R → R
  | .ok m => .ok (n + m)
  | .bad e o => .bad e (n + o)
  | .opn => .bad false 0
/-- The rest of a backquoted text. -/
def bq : List UInt8 → R
  | [] => .opn
  | [c] => if c = 96 then .ok 1 else if c = 92 then .bad false 0 else .opn
  | c :: d :: t => if c = 96 then .ok 1 else if c = 92 then (bq t).sh 2 else (bq (d :: t)).sh 1
/-- How many letters and digits lead. -/
def nameL : List UInt8 → Nat
  | [] => 0
  | c :: t => if isLet c || isDig c then nameL t + 1 else 0
inductive Md where
  | st (p : Int)
  | db
  | br (p : Int)
  | ar (d : Nat)
  | cm (d : Nat) (b : Bool)
def Md.rk : Md → Nat
  | .st _ => 0
  | _ => 1
/-- One construct, or one byte; and the loops within constructs. -/
def sc : Md → List UInt8 → R
  | .st p, [] => .bad false 0
  | .st p, c :: t =>
    if c = 92 then (if t = [] then .bad false 0 else .ok 2)
    else if c = 96 then (bq t).wr 1
    else if c = 36 then
      match t with
      | [] => .ok 1
      | d :: u =>
        if d = 123 then (sc (.br p) u).wr 2
        else if d = 40 then (if u.head? = some 40 then (sc (.ar 0) u.tail).wr 3 else (sc (.cm 0 true) u).wr 2)
        else if isLet d then .ok (1 + nameL (d :: u))
        else if isDig d || isSpc d then .ok 2
        else .ok 1
    else if c = 39 ∧ p = 0 then (match fnd 39 t with | none => .bad false 0 | some n => .ok (n + 2))
    else if c = 34 ∧ p = 0 then (sc .db t).wr 1
    else .ok 1
  | .db, [] => .opn
  | .db, c :: t =>
    if c = 34 then .ok 1
    else match sc (.st 1) (c :: t) with
      | .ok n => (sc .db (t.drop (n - 1))).sh n
      | .bad e o => .bad e o
      | .opn => .opn
  | .br p, [] => .opn
  | .br p, c :: t =>
    if c = 125 then .ok 1
    else if c = 34 ∧ p = 1 then .bad true 0
    else match sc (.st p) (c :: t) with
      | .ok n => (sc (.br p) (t.drop (n - 1))).sh n
      | .bad e o => .bad e o
      | .opn => .opn
  | .ar d, [] => .opn
  | .ar d, c :: t =>
    if c = 41 ∧ d = 0 then (if t = [] then .opn else if t.head? = some 41 then .ok 2 else .bad true 0)
    else match sc (.st 2) (c :: t) with
      | .ok n => (sc (.ar (if c = 40 then d + 1 else if c = 41 then d - 1 else d)) (t.drop (n - 1))).sh n
      | .bad e o => .bad e o
      | .opn => .opn
  | .cm d b, [] => .opn
  | .cm d b, c :: t =>
    if c = 35 ∧ b = true then
      match fnd 10 t with
      | none => .opn
      | some n => (sc (.cm d b) (t.drop n)).sh (n + 1)
    else if c = 92 ∧ t.head? = some 10 then (sc (.cm d b) t.tail).sh 2
    else if c = 41 ∧ d = 0 then .ok 1
    else match sc (.st 0) (c :: t) with
      | .ok n => (sc (.cm (if c = 40 then d + 1 else if c = 41 then d - 1 else d) (isBlk c || c == 10 || isOp c)) (t.drop (n - 1))).sh n
      | .bad e o => .bad e o
      | .opn => .opn
termination_by md l => 2 * l.length + md.rk
decreasing_by
  all_goals simp_wf
  all_goals (try simp only [Md.rk, List.length_drop, List.length_tail])
  all_goals omega
end Go.Proofs.Ythoanbjklgoggaa.PAll
