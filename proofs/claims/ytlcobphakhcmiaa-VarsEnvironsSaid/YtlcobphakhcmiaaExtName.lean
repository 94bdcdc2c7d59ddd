/- chars.Name, by hand: it ranges over a string. Its contract in the form of the printed ones. -/
import Derived.Test.YtlcobphakhcmiaaPAllx0
import Derived.Laws.RangeString
import Derived.Laws.RangeAny
namespace Go.Proofs.Ytlcobphakhcmiaa.PAll
open Go.RowKit Go.Proofs.YtlcobphakhcmiaaW.PrintWords Go.Proofs.YtlcobphakhcmiaaW.PrintLast Go.Proofs.YtlcobphakhcmiaaW.PrintMore
set_option linter.unusedVariables false

/-- A letter's rune. -/
def letB (c : Int) : Bool := decide (97 ≤ c ∧ c ≤ 122 ∨ 65 ≤ c ∧ c ≤ 90)
def digB (c : Int) : Bool := decide (48 ≤ c ∧ c ≤ 57)
/-- May this byte stand at place i of a name? -/
def nmOk (i : Nat) (c : Int) : Bool := c == 95 || letB c || (i != 0 && digB c)
/-- The walk's own reckoning from place i on; n: what is left. -/
def nmFrom (s : ByteArray) : Nat → Nat → Bool
  | 0, _ => true
  | n + 1, i => nmOk i (bt s i) && nmFrom s n (i + 1)
def nameB (s : ByteArray) : Bool := decide (0 < s.size) && decide (s.size ≤ 32) && nmFrom s s.size 0
def chars_Name.f (a0 : ByteArray) : Option Bool := some (nameB a0)

theorem isLet_yes (c : Int) (w : World) (h : letB c = true) : Calls Try.prog 37 #[.int .i32 c] w fun e w' => e = .returned (.bool true) ∧ w = w' := by
  have h := of_decide_eq_true h
  rcases h with ⟨h1, h2⟩ | ⟨h1, h2⟩
  · go_enter Try.func37, Try.ntmps37
    go_wp2
    go_ret
    exact ⟨rfl, rfl⟩
  · go_enter Try.func37, Try.ntmps37
    go_wp2
    go_ret
    exact ⟨rfl, rfl⟩
theorem isLet_no (c : Int) (w : World) (h : letB c = false) : Calls Try.prog 37 #[.int .i32 c] w fun e w' => e = .returned (.bool false) ∧ w = w' := by
  have h := of_decide_eq_false h
  by_cases h1 : 97 ≤ c
  · have h2 : ¬ c ≤ 122 := by omega
    have h3 : ¬ c ≤ 90 := by omega
    have h4 : 65 ≤ c := by omega
    clear h
    go_enter Try.func37, Try.ntmps37
    go_wp2
    go_ret
    exact ⟨rfl, rfl⟩
  · by_cases h4 : 65 ≤ c
    · have h3 : ¬ c ≤ 90 := by omega
      clear h
      go_enter Try.func37, Try.ntmps37
      go_wp2
      go_ret
      exact ⟨rfl, rfl⟩
    · clear h
      go_enter Try.func37, Try.ntmps37
      go_wp2
      go_ret
      exact ⟨rfl, rfl⟩
theorem isDig_yes (c : Int) (w : World) (h : digB c = true) : Calls Try.prog 38 #[.int .i32 c] w fun e w' => e = .returned (.bool true) ∧ w = w' := by
  have h := of_decide_eq_true h
  obtain ⟨h1, h2⟩ := h
  go_enter Try.func38, Try.ntmps38
  go_wp2
  go_ret
  exact ⟨rfl, rfl⟩
theorem isDig_no (c : Int) (w : World) (h : digB c = false) : Calls Try.prog 38 #[.int .i32 c] w fun e w' => e = .returned (.bool false) ∧ w = w' := by
  have h := of_decide_eq_false h
  by_cases h1 : 48 ≤ c
  · have h2 : ¬ c ≤ 57 := by omega
    clear h
    go_enter Try.func38, Try.ntmps38
    go_wp2
    go_ret
    exact ⟨rfl, rfl⟩
  · clear h
    go_enter Try.func38, Try.ntmps38
    go_wp2
    go_ret
    exact ⟨rfl, rfl⟩

theorem below_iter (w : World) (s : ByteArray) (pos : Nat) : Below w.heap.size w (w.iter s pos) := below_alloc (Below.refl _ _) _
theorem nmFrom_snoc (s : ByteArray) (n i : Nat) : nmFrom s (n + 1) i = (nmOk i (bt s i) && nmFrom s n (i + 1)) := rfl
theorem bt_nat (s : ByteArray) (i : Nat) (h : i < s.size) : bt s i = ((s[i]'h).toNat : Int) := by
  have := bt_at s (i : Int) (by simpa using h)
  simpa using this.symm
theorem nm_high {c : Int} (h : 128 ≤ c) : (c == 95) = false ∧ letB c = false ∧ digB c = false := by
  refine ⟨beq_eq_false_iff_ne.2 (by omega), decide_eq_false (by omega), decide_eq_false (by omega)⟩

set_option maxRecDepth 1000000 in
set_option maxHeartbeats 2000000 in
theorem name_loop (s : ByteArray) (w : World) (h0 : 0 < s.size) (h1 : s.size ≤ 32) :
    Calls Try.prog 30 #[.string s] w fun e w' => e = .returned (.bool (nmFrom s s.size 0)) ∧ Below w.heap.size w w' := by
  have hl : s.toList.length = s.size := by rw [Go.ByteArray.toList_eq]; rfl
  have e0 : s.toList.isEmpty = false := by
    cases hs : s.toList with
    | nil => rw [hs] at hl; simp at hl; omega
    | cons a b => rfl
  have e1 : (s.toList == []) = false := by
    cases hs : s.toList with
    | nil => rw [hs] at e0; simp at e0
    | cons a b => rfl
  clear hl
  have e2 : ¬ 32 < s.size := by omega
  obtain ⟨r, hr⟩ : ∃ r, r = nmFrom s s.size 0 := ⟨_, rfl⟩
  rw [← hr]
  have R0 : Aside0 (r = nmFrom s s.size 0) := ⟨hr⟩
  clear hr
  go_enter Try.func30, Try.ntmps30
  go_wp2
  go_loopw [3, 4] (fun i c w' => ∃ pos : Nat, w' = w.iter s pos ∧ Aside0 (pos ≤ s.size) ∧ Aside0 (r = nmFrom s (s.size - pos) pos)) (fun _ _ w' => s.size - w'.iterPos w.heap.size)
  case atStart => exact ⟨0, rfl, ⟨Nat.zero_le _⟩, ⟨R0.out⟩⟩
  case round =>
    obtain ⟨pos, rfl, HP, HR⟩ := hrel
    by_cases hp : pos < s.size
    · have hs : s.size - pos = (s.size - (pos + 1)) + 1 := by omega
      have hR := HR.out
      rw [hs, nmFrom_snoc, bt_nat s pos hp] at hR
      clear hs HR
      by_cases ha : (s[pos]'hp).toNat < 128
      · have hnx : ∀ ty, (Instr.next (.pointer (some ⟨w.heap.size, 0, none⟩)) true ty).run Try.prog (w.iter s pos) = _ := fun ty => run_next_ascii w s pos ty hp ha
        have hc0 : (0 : Int) ≤ ((s[pos]'hp).toNat : Int) := Int.natCast_nonneg _
        have hc1 : ((s[pos]'hp).toNat : Int) ≤ 127 := by omega
        generalize ((s[pos]'hp).toNat : Int) = c at hnx hR hc0 hc1
        have HR := Aside0.mk hR
        clear hR ha
        by_cases c1 : c = 95
        · have c2 : (c != 95) = false := by subst c1; rfl
          have HK : Aside0 (r = nmFrom s (s.size - (pos + 1)) (pos + 1)) := ⟨by rw [HR.out]; subst c1; rfl⟩
          clear HR c1
          go_wp2
          go_roundw
          case rel => exact ⟨pos + 1, rfl, ⟨by omega⟩, HK⟩
          case measure => simp; omega
        · have c2 : (c != 95) = true := bne_iff_ne.2 c1
          have c3 : (c == 95) = false := beq_eq_false_iff_ne.2 c1
          cases hl : letB c with
          | true =>
            have HK : Aside0 (r = nmFrom s (s.size - (pos + 1)) (pos + 1)) := ⟨by rw [HR.out]; simp [nmOk, hl]⟩
            clear HR c1 c3
            go_wp2_with (go_at_call 37; refine (isLet_yes _ _ hl).mono ?_; rintro e w' ⟨rfl, rfl⟩)
            go_roundw
            case rel => exact ⟨pos + 1, rfl, ⟨by omega⟩, HK⟩
            case measure => simp; omega
          | false =>
            rcases Nat.eq_zero_or_pos pos with h0 | h0
            · subst h0
              have HK : Aside0 (r = false) := ⟨by rw [HR.out]; simp [nmOk, hl, c3]⟩
              clear HR c1 c3
              go_wp2_with (go_at_call 37; refine (isLet_no _ _ hl).mono ?_; rintro e w' ⟨rfl, rfl⟩)
              go_ret
              rw [HK.out]
              exact ⟨rfl, below_iter w s _⟩
            · have p0 : ((pos : Int) == 0) = false := beq_eq_false_iff_ne.2 (by omega)
              have p1 : (pos != 0) = true := bne_iff_ne.2 (by omega)
              cases hd : digB c with
              | true =>
                have HK : Aside0 (r = nmFrom s (s.size - (pos + 1)) (pos + 1)) := ⟨by rw [HR.out]; simp [nmOk, hl, c3, hd, p1]⟩
                clear HR c1 c3 p1
                go_wp2_with (first | (go_at_call 37; refine (isLet_no _ _ hl).mono ?_; rintro e w' ⟨rfl, rfl⟩) | (go_at_call 38; refine (isDig_yes _ _ hd).mono ?_; rintro e w' ⟨rfl, rfl⟩))
                go_roundw
                case rel => exact ⟨pos + 1, rfl, ⟨by omega⟩, HK⟩
                case measure => simp; omega
              | false =>
                have HK : Aside0 (r = false) := ⟨by rw [HR.out]; simp [nmOk, hl, c3, hd]⟩
                clear HR c1 c3 p1
                go_wp2_with (first | (go_at_call 37; refine (isLet_no _ _ hl).mono ?_; rintro e w' ⟨rfl, rfl⟩) | (go_at_call 38; refine (isDig_no _ _ hd).mono ?_; rintro e w' ⟨rfl, rfl⟩))
                go_ret
                rw [HK.out]
                exact ⟨rfl, below_iter w s _⟩
      · have hh := (decode_high s pos hp (by omega)).1
        have hw := (decode_high s pos hp (by omega)).2
        have hb : (128 : Int) ≤ ((s[pos]'hp).toNat : Int) := by omega
        obtain ⟨b1, b2, b3⟩ := nm_high hb
        have HK : Aside0 (r = false) := ⟨by rw [hR]; simp only [nmOk, b1, b2, b3]; simp⟩
        have hnx : ∀ ty, (Instr.next (.pointer (some ⟨w.heap.size, 0, none⟩)) true ty).run Try.prog (w.iter s pos) = _ := fun ty => run_next_any w s pos ty hp
        clear hR ha hb b1 b2 b3 hw
        have hh' : (128 : Int) ≤ ((Utf8.decode s pos).1 : Int) := by omega
        generalize hdd : ((Utf8.decode s pos).1 : Int) = c at hnx hh'
        clear hdd hh
        have c2 : (c != 95) = true := bne_iff_ne.2 (by omega)
        obtain ⟨c3, hl, hd⟩ := nm_high hh'
        clear c3
        rcases Nat.eq_zero_or_pos pos with h0 | h0
        · subst h0
          go_wp2_with (go_at_call 37; refine (isLet_no _ _ hl).mono ?_; rintro e w' ⟨rfl, rfl⟩)
          go_ret
          rw [HK.out]
          exact ⟨rfl, below_iter w s _⟩
        · have p0 : ((pos : Int) == 0) = false := beq_eq_false_iff_ne.2 (by omega)
          go_wp2_with (first | (go_at_call 37; refine (isLet_no _ _ hl).mono ?_; rintro e w' ⟨rfl, rfl⟩) | (go_at_call 38; refine (isDig_no _ _ hd).mono ?_; rintro e w' ⟨rfl, rfl⟩))
          go_ret
          rw [HK.out]
          exact ⟨rfl, below_iter w s _⟩
    · have hz : s.size - pos = 0 := by omega
      have hR := HR.out
      rw [hz] at hR
      have HR' := Aside0.mk hR
      clear hR HR hz
      have hnx : ∀ ty, (Instr.next (.pointer (some ⟨w.heap.size, 0, none⟩)) true ty).run Try.prog (w.iter s pos) = _ := fun ty => run_next_end w s pos ty hp
      go_wp2
      go_ret
      rw [HR'.out]
      exact ⟨rfl, below_iter w s pos⟩

set_option maxHeartbeats 1000000 in
theorem chars_Name.calls (a0 : ByteArray) (r : Bool) (w : World) (h : chars_Name.f a0 = some r) :
    Calls Try.prog 30 #[.string a0] w fun e w' => e = .returned (.bool r) ∧ Below w.heap.size w w' := by
  obtain rfl : nameB a0 = r := Option.some.inj h
  clear h
  have hl : a0.toList.length = a0.size := by rw [Go.ByteArray.toList_eq]; rfl
  by_cases h0 : 0 < a0.size
  · by_cases h1 : a0.size ≤ 32
    · have e : nameB a0 = nmFrom a0 a0.size 0 := by simp [nameB, h0, h1]
      rw [e]
      exact name_loop a0 w h0 h1
    · have e : nameB a0 = false := by simp [nameB, h1]
      rw [e]
      clear e
      have e0 : a0.toList.isEmpty = false := by
        cases hs : a0.toList with
        | nil => rw [hs] at hl; simp at hl; omega
        | cons a b => rfl
      have e1 : (a0.toList == []) = false := by
        cases hs : a0.toList with
        | nil => rw [hs] at e0; simp at e0
        | cons a b => rfl
      clear hl
      have e2 : 32 < a0.size := by omega
      go_enter Try.func30, Try.ntmps30
      go_wp2
      go_ret
      exact ⟨rfl, Below.refl _ _⟩
  · have e : nameB a0 = false := by simp [nameB, h0]
    rw [e]
    clear e
    have hn : a0.toList = [] := List.eq_nil_of_length_eq_zero (by omega)
    have e0 : a0.toList.isEmpty = true := by rw [hn]; rfl
    have e1 : (a0.toList == []) = true := by rw [hn]; rfl
    clear hl hn
    go_enter Try.func30, Try.ntmps30
    go_wp2
    go_ret
    exact ⟨rfl, Below.refl _ _⟩
end Go.Proofs.Ytlcobphakhcmiaa.PAll
