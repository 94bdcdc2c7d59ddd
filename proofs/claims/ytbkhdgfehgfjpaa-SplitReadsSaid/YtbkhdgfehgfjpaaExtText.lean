/- strings.Contains at a text of one byte; split.Text and split.join (a Builder in a loop over structs), by hand: their contracts in the form of the printed ones. -/
import Derived.Test.YtbkhdgfehgfjpaaPAllx0
import Derived.Test.YtbkhdgfehgfjpaaExtShelf
namespace Go.Proofs.Ytbkhdgfehgfjpaa.PAll
open Go.RowKit Go.Proofs.YtbkhdgfehgfjpaaW.PrintWords Go.Proofs.YtbkhdgfehgfjpaaW.PrintLast Go.Proofs.YtbkhdgfehgfjpaaW.PrintMore
set_option linter.unusedVariables false
/-- Texts, one behind the other. -/
def catL : List ByteArray → List UInt8
  | [] => []
  | s :: t => s.data.toList ++ catL t

def strings_Contains.f (s sub : ByteArray) : Option Bool :=
  match sub with
  | ⟨⟨[c]⟩⟩ => some (decide (0 ≤ Lib.indexByte s.data.toList c))
  | _ => none
theorem strings_Contains.calls (a0 a1 : ByteArray) (r : Bool) (w : World) (h : strings_Contains.f a0 a1 = some r) :
    Calls Try.prog 43 #[.string a0, .string a1] w fun e w' => e = .returned (.bool r) ∧ Drawn0 w w' := by
  unfold strings_Contains.f at h
  split at h
  · have h := Option.some.inj h
    subst h
    refine (Try.strings_Contains_one _ _ _).mono ?_
    rintro e w' ⟨rfl, rfl⟩
    exact ⟨rfl, Drawn0.refl _⟩
  · cases h

def split_Text.f (l : List S38) : Option ByteArray :=
  if (catL (l.map (·.f0))).length ≤ 140737488355328 then (if l.length ≤ 9223372036854775807 then some ⟨(catL (l.map (·.f0))).toArray⟩ else none) else none
set_option maxHeartbeats 4000000 in
set_option maxRecDepth 100000 in
theorem split_Text.calls (A0 : Option Addr) (c0 : Nat) (l0 : List S38) (r : ByteArray) (w : World) (hr0 : Kd.C k38 w A0 l0.length l0) (hc0 : l0.length ≤ c0) (h : split_Text.f l0 = some r) :
    Calls Try.prog 15 #[.slice A0 l0.length c0] w fun e w' => e = .returned (.string r) ∧ Below w.heap.size w w' := by
  unfold split_Text.f at h
  split at h
  case isFalse => cases h
  rename_i ht
  split at h
  case isFalse => cases h
  rename_i hm
  have h := Option.some.inj h
  subst h
  obtain ⟨tot, htot⟩ : ∃ tot, catL (l0.map (·.f0)) = tot := ⟨_, rfl⟩
  rw [htot] at ht ⊢
  have R0 : Aside0 ([] ++ catL ((l0.drop 0).map (·.f0)) = tot) := ⟨htot⟩
  clear htot
  have HT := Aside0.mk ht
  have HR := Aside0.mk hr0
  have HM := Aside0.mk hm
  clear hr0 hc0 ht
  go_enter Try.func15, Try.ntmps15
  go_wp2
  go_loopw [8] (fun i wr => ∃ (k : Nat) (acc : List UInt8), i = .int .i64 k ∧ Aside0 (k ≤ l0.length) ∧ Aside0 (Lib.IsBuilderF 57 5 w.heap.size w.heap.size (Lib.byteCells acc) wr) ∧ Aside0 (Below w.heap.size w wr) ∧ Aside0 (acc ++ catL ((l0.drop k).map (·.f0)) = tot)) (fun i _ => l0.length - (intOf i).toNat)
  case atStart => exact ⟨0, [], rfl, ⟨Nat.zero_le _⟩, ⟨Lib.IsBuilderF.of (Lib.fresh_isBuilder 57 5 w)⟩, ⟨below_alloc (Below.refl _ _) _⟩, R0⟩
  case round =>
    obtain ⟨k, acc, rfl, HK, HI, HB, HW⟩ := hrel
    clear R0
    by_cases hlt : k < l0.length
    · have p0 : (0 : Int) ≤ (k : Int) := by omega
      have q0 : (k : Int) < (l0.length : Int) := by omega
      obtain ⟨ad, e, hx0, hx1⟩ := at_T38 HR.out (k : Int) p0 q0
      cases e
      replace hx0 := (HB.out.cell (World.block_lt_of_cell? w _ hx0)).trans hx0
      replace hx1 := (HB.out.cell (World.block_lt_of_cell? w _ hx1)).trans hx1
      have hgr : w.heap.size ≤ wr.heap.size := HB.out.size
      obtain ⟨x, hx⟩ : ∃ x, rd_T38 l0 (k : Int) = x := ⟨_, rfl⟩
      rw [hx] at hx0 hx1
      simp only [Int.toNat_natCast] at hx0 hx1
      obtain ⟨a, b⟩ := x
      have hd : l0.drop k = ⟨a, b⟩ :: l0.drop (k + 1) := by
        rw [List.drop_eq_getElem_cons hlt]
        congr 1
        unfold rd_T38 at hx
        rw [Int.toNat_natCast, List.getD_eq_getElem?_getD, List.getElem?_eq_getElem hlt] at hx
        exact hx
      have hw := HW.out
      rw [hd, List.map_cons, catL, ← List.append_assoc] at hw
      dsimp only at hw
      have HW2 := Aside0.mk hw
      have ea : a.data.toList.length = a.size := by rw [Array.length_toList]; rfl
      have hl := congrArg List.length hw
      rw [List.length_append, List.length_append, ea] at hl
      have hroom : (Lib.byteCells acc).length + a.size ≤ 140737488355328 := by
        have := HT.out
        rw [Lib.byteCells_length]
        omega
      have HRM := Aside0.mk hroom
      have HGR := Aside0.mk hgr
      clear hw hl ea hroom hgr hd HW hx
      have hI : Aside0 (Lib.IsBuilderF 57 5 w.heap.size w.heap.size (Lib.byteCells acc) (wr.alloc (.cells #[.string a, .int .i64 b] 38))) := ⟨HI.out.alloc _⟩
      have hB0 : Aside0 (Below w.heap.size w (wr.alloc (.cells #[.string a, .int .i64 b] 38))) := ⟨below_alloc HB.out _⟩
      go_wp2_with (go_at_call 32; refine (Try.Builder_WriteString_f w.heap.size w.heap.size _ a _ hI.out HRM.out ?hs).mono ?_; (case hs => exact hB0.out.size); rintro e w1 ⟨rfl, h1, b1⟩; have HB1 := Aside0.mk b1; have HI1 := Aside0.mk h1; clear b1 h1)
      go_roundw
      case rel => exact ⟨k + 1, acc ++ a.data.toList, by go_num, ⟨hlt⟩, ⟨by rw [Lib.byteCells_append]; exact Or.inr HI1.out⟩, ⟨hB0.out.trans HB1.out⟩, HW2⟩
      case measure => simp [intOf]; omega
    · have hk : k = l0.length := by have := HK.out; omega
      have hw := HW.out
      rw [hk, List.drop_length, List.map_nil, catL, List.append_nil] at hw
      subst hw
      obtain rfl := hk
      have HSZ : Aside0 (w.heap.size ≤ wr.heap.size) := ⟨HB.out.size⟩
      go_wp2_with (go_at_call 33; refine (Try.Builder_String_any_f w.heap.size w.heap.size acc _ HI.out HSZ.out).mono ?_; rintro e w1 ⟨rfl, h1, b1⟩; have HB1 := Aside0.mk b1; clear b1 h1)
      go_ret
      exact ⟨rfl, HB.out.trans HB1.out⟩

def split_join.f (l : List S66) : Option ByteArray :=
  if (catL (l.map (·.f0))).length ≤ 140737488355328 then (if l.length ≤ 9223372036854775807 then some ⟨(catL (l.map (·.f0))).toArray⟩ else none) else none
set_option maxHeartbeats 4000000 in
set_option maxRecDepth 100000 in
theorem split_join.calls (A0 : Option Addr) (c0 : Nat) (l0 : List S66) (r : ByteArray) (w : World) (hr0 : Kd.C k66 w A0 l0.length l0) (hc0 : l0.length ≤ c0) (h : split_join.f l0 = some r) :
    Calls Try.prog 37 #[.slice A0 l0.length c0] w fun e w' => e = .returned (.string r) ∧ Below w.heap.size w w' := by
  unfold split_join.f at h
  split at h
  case isFalse => cases h
  rename_i ht
  split at h
  case isFalse => cases h
  rename_i hm
  have h := Option.some.inj h
  subst h
  obtain ⟨tot, htot⟩ : ∃ tot, catL (l0.map (·.f0)) = tot := ⟨_, rfl⟩
  rw [htot] at ht ⊢
  have R0 : Aside0 ([] ++ catL ((l0.drop 0).map (·.f0)) = tot) := ⟨htot⟩
  clear htot
  have HT := Aside0.mk ht
  have HR := Aside0.mk hr0
  have HM := Aside0.mk hm
  clear hr0 hc0 ht
  go_enter Try.func37, Try.ntmps37
  go_wp2
  go_loopw [8] (fun i wr => ∃ (k : Nat) (acc : List UInt8), i = .int .i64 k ∧ Aside0 (k ≤ l0.length) ∧ Aside0 (Lib.IsBuilderF 57 5 w.heap.size w.heap.size (Lib.byteCells acc) wr) ∧ Aside0 (Below w.heap.size w wr) ∧ Aside0 (acc ++ catL ((l0.drop k).map (·.f0)) = tot)) (fun i _ => l0.length - (intOf i).toNat)
  case atStart => exact ⟨0, [], rfl, ⟨Nat.zero_le _⟩, ⟨Lib.IsBuilderF.of (Lib.fresh_isBuilder 57 5 w)⟩, ⟨below_alloc (Below.refl _ _) _⟩, R0⟩
  case round =>
    obtain ⟨k, acc, rfl, HK, HI, HB, HW⟩ := hrel
    clear R0
    by_cases hlt : k < l0.length
    · have p0 : (0 : Int) ≤ (k : Int) := by omega
      have q0 : (k : Int) < (l0.length : Int) := by omega
      obtain ⟨ad, e, hx0, hx1⟩ := at_T66 HR.out (k : Int) p0 q0
      cases e
      replace hx0 := (HB.out.cell (World.block_lt_of_cell? w _ hx0)).trans hx0
      replace hx1 := (HB.out.cell (World.block_lt_of_cell? w _ hx1)).trans hx1
      have hgr : w.heap.size ≤ wr.heap.size := HB.out.size
      obtain ⟨x, hx⟩ : ∃ x, rd_T66 l0 (k : Int) = x := ⟨_, rfl⟩
      rw [hx] at hx0 hx1
      simp only [Int.toNat_natCast] at hx0 hx1
      obtain ⟨a, b⟩ := x
      have hd : l0.drop k = ⟨a, b⟩ :: l0.drop (k + 1) := by
        rw [List.drop_eq_getElem_cons hlt]
        congr 1
        unfold rd_T66 at hx
        rw [Int.toNat_natCast, List.getD_eq_getElem?_getD, List.getElem?_eq_getElem hlt] at hx
        exact hx
      have hw := HW.out
      rw [hd, List.map_cons, catL, ← List.append_assoc] at hw
      dsimp only at hw
      have HW2 := Aside0.mk hw
      have ea : a.data.toList.length = a.size := by rw [Array.length_toList]; rfl
      have hl := congrArg List.length hw
      rw [List.length_append, List.length_append, ea] at hl
      have hroom : (Lib.byteCells acc).length + a.size ≤ 140737488355328 := by
        have := HT.out
        rw [Lib.byteCells_length]
        omega
      have HRM := Aside0.mk hroom
      have HGR := Aside0.mk hgr
      clear hw hl ea hroom hgr hd HW hx
      have hI : Aside0 (Lib.IsBuilderF 57 5 w.heap.size w.heap.size (Lib.byteCells acc) (wr.alloc (.cells #[.string a, .int .i64 b] 66))) := ⟨HI.out.alloc _⟩
      have hB0 : Aside0 (Below w.heap.size w (wr.alloc (.cells #[.string a, .int .i64 b] 66))) := ⟨below_alloc HB.out _⟩
      go_wp2_with (go_at_call 32; refine (Try.Builder_WriteString_f w.heap.size w.heap.size _ a _ hI.out HRM.out ?hs).mono ?_; (case hs => exact hB0.out.size); rintro e w1 ⟨rfl, h1, b1⟩; have HB1 := Aside0.mk b1; have HI1 := Aside0.mk h1; clear b1 h1)
      go_roundw
      case rel => exact ⟨k + 1, acc ++ a.data.toList, by go_num, ⟨hlt⟩, ⟨by rw [Lib.byteCells_append]; exact Or.inr HI1.out⟩, ⟨hB0.out.trans HB1.out⟩, HW2⟩
      case measure => simp [intOf]; omega
    · have hk : k = l0.length := by have := HK.out; omega
      have hw := HW.out
      rw [hk, List.drop_length, List.map_nil, catL, List.append_nil] at hw
      subst hw
      obtain rfl := hk
      have HSZ : Aside0 (w.heap.size ≤ wr.heap.size) := ⟨HB.out.size⟩
      go_wp2_with (go_at_call 33; refine (Try.Builder_String_any_f w.heap.size w.heap.size acc _ HI.out HSZ.out).mono ?_; rintro e w1 ⟨rfl, h1, b1⟩; have HB1 := Aside0.mk b1; clear b1 h1)
      go_ret
      exact ⟨rfl, HB.out.trans HB1.out⟩
end Go.Proofs.Ytbkhdgfehgfjpaa.PAll
