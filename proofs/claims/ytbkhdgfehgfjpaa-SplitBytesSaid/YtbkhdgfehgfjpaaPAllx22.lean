-- Written for this claim by a program of the session (wip/ext).
import Derived.Test.YtbkhdgfehgfjpaaPAllx0
import Derived.Test.YtbkhdgfehgfjpaaPAllx2
import Derived.Test.YtbkhdgfehgfjpaaPAllx7
import Derived.Test.YtbkhdgfehgfjpaaPAllx10
namespace Go.Proofs.Ytbkhdgfehgfjpaa.PAll
open Go.RowKit Go.Proofs.YtbkhdgfehgfjpaaW.PrintWords Go.Proofs.YtbkhdgfehgfjpaaW.PrintLast Go.Proofs.YtbkhdgfehgfjpaaW.PrintMore
attribute [local go_sem] max2_int min2_int max_two min_two max_three min_three max_four min_four   -- for this text's walks alone
set_option linter.unusedVariables false
set_option linter.unusedSimpArgs false

/-! ### jobshelllaw18_separator: function 22 -/
def jobshelllaw18_separator.l0 : Nat → Int → ByteArray → Int → Option (Bool)
  | 0, _, _, _ => none
  | k + 1, x0, x1, x5 => if x5 < (x1.size : Int) then (if 0 ≤ x5 then (if (bt x1 x5) = x0 then (some true) else (jobshelllaw18_separator.l0 k x0 x1 (wrap64 (x5 + 1)))) else (none)) else (some false)
def jobshelllaw18_separator.f (k : Nat) (a0 : Int) (a1 : ByteArray) : Option (Bool) := jobshelllaw18_separator.l0 k a0 a1 0
theorem jobshelllaw18_separator.mono_l : ∀ k, (∀ y0 y1 y2, LeO (jobshelllaw18_separator.l0 k y0 y1 y2) (jobshelllaw18_separator.l0 (k + 1) y0 y1 y2))
  | 0 => fun _ _ _ r h => by simp [jobshelllaw18_separator.l0] at h
  | k + 1 => by
    have ih0 := jobshelllaw18_separator.mono_l k
    · intro y0 y1 y2
      unfold jobshelllaw18_separator.l0
      repeat' first
      | (with_reducible exact ih0 _ _ _)
      | (with_reducible exact LeO.refl _)
      | (with_reducible exact LeO.none _)
      | (with_reducible refine LeO.ite ?_ ?_)
      | (with_reducible refine LeO.bind ?_ (fun _ => ?_))
      | exact ih0 _ _ _
      | exact LeO.none _
      | refine LeO.ite ?_ ?_
      | refine LeO.bind ?_ (fun _ => ?_)
theorem jobshelllaw18_separator.mono : ∀ a0 a1 k, LeO (jobshelllaw18_separator.f k a0 a1) (jobshelllaw18_separator.f (k + 1) a0 a1) := by
  intro a0 a1 k
  have ih0 := jobshelllaw18_separator.mono_l k
  unfold jobshelllaw18_separator.f
  repeat' first
      | (with_reducible exact ih0 _ _ _)
      | (with_reducible exact LeO.refl _)
      | (with_reducible exact LeO.none _)
      | (with_reducible refine LeO.ite ?_ ?_)
      | (with_reducible refine LeO.bind ?_ (fun _ => ?_))
      | exact ih0 _ _ _
      | exact LeO.none _
      | refine LeO.ite ?_ ?_
      | refine LeO.bind ?_ (fun _ => ?_)
set_option maxHeartbeats 3000000 in
set_option maxRecDepth 100000 in
theorem jobshelllaw18_separator.calls (k : Nat) (a0 : Int) (a1 : ByteArray) (r : Bool) (w : World) (h : jobshelllaw18_separator.f k a0 a1 = some r) :
    Calls Try.prog 22 #[.int .u8 a0, .string a1] w fun e w' => e = .returned (.bool r) ∧ Drawn0 w w' := by
  have H : (jobshelllaw18_separator.l0 k a0 a1 0) = some r := h
  clear h
  have H' := Aside0.mk H
  clear H
  go_enter Try.func22, Try.ntmps22
  go_wp2
  go_loopg [5] k (fun kq v5 w' => ∃ (x5_1 : Int), v5 = .int .i64 x5_1 ∧ Aside0 (jobshelllaw18_separator.l0 kq a0 a1 x5_1 = some r) ∧ Aside0 (kq ≤ k) ∧ Drawn0 w w')
  case atStart => exact ⟨(0), (by first | rfl | (simp; done) | (simp [*]; done)), H', ⟨Nat.le_refl _⟩, by repeat (first | exact Drawn0.refl _ | apply Drawn0.step)⟩
  case round =>
    clear H'
    try clear c2
    try clear p2
    obtain ⟨x5_1, rfl, HA, HK1, ⟨m1, rfl⟩⟩ := hrel
    cases gk with
    | zero => exact absurd HA.out (by simp [jobshelllaw18_separator.l0])
    | succ k1 =>
      have H := HA.out
      clear HA
      simp only [jobshelllaw18_separator.l0] at H
      by_cases c3 : x5_1 < (a1.size : Int)
      · rw [if_pos c3] at H
        have c3b0 : decide (x5_1 < (a1.size : Int)) = true := decide_eq_true c3
        clear c3
        by_cases c4 : 0 ≤ x5_1
        · rw [if_pos c4] at H
          have c4b0 : decide (0 ≤ x5_1) = true := decide_eq_true c4
          clear c4
          by_cases c6 : (bt a1 x5_1) = a0
          · rw [if_pos c6] at H
            have c6b0 : ((bt a1 x5_1) == a0) = true := beq_iff_eq.mpr c6
            have c6b1 : ((bt a1 x5_1) != a0) = false := bne_eq_false_iff_eq.mpr c6
            clear c6
            obtain rfl := Option.some.inj H
            have p5 : 0 ≤ (x5_1 : Int) := of_decide_eq_true (by first | (with_reducible assumption) | assumption)
            have q5 : x5_1 < (a1.size : Int) := of_decide_eq_true (by first | (with_reducible assumption) | assumption)
            have hx5 := bt_at a1 x5_1
            replace p5 := eq_true p5
            replace q5 := eq_true q5
            go_wp2
            go_ret
            exact ⟨by first | rfl | (simp; done) | (simp [*]; done), by repeat (first | exact Drawn0.refl _ | apply Drawn0.step)⟩
          · rw [if_neg c6] at H
            have c6b0 : ((bt a1 x5_1) == a0) = false := beq_eq_false_iff_ne.mpr c6
            have c6b1 : ((bt a1 x5_1) != a0) = true := bne_iff_ne.mpr c6
            have H' := Aside0.mk H
            clear H
            have p5 : 0 ≤ (x5_1 : Int) := of_decide_eq_true (by first | (with_reducible assumption) | assumption)
            have q5 : x5_1 < (a1.size : Int) := of_decide_eq_true (by first | (with_reducible assumption) | assumption)
            have hx5 := bt_at a1 x5_1
            replace p5 := eq_true p5
            replace q5 := eq_true q5
            go_wp2
            go_roundg k1
            case measure => have := HK1.out; omega
            case rel => exact ⟨(wrap64 (x5_1 + 1)), (by first | rfl | (simp; done) | (simp [*]; done)), H', ⟨by have := HK1.out; omega⟩, by repeat (first | exact Drawn0.refl _ | apply Drawn0.step)⟩
        · rw [if_neg c4] at H
          exact absurd H (by simp)
      · rw [if_neg c3] at H
        have c3b0 : decide (x5_1 < (a1.size : Int)) = false := decide_eq_false c3
        clear c3
        obtain rfl := Option.some.inj H
        go_wp2
        go_ret
        exact ⟨by first | rfl | (simp; done) | (simp [*]; done), by repeat (first | exact Drawn0.refl _ | apply Drawn0.step)⟩

/-! ### jobshelllaw18_SplitBytes: function 6 -/
mutual
def jobshelllaw18_SplitBytes.j0 : Nat → List (S38) → ByteArray → Bool → Option (Bool)
  | 0, _, _, _ => none
  | k + 1, x0, x1, x19 => if x19 = true then ((jobshelllaw18_awake.f k).bind fun t412 => (some t412)) else (jobshelllaw18_SplitBytes.l0 k x0 x1 (⟨#[]⟩ : ByteArray) 0)
def jobshelllaw18_SplitBytes.l0 : Nat → List (S38) → ByteArray → ByteArray → Int → Option (Bool)
  | 0, _, _, _, _ => none
  | k + 1, x0, x1, x5, x6 => if x6 < (x0.length : Int) then (jobshelllaw18_SplitBytes.l1 k x0 x1 x5 x6 0) else ((split_Fields.f k x0 x1).bind fun t422 => (jobshelllaw18_SplitBytes.l2 k x5 (⟨#[]⟩ : ByteArray) t422 0))
def jobshelllaw18_SplitBytes.l1 : Nat → List (S38) → ByteArray → ByteArray → Int → Int → Option (Bool)
  | 0, _, _, _, _, _ => none
  | k + 1, x0, x1, x5, x6, x7 => if 0 ≤ x6 then (if x6 < (x0.length : Int) then (if x7 < (((rd_T38 x0 x6).f0).size : Int) then (if ((rd_T38 x0 x6).f1) = 0 then (if 0 ≤ x7 then (if x7 ≤ (wrap64 (x7 + 1)) then (if (wrap64 (x7 + 1)) ≤ (((rd_T38 x0 x6).f0).size : Int) then (if x5.size + (((rd_T38 x0 x6).f0).extract (x7 : Int).toNat ((wrap64 (x7 + 1)) : Int).toNat).size ≤ 9223372036854775807 then (jobshelllaw18_SplitBytes.l1 k x0 x1 (x5 ++ (((rd_T38 x0 x6).f0).extract (x7 : Int).toNat ((wrap64 (x7 + 1)) : Int).toNat)) x6 (wrap64 (x7 + 1))) else (none)) else (none)) else (none)) else (none)) else (if ((rd_T38 x0 x6).f1) = 1 then (if 0 ≤ x7 then (if x7 ≤ (wrap64 (x7 + 1)) then (if (wrap64 (x7 + 1)) ≤ (((rd_T38 x0 x6).f0).size : Int) then (if x5.size + (((rd_T38 x0 x6).f0).extract (x7 : Int).toNat ((wrap64 (x7 + 1)) : Int).toNat).size ≤ 9223372036854775807 then (jobshelllaw18_SplitBytes.l1 k x0 x1 (x5 ++ (((rd_T38 x0 x6).f0).extract (x7 : Int).toNat ((wrap64 (x7 + 1)) : Int).toNat)) x6 (wrap64 (x7 + 1))) else (none)) else (none)) else (none)) else (none)) else (if ((rd_T38 x0 x6).f1) = 2 then (if 0 ≤ x7 then ((jobshelllaw18_separator.f k (bt ((rd_T38 x0 x6).f0) x7) x1).bind fun t420 => (if t420 = true then (jobshelllaw18_SplitBytes.l1 k x0 x1 x5 x6 (wrap64 (x7 + 1))) else (if x7 ≤ (wrap64 (x7 + 1)) then (if (wrap64 (x7 + 1)) ≤ (((rd_T38 x0 x6).f0).size : Int) then (if x5.size + (((rd_T38 x0 x6).f0).extract (x7 : Int).toNat ((wrap64 (x7 + 1)) : Int).toNat).size ≤ 9223372036854775807 then (jobshelllaw18_SplitBytes.l1 k x0 x1 (x5 ++ (((rd_T38 x0 x6).f0).extract (x7 : Int).toNat ((wrap64 (x7 + 1)) : Int).toNat)) x6 (wrap64 (x7 + 1))) else (none)) else (none)) else (none)))) else (none)) else (jobshelllaw18_SplitBytes.l1 k x0 x1 x5 x6 (wrap64 (x7 + 1)))))) else (jobshelllaw18_SplitBytes.l0 k x0 x1 x5 (wrap64 (x6 + 1)))) else (none)) else (none)
def jobshelllaw18_SplitBytes.l2 : Nat → ByteArray → ByteArray → List (List (S38)) → Int → Option (Bool)
  | 0, _, _, _, _ => none
  | k + 1, x5, x8, x9, x10 => if x10 < (x9.length : Int) then (jobshelllaw18_SplitBytes.j4 k x5 x8 x9 x10 (decide (x10 ≤ 100))) else (jobshelllaw18_SplitBytes.j4 k x5 x8 x9 x10 false)
def jobshelllaw18_SplitBytes.j4 : Nat → ByteArray → ByteArray → List (List (S38)) → Int → Bool → Option (Bool)
  | 0, _, _, _, _, _ => none
  | k + 1, x5, x8, x9, x10, x92 => if x92 = true then (jobshelllaw18_SplitBytes.l3 k x5 x8 x9 x10 0) else (if x8.toList = x5.toList then ((jobshelllaw18_awake.f k).bind fun t425 => (some t425)) else (some false))
def jobshelllaw18_SplitBytes.l3 : Nat → ByteArray → ByteArray → List (List (S38)) → Int → Int → Option (Bool)
  | 0, _, _, _, _, _ => none
  | k + 1, x5, x8, x9, x10, x11 => if 0 ≤ x10 then (if x10 < (x9.length : Int) then (if x11 < ((rd_L6 x9 x10).length : Int) then (jobshelllaw18_SplitBytes.j6 k x5 x8 x9 x10 x11 (decide (x11 ≤ 100))) else (jobshelllaw18_SplitBytes.j6 k x5 x8 x9 x10 x11 false)) else (none)) else (none)
def jobshelllaw18_SplitBytes.j6 : Nat → ByteArray → ByteArray → List (List (S38)) → Int → Int → Bool → Option (Bool)
  | 0, _, _, _, _, _, _ => none
  | k + 1, x5, x8, x9, x10, x11, x105 => if x105 = true then (if x11 > 0 then (if 0 ≤ x10 then (if x10 < (x9.length : Int) then (if 0 ≤ (wrap64 (x11 - 1)) then (if (wrap64 (x11 - 1)) < ((rd_L6 x9 x10).length : Int) then (if 0 ≤ x11 then (if x11 < ((rd_L6 x9 x10).length : Int) then (if ((rd_T38 (rd_L6 x9 x10) (wrap64 (x11 - 1))).f1) = ((rd_T38 (rd_L6 x9 x10) x11).f1) then (some false) else (if x8.size + ((rd_T38 (rd_L6 x9 x10) x11).f0).size ≤ 9223372036854775807 then (jobshelllaw18_SplitBytes.l3 k x5 (x8 ++ ((rd_T38 (rd_L6 x9 x10) x11).f0)) x9 x10 (wrap64 (x11 + 1))) else (none))) else (none)) else (none)) else (none)) else (none)) else (none)) else (none)) else (if 0 ≤ x10 then (if x10 < (x9.length : Int) then (if 0 ≤ x11 then (if x11 < ((rd_L6 x9 x10).length : Int) then (if x8.size + ((rd_T38 (rd_L6 x9 x10) x11).f0).size ≤ 9223372036854775807 then (jobshelllaw18_SplitBytes.l3 k x5 (x8 ++ ((rd_T38 (rd_L6 x9 x10) x11).f0)) x9 x10 (wrap64 (x11 + 1))) else (none)) else (none)) else (none)) else (none)) else (none))) else (jobshelllaw18_SplitBytes.l2 k x5 x8 x9 (wrap64 (x10 + 1)))
end
def jobshelllaw18_SplitBytes.f (k : Nat) (l0 : List (S38)) (a1 : ByteArray) : Option (Bool) := (jobshelllaw18_small.f k l0).bind fun t411 => (if t411 = true then (jobshelllaw18_SplitBytes.j0 k l0 a1 (decide ((a1.size : Int) > 20))) else (jobshelllaw18_SplitBytes.j0 k l0 a1 true))
theorem jobshelllaw18_SplitBytes.mono_l : ∀ k, (∀ y0 y1 y2, LeO (jobshelllaw18_SplitBytes.j0 k y0 y1 y2) (jobshelllaw18_SplitBytes.j0 (k + 1) y0 y1 y2)) ∧ (∀ y0 y1 y2 y3, LeO (jobshelllaw18_SplitBytes.l0 k y0 y1 y2 y3) (jobshelllaw18_SplitBytes.l0 (k + 1) y0 y1 y2 y3)) ∧ (∀ y0 y1 y2 y3 y4, LeO (jobshelllaw18_SplitBytes.l1 k y0 y1 y2 y3 y4) (jobshelllaw18_SplitBytes.l1 (k + 1) y0 y1 y2 y3 y4)) ∧ (∀ y0 y1 y2 y3, LeO (jobshelllaw18_SplitBytes.l2 k y0 y1 y2 y3) (jobshelllaw18_SplitBytes.l2 (k + 1) y0 y1 y2 y3)) ∧ (∀ y0 y1 y2 y3 y4, LeO (jobshelllaw18_SplitBytes.j4 k y0 y1 y2 y3 y4) (jobshelllaw18_SplitBytes.j4 (k + 1) y0 y1 y2 y3 y4)) ∧ (∀ y0 y1 y2 y3 y4, LeO (jobshelllaw18_SplitBytes.l3 k y0 y1 y2 y3 y4) (jobshelllaw18_SplitBytes.l3 (k + 1) y0 y1 y2 y3 y4)) ∧ (∀ y0 y1 y2 y3 y4 y5, LeO (jobshelllaw18_SplitBytes.j6 k y0 y1 y2 y3 y4 y5) (jobshelllaw18_SplitBytes.j6 (k + 1) y0 y1 y2 y3 y4 y5))
  | 0 => ⟨fun _ _ _ r h => by simp [jobshelllaw18_SplitBytes.j0] at h, fun _ _ _ _ r h => by simp [jobshelllaw18_SplitBytes.l0] at h, fun _ _ _ _ _ r h => by simp [jobshelllaw18_SplitBytes.l1] at h, fun _ _ _ _ r h => by simp [jobshelllaw18_SplitBytes.l2] at h, fun _ _ _ _ _ r h => by simp [jobshelllaw18_SplitBytes.j4] at h, fun _ _ _ _ _ r h => by simp [jobshelllaw18_SplitBytes.l3] at h, fun _ _ _ _ _ _ r h => by simp [jobshelllaw18_SplitBytes.j6] at h⟩
  | k + 1 => by
    obtain ⟨ih0, ih1, ih2, ih3, ih4, ih5, ih6⟩ := jobshelllaw18_SplitBytes.mono_l k
    refine ⟨?_, ?_, ?_, ?_, ?_, ?_, ?_⟩
    · intro y0 y1 y2
      unfold jobshelllaw18_SplitBytes.j0
      repeat' first
      | (with_reducible exact ih0 _ _ _)
      | (with_reducible exact ih1 _ _ _ _)
      | (with_reducible exact ih2 _ _ _ _ _)
      | (with_reducible exact ih3 _ _ _ _)
      | (with_reducible exact ih4 _ _ _ _ _)
      | (with_reducible exact ih5 _ _ _ _ _)
      | (with_reducible exact ih6 _ _ _ _ _ _)
      | (with_reducible exact jobshelllaw18_awake.mono _)
      | (with_reducible exact jobshelllaw18_separator.mono _ _ _)
      | (with_reducible exact jobshelllaw18_small.mono _ _)
      | (with_reducible exact split_Fields.mono _ _ _)
      | (with_reducible exact LeO.refl _)
      | (with_reducible exact LeO.none _)
      | (with_reducible refine LeO.ite ?_ ?_)
      | (with_reducible refine LeO.bind ?_ (fun _ => ?_))
      | exact ih0 _ _ _
      | exact ih1 _ _ _ _
      | exact ih2 _ _ _ _ _
      | exact ih3 _ _ _ _
      | exact ih4 _ _ _ _ _
      | exact ih5 _ _ _ _ _
      | exact ih6 _ _ _ _ _ _
      | exact jobshelllaw18_awake.mono _
      | exact jobshelllaw18_separator.mono _ _ _
      | exact jobshelllaw18_small.mono _ _
      | exact split_Fields.mono _ _ _
      | exact LeO.none _
      | refine LeO.ite ?_ ?_
      | refine LeO.bind ?_ (fun _ => ?_)
    · intro y0 y1 y2 y3
      unfold jobshelllaw18_SplitBytes.l0
      repeat' first
      | (with_reducible exact ih0 _ _ _)
      | (with_reducible exact ih1 _ _ _ _)
      | (with_reducible exact ih2 _ _ _ _ _)
      | (with_reducible exact ih3 _ _ _ _)
      | (with_reducible exact ih4 _ _ _ _ _)
      | (with_reducible exact ih5 _ _ _ _ _)
      | (with_reducible exact ih6 _ _ _ _ _ _)
      | (with_reducible exact jobshelllaw18_awake.mono _)
      | (with_reducible exact jobshelllaw18_separator.mono _ _ _)
      | (with_reducible exact jobshelllaw18_small.mono _ _)
      | (with_reducible exact split_Fields.mono _ _ _)
      | (with_reducible exact LeO.refl _)
      | (with_reducible exact LeO.none _)
      | (with_reducible refine LeO.ite ?_ ?_)
      | (with_reducible refine LeO.bind ?_ (fun _ => ?_))
      | exact ih0 _ _ _
      | exact ih1 _ _ _ _
      | exact ih2 _ _ _ _ _
      | exact ih3 _ _ _ _
      | exact ih4 _ _ _ _ _
      | exact ih5 _ _ _ _ _
      | exact ih6 _ _ _ _ _ _
      | exact jobshelllaw18_awake.mono _
      | exact jobshelllaw18_separator.mono _ _ _
      | exact jobshelllaw18_small.mono _ _
      | exact split_Fields.mono _ _ _
      | exact LeO.none _
      | refine LeO.ite ?_ ?_
      | refine LeO.bind ?_ (fun _ => ?_)
    · intro y0 y1 y2 y3 y4
      unfold jobshelllaw18_SplitBytes.l1
      repeat' first
      | (with_reducible exact ih0 _ _ _)
      | (with_reducible exact ih1 _ _ _ _)
      | (with_reducible exact ih2 _ _ _ _ _)
      | (with_reducible exact ih3 _ _ _ _)
      | (with_reducible exact ih4 _ _ _ _ _)
      | (with_reducible exact ih5 _ _ _ _ _)
      | (with_reducible exact ih6 _ _ _ _ _ _)
      | (with_reducible exact jobshelllaw18_awake.mono _)
      | (with_reducible exact jobshelllaw18_separator.mono _ _ _)
      | (with_reducible exact jobshelllaw18_small.mono _ _)
      | (with_reducible exact split_Fields.mono _ _ _)
      | (with_reducible exact LeO.refl _)
      | (with_reducible exact LeO.none _)
      | (with_reducible refine LeO.ite ?_ ?_)
      | (with_reducible refine LeO.bind ?_ (fun _ => ?_))
      | exact ih0 _ _ _
      | exact ih1 _ _ _ _
      | exact ih2 _ _ _ _ _
      | exact ih3 _ _ _ _
      | exact ih4 _ _ _ _ _
      | exact ih5 _ _ _ _ _
      | exact ih6 _ _ _ _ _ _
      | exact jobshelllaw18_awake.mono _
      | exact jobshelllaw18_separator.mono _ _ _
      | exact jobshelllaw18_small.mono _ _
      | exact split_Fields.mono _ _ _
      | exact LeO.none _
      | refine LeO.ite ?_ ?_
      | refine LeO.bind ?_ (fun _ => ?_)
    · intro y0 y1 y2 y3
      unfold jobshelllaw18_SplitBytes.l2
      repeat' first
      | (with_reducible exact ih0 _ _ _)
      | (with_reducible exact ih1 _ _ _ _)
      | (with_reducible exact ih2 _ _ _ _ _)
      | (with_reducible exact ih3 _ _ _ _)
      | (with_reducible exact ih4 _ _ _ _ _)
      | (with_reducible exact ih5 _ _ _ _ _)
      | (with_reducible exact ih6 _ _ _ _ _ _)
      | (with_reducible exact jobshelllaw18_awake.mono _)
      | (with_reducible exact jobshelllaw18_separator.mono _ _ _)
      | (with_reducible exact jobshelllaw18_small.mono _ _)
      | (with_reducible exact split_Fields.mono _ _ _)
      | (with_reducible exact LeO.refl _)
      | (with_reducible exact LeO.none _)
      | (with_reducible refine LeO.ite ?_ ?_)
      | (with_reducible refine LeO.bind ?_ (fun _ => ?_))
      | exact ih0 _ _ _
      | exact ih1 _ _ _ _
      | exact ih2 _ _ _ _ _
      | exact ih3 _ _ _ _
      | exact ih4 _ _ _ _ _
      | exact ih5 _ _ _ _ _
      | exact ih6 _ _ _ _ _ _
      | exact jobshelllaw18_awake.mono _
      | exact jobshelllaw18_separator.mono _ _ _
      | exact jobshelllaw18_small.mono _ _
      | exact split_Fields.mono _ _ _
      | exact LeO.none _
      | refine LeO.ite ?_ ?_
      | refine LeO.bind ?_ (fun _ => ?_)
    · intro y0 y1 y2 y3 y4
      unfold jobshelllaw18_SplitBytes.j4
      repeat' first
      | (with_reducible exact ih0 _ _ _)
      | (with_reducible exact ih1 _ _ _ _)
      | (with_reducible exact ih2 _ _ _ _ _)
      | (with_reducible exact ih3 _ _ _ _)
      | (with_reducible exact ih4 _ _ _ _ _)
      | (with_reducible exact ih5 _ _ _ _ _)
      | (with_reducible exact ih6 _ _ _ _ _ _)
      | (with_reducible exact jobshelllaw18_awake.mono _)
      | (with_reducible exact jobshelllaw18_separator.mono _ _ _)
      | (with_reducible exact jobshelllaw18_small.mono _ _)
      | (with_reducible exact split_Fields.mono _ _ _)
      | (with_reducible exact LeO.refl _)
      | (with_reducible exact LeO.none _)
      | (with_reducible refine LeO.ite ?_ ?_)
      | (with_reducible refine LeO.bind ?_ (fun _ => ?_))
      | exact ih0 _ _ _
      | exact ih1 _ _ _ _
      | exact ih2 _ _ _ _ _
      | exact ih3 _ _ _ _
      | exact ih4 _ _ _ _ _
      | exact ih5 _ _ _ _ _
      | exact ih6 _ _ _ _ _ _
      | exact jobshelllaw18_awake.mono _
      | exact jobshelllaw18_separator.mono _ _ _
      | exact jobshelllaw18_small.mono _ _
      | exact split_Fields.mono _ _ _
      | exact LeO.none _
      | refine LeO.ite ?_ ?_
      | refine LeO.bind ?_ (fun _ => ?_)
    · intro y0 y1 y2 y3 y4
      unfold jobshelllaw18_SplitBytes.l3
      repeat' first
      | (with_reducible exact ih0 _ _ _)
      | (with_reducible exact ih1 _ _ _ _)
      | (with_reducible exact ih2 _ _ _ _ _)
      | (with_reducible exact ih3 _ _ _ _)
      | (with_reducible exact ih4 _ _ _ _ _)
      | (with_reducible exact ih5 _ _ _ _ _)
      | (with_reducible exact ih6 _ _ _ _ _ _)
      | (with_reducible exact jobshelllaw18_awake.mono _)
      | (with_reducible exact jobshelllaw18_separator.mono _ _ _)
      | (with_reducible exact jobshelllaw18_small.mono _ _)
      | (with_reducible exact split_Fields.mono _ _ _)
      | (with_reducible exact LeO.refl _)
      | (with_reducible exact LeO.none _)
      | (with_reducible refine LeO.ite ?_ ?_)
      | (with_reducible refine LeO.bind ?_ (fun _ => ?_))
      | exact ih0 _ _ _
      | exact ih1 _ _ _ _
      | exact ih2 _ _ _ _ _
      | exact ih3 _ _ _ _
      | exact ih4 _ _ _ _ _
      | exact ih5 _ _ _ _ _
      | exact ih6 _ _ _ _ _ _
      | exact jobshelllaw18_awake.mono _
      | exact jobshelllaw18_separator.mono _ _ _
      | exact jobshelllaw18_small.mono _ _
      | exact split_Fields.mono _ _ _
      | exact LeO.none _
      | refine LeO.ite ?_ ?_
      | refine LeO.bind ?_ (fun _ => ?_)
    · intro y0 y1 y2 y3 y4 y5
      unfold jobshelllaw18_SplitBytes.j6
      repeat' first
      | (with_reducible exact ih0 _ _ _)
      | (with_reducible exact ih1 _ _ _ _)
      | (with_reducible exact ih2 _ _ _ _ _)
      | (with_reducible exact ih3 _ _ _ _)
      | (with_reducible exact ih4 _ _ _ _ _)
      | (with_reducible exact ih5 _ _ _ _ _)
      | (with_reducible exact ih6 _ _ _ _ _ _)
      | (with_reducible exact jobshelllaw18_awake.mono _)
      | (with_reducible exact jobshelllaw18_separator.mono _ _ _)
      | (with_reducible exact jobshelllaw18_small.mono _ _)
      | (with_reducible exact split_Fields.mono _ _ _)
      | (with_reducible exact LeO.refl _)
      | (with_reducible exact LeO.none _)
      | (with_reducible refine LeO.ite ?_ ?_)
      | (with_reducible refine LeO.bind ?_ (fun _ => ?_))
      | exact ih0 _ _ _
      | exact ih1 _ _ _ _
      | exact ih2 _ _ _ _ _
      | exact ih3 _ _ _ _
      | exact ih4 _ _ _ _ _
      | exact ih5 _ _ _ _ _
      | exact ih6 _ _ _ _ _ _
      | exact jobshelllaw18_awake.mono _
      | exact jobshelllaw18_separator.mono _ _ _
      | exact jobshelllaw18_small.mono _ _
      | exact split_Fields.mono _ _ _
      | exact LeO.none _
      | refine LeO.ite ?_ ?_
      | refine LeO.bind ?_ (fun _ => ?_)
theorem jobshelllaw18_SplitBytes.mono : ∀ a0 a1 k, LeO (jobshelllaw18_SplitBytes.f k a0 a1) (jobshelllaw18_SplitBytes.f (k + 1) a0 a1) := by
  intro a0 a1 k
  obtain ⟨ih0, ih1, ih2, ih3, ih4, ih5, ih6⟩ := jobshelllaw18_SplitBytes.mono_l k
  unfold jobshelllaw18_SplitBytes.f
  repeat' first
      | (with_reducible exact ih0 _ _ _)
      | (with_reducible exact ih1 _ _ _ _)
      | (with_reducible exact ih2 _ _ _ _ _)
      | (with_reducible exact ih3 _ _ _ _)
      | (with_reducible exact ih4 _ _ _ _ _)
      | (with_reducible exact ih5 _ _ _ _ _)
      | (with_reducible exact ih6 _ _ _ _ _ _)
      | (with_reducible exact jobshelllaw18_awake.mono _)
      | (with_reducible exact jobshelllaw18_separator.mono _ _ _)
      | (with_reducible exact jobshelllaw18_small.mono _ _)
      | (with_reducible exact split_Fields.mono _ _ _)
      | (with_reducible exact LeO.refl _)
      | (with_reducible exact LeO.none _)
      | (with_reducible refine LeO.ite ?_ ?_)
      | (with_reducible refine LeO.bind ?_ (fun _ => ?_))
      | exact ih0 _ _ _
      | exact ih1 _ _ _ _
      | exact ih2 _ _ _ _ _
      | exact ih3 _ _ _ _
      | exact ih4 _ _ _ _ _
      | exact ih5 _ _ _ _ _
      | exact ih6 _ _ _ _ _ _
      | exact jobshelllaw18_awake.mono _
      | exact jobshelllaw18_separator.mono _ _ _
      | exact jobshelllaw18_small.mono _ _
      | exact split_Fields.mono _ _ _
      | exact LeO.none _
      | refine LeO.ite ?_ ?_
      | refine LeO.bind ?_ (fun _ => ?_)
set_option maxHeartbeats 3000000 in
set_option maxRecDepth 100000 in
theorem jobshelllaw18_SplitBytes.calls (k : Nat) (A0 : Option Addr) (c0 : Nat) (l0 : List (S38)) (a1 : ByteArray) (r : Bool) (w : World) (hr0 : Kd.C k38 w A0 l0.length l0) (hc0 : l0.length ≤ c0) (h : jobshelllaw18_SplitBytes.f k l0 a1 = some r) :
    Calls Try.prog 6 #[.slice A0 l0.length c0, .string a1] w fun e w' => e = .returned (.bool r) ∧ Below w.heap.size w w' := by
  have HR0 := Aside0.mk hr0
  have HC0 := Aside0.mk hc0
  clear hr0 hc0
  have HB := Aside0.mk (Below.refl w.heap.size w)
  have H : ((jobshelllaw18_small.f k l0).bind fun t411 => (if t411 = true then (jobshelllaw18_SplitBytes.j0 k l0 a1 (decide ((a1.size : Int) > 20))) else (jobshelllaw18_SplitBytes.j0 k l0 a1 true))) = some r := h
  clear h
  have HC3 := Aside0.mk H
  clear H
  go_enter Try.func6, Try.ntmps6
  go_upto_region 1 with (fail)
  repeat (go_quiet (fail); go_upto_region 1 with (fail))
  go_cut [19] (fun v19 wc => ∃ (kq : Nat) (x19_2 : Bool), v19 = .bool x19_2 ∧ Aside0 (jobshelllaw18_SplitBytes.j0 kq l0 a1 x19_2 = some r) ∧ Aside0 (kq ≤ k) ∧ Aside0 (Below w.heap.size w wc))
  case first =>
    have H := HC3.out
    clear HC3
    replace H := Option.bind_eq_some_iff.mp H
    obtain ⟨t411, A40, H⟩ := H
    replace H : (if t411 = true then (jobshelllaw18_SplitBytes.j0 k l0 a1 (decide ((a1.size : Int) > 20))) else (jobshelllaw18_SplitBytes.j0 k l0 a1 true)) = some r := H
    have A4 := Aside0.mk A40
    clear A40
    by_cases c5 : t411 = true
    · subst c5
      have H1 : (jobshelllaw18_SplitBytes.j0 k l0 a1 (decide ((a1.size : Int) > 20))) = some r := by rw [if_pos rfl] at H; exact H
      clear H
      have H := H1
      clear H1
      have H' := Aside0.mk H
      clear H
      go_wp2_with (first | (go_at_call 9; (with_reducible refine (jobshelllaw18_small.calls k _ _ l0 true _ ?side1 ?side2 A4.out).mono ?_); (case side1 => repeat (first | exact (Kd.C_below HR0.out HB.out) | (with_reducible refine Kd.C_alloc ?_ _) | (with_reducible refine Kd.C_drewN ?_ _) | (with_reducible refine Kd.C_drew ?_))); (case side2 => exact HC0.out); rintro e w' ⟨rfl, ⟨nd, rfl⟩⟩; (try first | exact ⟨rfl, _, World.drewN_drewN _ _ _⟩ | exact ⟨rfl, _, Eq.trans (World.drewN_drewN _ _ _) (congrArg (World.drewN _) (Nat.add_assoc _ _ _))⟩)))
      repeat (go_quiet (first | (go_at_call 9; (with_reducible refine (jobshelllaw18_small.calls k _ _ l0 true _ ?side1 ?side2 A4.out).mono ?_); (case side1 => repeat (first | exact (Kd.C_below HR0.out HB.out) | (with_reducible refine Kd.C_alloc ?_ _) | (with_reducible refine Kd.C_drewN ?_ _) | (with_reducible refine Kd.C_drew ?_))); (case side2 => exact HC0.out); rintro e w' ⟨rfl, ⟨nd, rfl⟩⟩; (try first | exact ⟨rfl, _, World.drewN_drewN _ _ _⟩ | exact ⟨rfl, _, Eq.trans (World.drewN_drewN _ _ _) (congrArg (World.drewN _) (Nat.add_assoc _ _ _))⟩))); try go_wp2_with (first | (go_at_call 9; (with_reducible refine (jobshelllaw18_small.calls k _ _ l0 true _ ?side1 ?side2 A4.out).mono ?_); (case side1 => repeat (first | exact (Kd.C_below HR0.out HB.out) | (with_reducible refine Kd.C_alloc ?_ _) | (with_reducible refine Kd.C_drewN ?_ _) | (with_reducible refine Kd.C_drew ?_))); (case side2 => exact HC0.out); rintro e w' ⟨rfl, ⟨nd, rfl⟩⟩; (try first | exact ⟨rfl, _, World.drewN_drewN _ _ _⟩ | exact ⟨rfl, _, Eq.trans (World.drewN_drewN _ _ _) (congrArg (World.drewN _) (Nat.add_assoc _ _ _))⟩))))
      go_meet
      case rel => exact ⟨_, (decide ((a1.size : Int) > 20)), (by first | rfl | (simp; done) | (simp [*]; done)), H', ⟨by first | omega | exact Nat.le_refl _⟩, ⟨by repeat (first | (with_reducible first | exact HB.out | apply below_alloc | apply pw_below_drewN | apply below_drew1) | exact HB.out)⟩⟩
    · replace c5 := Bool.eq_false_iff.mpr c5
      subst c5
      have H1 : (jobshelllaw18_SplitBytes.j0 k l0 a1 true) = some r := by rw [if_neg (show ¬ (false = true) by decide)] at H; exact H
      clear H
      have H := H1
      clear H1
      have H' := Aside0.mk H
      clear H
      go_wp2_with (first | (go_at_call 9; (with_reducible refine (jobshelllaw18_small.calls k _ _ l0 false _ ?side1 ?side2 A4.out).mono ?_); (case side1 => repeat (first | exact (Kd.C_below HR0.out HB.out) | (with_reducible refine Kd.C_alloc ?_ _) | (with_reducible refine Kd.C_drewN ?_ _) | (with_reducible refine Kd.C_drew ?_))); (case side2 => exact HC0.out); rintro e w' ⟨rfl, ⟨nd, rfl⟩⟩; (try first | exact ⟨rfl, _, World.drewN_drewN _ _ _⟩ | exact ⟨rfl, _, Eq.trans (World.drewN_drewN _ _ _) (congrArg (World.drewN _) (Nat.add_assoc _ _ _))⟩)))
      repeat (go_quiet (first | (go_at_call 9; (with_reducible refine (jobshelllaw18_small.calls k _ _ l0 false _ ?side1 ?side2 A4.out).mono ?_); (case side1 => repeat (first | exact (Kd.C_below HR0.out HB.out) | (with_reducible refine Kd.C_alloc ?_ _) | (with_reducible refine Kd.C_drewN ?_ _) | (with_reducible refine Kd.C_drew ?_))); (case side2 => exact HC0.out); rintro e w' ⟨rfl, ⟨nd, rfl⟩⟩; (try first | exact ⟨rfl, _, World.drewN_drewN _ _ _⟩ | exact ⟨rfl, _, Eq.trans (World.drewN_drewN _ _ _) (congrArg (World.drewN _) (Nat.add_assoc _ _ _))⟩))); try go_wp2_with (first | (go_at_call 9; (with_reducible refine (jobshelllaw18_small.calls k _ _ l0 false _ ?side1 ?side2 A4.out).mono ?_); (case side1 => repeat (first | exact (Kd.C_below HR0.out HB.out) | (with_reducible refine Kd.C_alloc ?_ _) | (with_reducible refine Kd.C_drewN ?_ _) | (with_reducible refine Kd.C_drew ?_))); (case side2 => exact HC0.out); rintro e w' ⟨rfl, ⟨nd, rfl⟩⟩; (try first | exact ⟨rfl, _, World.drewN_drewN _ _ _⟩ | exact ⟨rfl, _, Eq.trans (World.drewN_drewN _ _ _) (congrArg (World.drewN _) (Nat.add_assoc _ _ _))⟩))))
      go_meet
      case rel => exact ⟨_, (true), (by first | rfl | (simp; done) | (simp [*]; done)), H', ⟨by first | omega | exact Nat.le_refl _⟩, ⟨by repeat (first | (with_reducible first | exact HB.out | apply below_alloc | apply pw_below_drewN | apply below_drew1) | exact HB.out)⟩⟩
  case rest =>
    clear HC3
    try clear p2
    try clear c5
    obtain ⟨kq, x19_2, rfl, HA, HJ2, HB⟩ := hcut
    cases kq with
    | zero => exact absurd HA.out (by simp [jobshelllaw18_SplitBytes.j0])
    | succ kj2 =>
      have H := HA.out
      clear HA
      simp only [jobshelllaw18_SplitBytes.j0] at H
      by_cases c6 : x19_2 = true
      · subst c6
        have H1 : ((jobshelllaw18_awake.f kj2).bind fun t412 => (some t412)) = some r := by rw [if_pos rfl] at H; exact H
        clear H
        have H := H1
        clear H1
        replace H := Option.bind_eq_some_iff.mp H
        obtain ⟨t412, A70, H⟩ := H
        replace H : (some t412) = some r := H
        have A7 := Aside0.mk A70
        clear A70
        obtain rfl := Option.some.inj H
        go_wp2_with (first | (go_at_call 10; (with_reducible refine (jobshelllaw18_awake.calls kj2  t412 _ A7.out).mono ?_); rintro e w8 ⟨rfl, hb⟩; have n0_ := Aside0.mk (below_step (by repeat (first | (with_reducible first | exact HB.out | apply below_alloc | apply pw_below_drewN | apply below_drew1) | exact HB.out)) hb); clear HB; have HB := n0_; clear n0_; (try clear hb); (try clear hb2); (try clear hk); (try clear hi)))
        repeat (go_quiet (first | (go_at_call 10; (with_reducible refine (jobshelllaw18_awake.calls kj2  t412 _ A7.out).mono ?_); rintro e w8 ⟨rfl, hb⟩; have n0_ := Aside0.mk (below_step (by repeat (first | (with_reducible first | exact HB.out | apply below_alloc | apply pw_below_drewN | apply below_drew1) | exact HB.out)) hb); clear HB; have HB := n0_; clear n0_; (try clear hb); (try clear hb2); (try clear hk); (try clear hi))); try go_wp2_with (first | (go_at_call 10; (with_reducible refine (jobshelllaw18_awake.calls kj2  t412 _ A7.out).mono ?_); rintro e w8 ⟨rfl, hb⟩; have n0_ := Aside0.mk (below_step (by repeat (first | (with_reducible first | exact HB.out | apply below_alloc | apply pw_below_drewN | apply below_drew1) | exact HB.out)) hb); clear HB; have HB := n0_; clear n0_; (try clear hb); (try clear hb2); (try clear hk); (try clear hi))))
        go_ret
        exact ⟨by first | rfl | (simp [errW_none, errW_some] <;> rfl) | (simp [*, errW_none, errW_some] <;> rfl), by repeat (first | (with_reducible first | exact HB.out | apply below_alloc | apply pw_below_drewN | apply below_drew1) | exact HB.out)⟩
      · replace c6 := Bool.eq_false_iff.mpr c6
        subst c6
        have H1 : (jobshelllaw18_SplitBytes.l0 kj2 l0 a1 (⟨#[]⟩ : ByteArray) 0) = some r := by rw [if_neg (show ¬ (false = true) by decide)] at H; exact H
        clear H
        have H := H1
        clear H1
        have H' := Aside0.mk H
        clear H
        go_wp2
        repeat (go_quiet (fail); try go_wp2)
        go_loopg [5, 6] kj2 (fun kq v5 v6 w' => ∃ (x5_2 : ByteArray) (x6_2 : Int), v5 = .string x5_2 ∧ v6 = .int .i64 x6_2 ∧ Aside0 (jobshelllaw18_SplitBytes.l0 kq l0 a1 x5_2 x6_2 = some r) ∧ Aside0 (kq ≤ kj2) ∧ Aside0 (Below w.heap.size w w'))
        case atStart => exact ⟨((⟨#[]⟩ : ByteArray)), (0), (by first | rfl | (simp; done) | (simp [*]; done)), (by first | rfl | (simp; done) | (simp [*]; done)), H', ⟨Nat.le_refl _⟩, ⟨by repeat (first | (with_reducible first | exact HB.out | apply below_alloc | apply pw_below_drewN | apply below_drew1) | exact HB.out)⟩⟩
        case round =>
          clear H'
          try clear p2
          try clear c5
          try clear c6
          try clear p2
          obtain ⟨x5_2, x6_2, rfl, rfl, HA, HK2, HB⟩ := hrel
          cases gk with
          | zero => exact absurd HA.out (by simp [jobshelllaw18_SplitBytes.l0])
          | succ k2 =>
            have H := HA.out
            clear HA
            simp only [jobshelllaw18_SplitBytes.l0] at H
            by_cases c9 : x6_2 < (l0.length : Int)
            · rw [if_pos c9] at H
              have c9b0 : decide (x6_2 < (l0.length : Int)) = true := decide_eq_true c9
              clear c9
              have H' := Aside0.mk H
              clear H
              go_wp2
              repeat (go_quiet (fail); try go_wp2)
              go_loopg [5, 7] k2 (fun kq v5 v7 w' => ∃ (x5_3 : ByteArray) (x7_3 : Int), v5 = .string x5_3 ∧ v7 = .int .i64 x7_3 ∧ Aside0 (jobshelllaw18_SplitBytes.l1 kq l0 a1 x5_3 x6_2 x7_3 = some r) ∧ Aside0 (kq ≤ k2) ∧ Aside0 (Below w.heap.size w w'))
              case atStart => exact ⟨(x5_2), (0), (by first | rfl | (simp; done) | (simp [*]; done)), (by first | rfl | (simp; done) | (simp [*]; done)), H', ⟨Nat.le_refl _⟩, ⟨by repeat (first | (with_reducible first | exact HB.out | apply below_alloc | apply pw_below_drewN | apply below_drew1) | exact HB.out)⟩⟩
              case round =>
                clear H'
                try clear p2
                try clear c5
                try clear c6
                try clear c9
                try clear c9b0
                try clear p2
                obtain ⟨x5_3, x7_3, rfl, rfl, HA, HK3, HB⟩ := hrel
                cases gk with
                | zero => exact absurd HA.out (by simp [jobshelllaw18_SplitBytes.l1])
                | succ k3 =>
                  have H := HA.out
                  clear HA
                  simp only [jobshelllaw18_SplitBytes.l1] at H
                  by_cases c10 : 0 ≤ x6_2
                  · rw [if_pos c10] at H
                    have c10b0 : decide (0 ≤ x6_2) = true := decide_eq_true c10
                    clear c10
                    by_cases c11 : x6_2 < (l0.length : Int)
                    · rw [if_pos c11] at H
                      have c11b0 : decide (x6_2 < (l0.length : Int)) = true := decide_eq_true c11
                      clear c11
                      by_cases c12 : x7_3 < (((rd_T38 l0 x6_2).f0).size : Int)
                      · rw [if_pos c12] at H
                        have c12b0 : decide (x7_3 < (((rd_T38 l0 x6_2).f0).size : Int)) = true := decide_eq_true c12
                        clear c12
                        by_cases c13 : ((rd_T38 l0 x6_2).f1) = 0
                        · rw [if_pos c13] at H
                          have c13b0 : (((rd_T38 l0 x6_2).f1) == 0) = true := beq_iff_eq.mpr c13
                          have c13b1 : (((rd_T38 l0 x6_2).f1) != 0) = false := bne_eq_false_iff_eq.mpr c13
                          clear c13
                          by_cases c14 : 0 ≤ x7_3
                          · rw [if_pos c14] at H
                            have c14b0 := eq_true c14
                            have c14b1 : decide (0 ≤ x7_3) = true := decide_eq_true c14
                            clear c14
                            by_cases c15 : x7_3 ≤ (wrap64 (x7_3 + 1))
                            · rw [if_pos c15] at H
                              have c15b0 := eq_true c15
                              have c15b1 : decide (x7_3 ≤ (wrap64 (x7_3 + 1))) = true := decide_eq_true c15
                              by_cases c16 : (wrap64 (x7_3 + 1)) ≤ (((rd_T38 l0 x6_2).f0).size : Int)
                              · rw [if_pos c16] at H
                                have c16b0 := eq_true c16
                                have c16b1 : decide ((wrap64 (x7_3 + 1)) ≤ (((rd_T38 l0 x6_2).f0).size : Int)) = true := decide_eq_true c16
                                by_cases c17 : x5_3.size + (((rd_T38 l0 x6_2).f0).extract (x7_3 : Int).toNat ((wrap64 (x7_3 + 1)) : Int).toNat).size ≤ 9223372036854775807
                                · rw [if_pos c17] at H
                                  have c17b0 := eq_true c17
                                  have c17b1 : decide (x5_3.size + (((rd_T38 l0 x6_2).f0).extract (x7_3 : Int).toNat ((wrap64 (x7_3 + 1)) : Int).toNat).size ≤ 9223372036854775807) = true := decide_eq_true c17
                                  try have c17b2 : (9223372036854775807 < x5_3.size + (((rd_T38 l0 x6_2).f0).extract (x7_3 : Int).toNat ((wrap64 (x7_3 + 1)) : Int).toNat).size) = False := eq_false (Nat.not_lt.2 c17)
                                  have H' := Aside0.mk H
                                  clear H
                                  have p413 : 0 ≤ (x6_2 : Int) := of_decide_eq_true (by first | (with_reducible assumption) | assumption)
                                  have q413 : x6_2 < (l0.length : Int) := of_decide_eq_true (by first | (with_reducible assumption) | assumption)
                                  obtain ⟨ad413, e413, hx413_0, hx413_1⟩ := at_T38 HR0.out x6_2 p413 q413
                                  cases e413
                                  replace hx413_0 := (HB.out.cell (World.block_lt_of_cell? w _ hx413_0)).trans hx413_0
                                  replace hx413_1 := (HB.out.cell (World.block_lt_of_cell? w _ hx413_1)).trans hx413_1
                                  replace p413 := eq_true p413
                                  replace q413 := eq_true q413
                                  have p414 : 0 ≤ (x6_2 : Int) := of_decide_eq_true (by first | (with_reducible assumption) | assumption)
                                  have q414 : x6_2 < (l0.length : Int) := of_decide_eq_true (by first | (with_reducible assumption) | assumption)
                                  obtain ⟨ad414, e414, hx414_0, hx414_1⟩ := at_T38 HR0.out x6_2 p414 q414
                                  obtain rfl : ad413 = ad414 := (by injection e414)
                                  replace hx414_0 := (HB.out.cell (World.block_lt_of_cell? w _ hx414_0)).trans hx414_0
                                  replace hx414_1 := (HB.out.cell (World.block_lt_of_cell? w _ hx414_1)).trans hx414_1
                                  replace p414 := eq_true p414
                                  replace q414 := eq_true q414
                                  have p415 : 0 ≤ (x6_2 : Int) := of_decide_eq_true (by first | (with_reducible assumption) | assumption)
                                  have q415 : x6_2 < (l0.length : Int) := of_decide_eq_true (by first | (with_reducible assumption) | assumption)
                                  obtain ⟨ad415, e415, hx415_0, hx415_1⟩ := at_T38 HR0.out x6_2 p415 q415
                                  obtain rfl : ad413 = ad415 := (by injection e415)
                                  replace hx415_0 := (HB.out.cell (World.block_lt_of_cell? w _ hx415_0)).trans hx415_0
                                  replace hx415_1 := (HB.out.cell (World.block_lt_of_cell? w _ hx415_1)).trans hx415_1
                                  replace p415 := eq_true p415
                                  replace q415 := eq_true q415
                                  go_wp2
                                  repeat (go_quiet (fail); try go_wp2)
                                  go_roundg k3
                                  case measure => have := HJ2.out; have := HK2.out; have := HK3.out; omega
                                  case rel => exact ⟨(x5_3 ++ (((rd_T38 l0 x6_2).f0).extract (x7_3 : Int).toNat ((wrap64 (x7_3 + 1)) : Int).toNat)), (wrap64 (x7_3 + 1)), (by first | rfl | (simp; done) | (simp [*]; done)), (by first | rfl | (simp; done) | (simp [*]; done)), H', ⟨by have := HJ2.out; have := HK2.out; have := HK3.out; omega⟩, ⟨by repeat (first | (with_reducible first | exact HB.out | apply below_alloc | apply pw_below_drewN | apply below_drew1) | exact HB.out)⟩⟩
                                · rw [if_neg c17] at H
                                  exact absurd H (by simp)
                              · rw [if_neg c16] at H
                                exact absurd H (by simp)
                            · rw [if_neg c15] at H
                              exact absurd H (by simp)
                          · rw [if_neg c14] at H
                            exact absurd H (by simp)
                        · rw [if_neg c13] at H
                          have c13b0 : (((rd_T38 l0 x6_2).f1) == 0) = false := beq_eq_false_iff_ne.mpr c13
                          have c13b1 : (((rd_T38 l0 x6_2).f1) != 0) = true := bne_iff_ne.mpr c13
                          by_cases c18 : ((rd_T38 l0 x6_2).f1) = 1
                          · rw [if_pos c18] at H
                            have c18b0 : (((rd_T38 l0 x6_2).f1) == 1) = true := beq_iff_eq.mpr c18
                            have c18b1 : (((rd_T38 l0 x6_2).f1) != 1) = false := bne_eq_false_iff_eq.mpr c18
                            clear c18
                            by_cases c19 : 0 ≤ x7_3
                            · rw [if_pos c19] at H
                              have c19b0 := eq_true c19
                              have c19b1 : decide (0 ≤ x7_3) = true := decide_eq_true c19
                              clear c19
                              by_cases c20 : x7_3 ≤ (wrap64 (x7_3 + 1))
                              · rw [if_pos c20] at H
                                have c20b0 := eq_true c20
                                have c20b1 : decide (x7_3 ≤ (wrap64 (x7_3 + 1))) = true := decide_eq_true c20
                                by_cases c21 : (wrap64 (x7_3 + 1)) ≤ (((rd_T38 l0 x6_2).f0).size : Int)
                                · rw [if_pos c21] at H
                                  have c21b0 := eq_true c21
                                  have c21b1 : decide ((wrap64 (x7_3 + 1)) ≤ (((rd_T38 l0 x6_2).f0).size : Int)) = true := decide_eq_true c21
                                  by_cases c22 : x5_3.size + (((rd_T38 l0 x6_2).f0).extract (x7_3 : Int).toNat ((wrap64 (x7_3 + 1)) : Int).toNat).size ≤ 9223372036854775807
                                  · rw [if_pos c22] at H
                                    have c22b0 := eq_true c22
                                    have c22b1 : decide (x5_3.size + (((rd_T38 l0 x6_2).f0).extract (x7_3 : Int).toNat ((wrap64 (x7_3 + 1)) : Int).toNat).size ≤ 9223372036854775807) = true := decide_eq_true c22
                                    try have c22b2 : (9223372036854775807 < x5_3.size + (((rd_T38 l0 x6_2).f0).extract (x7_3 : Int).toNat ((wrap64 (x7_3 + 1)) : Int).toNat).size) = False := eq_false (Nat.not_lt.2 c22)
                                    have H' := Aside0.mk H
                                    clear H
                                    have p413 : 0 ≤ (x6_2 : Int) := of_decide_eq_true (by first | (with_reducible assumption) | assumption)
                                    have q413 : x6_2 < (l0.length : Int) := of_decide_eq_true (by first | (with_reducible assumption) | assumption)
                                    obtain ⟨ad413, e413, hx413_0, hx413_1⟩ := at_T38 HR0.out x6_2 p413 q413
                                    cases e413
                                    replace hx413_0 := (HB.out.cell (World.block_lt_of_cell? w _ hx413_0)).trans hx413_0
                                    replace hx413_1 := (HB.out.cell (World.block_lt_of_cell? w _ hx413_1)).trans hx413_1
                                    replace p413 := eq_true p413
                                    replace q413 := eq_true q413
                                    have p414 : 0 ≤ (x6_2 : Int) := of_decide_eq_true (by first | (with_reducible assumption) | assumption)
                                    have q414 : x6_2 < (l0.length : Int) := of_decide_eq_true (by first | (with_reducible assumption) | assumption)
                                    obtain ⟨ad414, e414, hx414_0, hx414_1⟩ := at_T38 HR0.out x6_2 p414 q414
                                    obtain rfl : ad413 = ad414 := (by injection e414)
                                    replace hx414_0 := (HB.out.cell (World.block_lt_of_cell? w _ hx414_0)).trans hx414_0
                                    replace hx414_1 := (HB.out.cell (World.block_lt_of_cell? w _ hx414_1)).trans hx414_1
                                    replace p414 := eq_true p414
                                    replace q414 := eq_true q414
                                    have p416 : 0 ≤ (x6_2 : Int) := of_decide_eq_true (by first | (with_reducible assumption) | assumption)
                                    have q416 : x6_2 < (l0.length : Int) := of_decide_eq_true (by first | (with_reducible assumption) | assumption)
                                    obtain ⟨ad416, e416, hx416_0, hx416_1⟩ := at_T38 HR0.out x6_2 p416 q416
                                    obtain rfl : ad413 = ad416 := (by injection e416)
                                    replace hx416_0 := (HB.out.cell (World.block_lt_of_cell? w _ hx416_0)).trans hx416_0
                                    replace hx416_1 := (HB.out.cell (World.block_lt_of_cell? w _ hx416_1)).trans hx416_1
                                    replace p416 := eq_true p416
                                    replace q416 := eq_true q416
                                    have p417 : 0 ≤ (x6_2 : Int) := of_decide_eq_true (by first | (with_reducible assumption) | assumption)
                                    have q417 : x6_2 < (l0.length : Int) := of_decide_eq_true (by first | (with_reducible assumption) | assumption)
                                    obtain ⟨ad417, e417, hx417_0, hx417_1⟩ := at_T38 HR0.out x6_2 p417 q417
                                    obtain rfl : ad413 = ad417 := (by injection e417)
                                    replace hx417_0 := (HB.out.cell (World.block_lt_of_cell? w _ hx417_0)).trans hx417_0
                                    replace hx417_1 := (HB.out.cell (World.block_lt_of_cell? w _ hx417_1)).trans hx417_1
                                    replace p417 := eq_true p417
                                    replace q417 := eq_true q417
                                    go_wp2
                                    repeat (go_quiet (fail); try go_wp2)
                                    go_roundg k3
                                    case measure => have := HJ2.out; have := HK2.out; have := HK3.out; omega
                                    case rel => exact ⟨(x5_3 ++ (((rd_T38 l0 x6_2).f0).extract (x7_3 : Int).toNat ((wrap64 (x7_3 + 1)) : Int).toNat)), (wrap64 (x7_3 + 1)), (by first | rfl | (simp; done) | (simp [*]; done)), (by first | rfl | (simp; done) | (simp [*]; done)), H', ⟨by have := HJ2.out; have := HK2.out; have := HK3.out; omega⟩, ⟨by repeat (first | (with_reducible first | exact HB.out | apply below_alloc | apply pw_below_drewN | apply below_drew1) | exact HB.out)⟩⟩
                                  · rw [if_neg c22] at H
                                    exact absurd H (by simp)
                                · rw [if_neg c21] at H
                                  exact absurd H (by simp)
                              · rw [if_neg c20] at H
                                exact absurd H (by simp)
                            · rw [if_neg c19] at H
                              exact absurd H (by simp)
                          · rw [if_neg c18] at H
                            have c18b0 : (((rd_T38 l0 x6_2).f1) == 1) = false := beq_eq_false_iff_ne.mpr c18
                            have c18b1 : (((rd_T38 l0 x6_2).f1) != 1) = true := bne_iff_ne.mpr c18
                            by_cases c23 : ((rd_T38 l0 x6_2).f1) = 2
                            · rw [if_pos c23] at H
                              have c23b0 : (((rd_T38 l0 x6_2).f1) == 2) = true := beq_iff_eq.mpr c23
                              have c23b1 : (((rd_T38 l0 x6_2).f1) != 2) = false := bne_eq_false_iff_eq.mpr c23
                              clear c23
                              by_cases c24 : 0 ≤ x7_3
                              · rw [if_pos c24] at H
                                have c24b0 : decide (0 ≤ x7_3) = true := decide_eq_true c24
                                clear c24
                                replace H := Option.bind_eq_some_iff.mp H
                                obtain ⟨t420, A260, H⟩ := H
                                replace H : (if t420 = true then (jobshelllaw18_SplitBytes.l1 k3 l0 a1 x5_3 x6_2 (wrap64 (x7_3 + 1))) else (if x7_3 ≤ (wrap64 (x7_3 + 1)) then (if (wrap64 (x7_3 + 1)) ≤ (((rd_T38 l0 x6_2).f0).size : Int) then (if x5_3.size + (((rd_T38 l0 x6_2).f0).extract (x7_3 : Int).toNat ((wrap64 (x7_3 + 1)) : Int).toNat).size ≤ 9223372036854775807 then (jobshelllaw18_SplitBytes.l1 k3 l0 a1 (x5_3 ++ (((rd_T38 l0 x6_2).f0).extract (x7_3 : Int).toNat ((wrap64 (x7_3 + 1)) : Int).toNat)) x6_2 (wrap64 (x7_3 + 1))) else (none)) else (none)) else (none))) = some r := H
                                have A26 := Aside0.mk A260
                                clear A260
                                by_cases c27 : t420 = true
                                · subst c27
                                  have H1 : (jobshelllaw18_SplitBytes.l1 k3 l0 a1 x5_3 x6_2 (wrap64 (x7_3 + 1))) = some r := by rw [if_pos rfl] at H; exact H
                                  clear H
                                  have H := H1
                                  clear H1
                                  have H' := Aside0.mk H
                                  clear H
                                  have p413 : 0 ≤ (x6_2 : Int) := of_decide_eq_true (by first | (with_reducible assumption) | assumption)
                                  have q413 : x6_2 < (l0.length : Int) := of_decide_eq_true (by first | (with_reducible assumption) | assumption)
                                  obtain ⟨ad413, e413, hx413_0, hx413_1⟩ := at_T38 HR0.out x6_2 p413 q413
                                  cases e413
                                  replace hx413_0 := (HB.out.cell (World.block_lt_of_cell? w _ hx413_0)).trans hx413_0
                                  replace hx413_1 := (HB.out.cell (World.block_lt_of_cell? w _ hx413_1)).trans hx413_1
                                  replace p413 := eq_true p413
                                  replace q413 := eq_true q413
                                  have p414 : 0 ≤ (x6_2 : Int) := of_decide_eq_true (by first | (with_reducible assumption) | assumption)
                                  have q414 : x6_2 < (l0.length : Int) := of_decide_eq_true (by first | (with_reducible assumption) | assumption)
                                  obtain ⟨ad414, e414, hx414_0, hx414_1⟩ := at_T38 HR0.out x6_2 p414 q414
                                  obtain rfl : ad413 = ad414 := (by injection e414)
                                  replace hx414_0 := (HB.out.cell (World.block_lt_of_cell? w _ hx414_0)).trans hx414_0
                                  replace hx414_1 := (HB.out.cell (World.block_lt_of_cell? w _ hx414_1)).trans hx414_1
                                  replace p414 := eq_true p414
                                  replace q414 := eq_true q414
                                  have p416 : 0 ≤ (x6_2 : Int) := of_decide_eq_true (by first | (with_reducible assumption) | assumption)
                                  have q416 : x6_2 < (l0.length : Int) := of_decide_eq_true (by first | (with_reducible assumption) | assumption)
                                  obtain ⟨ad416, e416, hx416_0, hx416_1⟩ := at_T38 HR0.out x6_2 p416 q416
                                  obtain rfl : ad413 = ad416 := (by injection e416)
                                  replace hx416_0 := (HB.out.cell (World.block_lt_of_cell? w _ hx416_0)).trans hx416_0
                                  replace hx416_1 := (HB.out.cell (World.block_lt_of_cell? w _ hx416_1)).trans hx416_1
                                  replace p416 := eq_true p416
                                  replace q416 := eq_true q416
                                  have p418 : 0 ≤ (x6_2 : Int) := of_decide_eq_true (by first | (with_reducible assumption) | assumption)
                                  have q418 : x6_2 < (l0.length : Int) := of_decide_eq_true (by first | (with_reducible assumption) | assumption)
                                  obtain ⟨ad418, e418, hx418_0, hx418_1⟩ := at_T38 HR0.out x6_2 p418 q418
                                  obtain rfl : ad413 = ad418 := (by injection e418)
                                  replace hx418_0 := (HB.out.cell (World.block_lt_of_cell? w _ hx418_0)).trans hx418_0
                                  replace hx418_1 := (HB.out.cell (World.block_lt_of_cell? w _ hx418_1)).trans hx418_1
                                  replace p418 := eq_true p418
                                  replace q418 := eq_true q418
                                  have p419 : 0 ≤ (x6_2 : Int) := of_decide_eq_true (by first | (with_reducible assumption) | assumption)
                                  have q419 : x6_2 < (l0.length : Int) := of_decide_eq_true (by first | (with_reducible assumption) | assumption)
                                  obtain ⟨ad419, e419, hx419_0, hx419_1⟩ := at_T38 HR0.out x6_2 p419 q419
                                  obtain rfl : ad413 = ad419 := (by injection e419)
                                  replace hx419_0 := (HB.out.cell (World.block_lt_of_cell? w _ hx419_0)).trans hx419_0
                                  replace hx419_1 := (HB.out.cell (World.block_lt_of_cell? w _ hx419_1)).trans hx419_1
                                  replace p419 := eq_true p419
                                  replace q419 := eq_true q419
                                  have p25 : 0 ≤ (x7_3 : Int) := of_decide_eq_true (by first | (with_reducible assumption) | assumption)
                                  have q25 : x7_3 < (((rd_T38 l0 x6_2).f0).size : Int) := of_decide_eq_true (by first | (with_reducible assumption) | assumption)
                                  have hx25 := bt_at ((rd_T38 l0 x6_2).f0) x7_3
                                  replace p25 := eq_true p25
                                  replace q25 := eq_true q25
                                  go_wp2_with (first | (go_at_call 22; (with_reducible refine (jobshelllaw18_separator.calls k3 (bt ((rd_T38 l0 x6_2).f0) x7_3) a1 true _ A26.out).mono ?_); rintro e w' ⟨rfl, ⟨nd, rfl⟩⟩; (try first | exact ⟨rfl, _, World.drewN_drewN _ _ _⟩ | exact ⟨rfl, _, Eq.trans (World.drewN_drewN _ _ _) (congrArg (World.drewN _) (Nat.add_assoc _ _ _))⟩)))
                                  repeat (go_quiet (first | (go_at_call 22; (with_reducible refine (jobshelllaw18_separator.calls k3 (bt ((rd_T38 l0 x6_2).f0) x7_3) a1 true _ A26.out).mono ?_); rintro e w' ⟨rfl, ⟨nd, rfl⟩⟩; (try first | exact ⟨rfl, _, World.drewN_drewN _ _ _⟩ | exact ⟨rfl, _, Eq.trans (World.drewN_drewN _ _ _) (congrArg (World.drewN _) (Nat.add_assoc _ _ _))⟩))); try go_wp2_with (first | (go_at_call 22; (with_reducible refine (jobshelllaw18_separator.calls k3 (bt ((rd_T38 l0 x6_2).f0) x7_3) a1 true _ A26.out).mono ?_); rintro e w' ⟨rfl, ⟨nd, rfl⟩⟩; (try first | exact ⟨rfl, _, World.drewN_drewN _ _ _⟩ | exact ⟨rfl, _, Eq.trans (World.drewN_drewN _ _ _) (congrArg (World.drewN _) (Nat.add_assoc _ _ _))⟩))))
                                  go_roundg k3
                                  case measure => have := HJ2.out; have := HK2.out; have := HK3.out; omega
                                  case rel => exact ⟨(x5_3), (wrap64 (x7_3 + 1)), (by first | rfl | (simp; done) | (simp [*]; done)), (by first | rfl | (simp; done) | (simp [*]; done)), H', ⟨by have := HJ2.out; have := HK2.out; have := HK3.out; omega⟩, ⟨by repeat (first | (with_reducible first | exact HB.out | apply below_alloc | apply pw_below_drewN | apply below_drew1) | exact HB.out)⟩⟩
                                · replace c27 := Bool.eq_false_iff.mpr c27
                                  subst c27
                                  have H1 : (if x7_3 ≤ (wrap64 (x7_3 + 1)) then (if (wrap64 (x7_3 + 1)) ≤ (((rd_T38 l0 x6_2).f0).size : Int) then (if x5_3.size + (((rd_T38 l0 x6_2).f0).extract (x7_3 : Int).toNat ((wrap64 (x7_3 + 1)) : Int).toNat).size ≤ 9223372036854775807 then (jobshelllaw18_SplitBytes.l1 k3 l0 a1 (x5_3 ++ (((rd_T38 l0 x6_2).f0).extract (x7_3 : Int).toNat ((wrap64 (x7_3 + 1)) : Int).toNat)) x6_2 (wrap64 (x7_3 + 1))) else (none)) else (none)) else (none)) = some r := by rw [if_neg (show ¬ (false = true) by decide)] at H; exact H
                                  clear H
                                  have H := H1
                                  clear H1
                                  have c28b0 := eq_true (of_decide_eq_true (by first | (with_reducible assumption) | assumption) : 0 ≤ x7_3)
                                  by_cases c29 : x7_3 ≤ (wrap64 (x7_3 + 1))
                                  · rw [if_pos c29] at H
                                    have c29b0 := eq_true c29
                                    have c29b1 : decide (x7_3 ≤ (wrap64 (x7_3 + 1))) = true := decide_eq_true c29
                                    by_cases c30 : (wrap64 (x7_3 + 1)) ≤ (((rd_T38 l0 x6_2).f0).size : Int)
                                    · rw [if_pos c30] at H
                                      have c30b0 := eq_true c30
                                      have c30b1 : decide ((wrap64 (x7_3 + 1)) ≤ (((rd_T38 l0 x6_2).f0).size : Int)) = true := decide_eq_true c30
                                      by_cases c31 : x5_3.size + (((rd_T38 l0 x6_2).f0).extract (x7_3 : Int).toNat ((wrap64 (x7_3 + 1)) : Int).toNat).size ≤ 9223372036854775807
                                      · rw [if_pos c31] at H
                                        have c31b0 := eq_true c31
                                        have c31b1 : decide (x5_3.size + (((rd_T38 l0 x6_2).f0).extract (x7_3 : Int).toNat ((wrap64 (x7_3 + 1)) : Int).toNat).size ≤ 9223372036854775807) = true := decide_eq_true c31
                                        try have c31b2 : (9223372036854775807 < x5_3.size + (((rd_T38 l0 x6_2).f0).extract (x7_3 : Int).toNat ((wrap64 (x7_3 + 1)) : Int).toNat).size) = False := eq_false (Nat.not_lt.2 c31)
                                        have H' := Aside0.mk H
                                        clear H
                                        have p413 : 0 ≤ (x6_2 : Int) := of_decide_eq_true (by first | (with_reducible assumption) | assumption)
                                        have q413 : x6_2 < (l0.length : Int) := of_decide_eq_true (by first | (with_reducible assumption) | assumption)
                                        obtain ⟨ad413, e413, hx413_0, hx413_1⟩ := at_T38 HR0.out x6_2 p413 q413
                                        cases e413
                                        replace hx413_0 := (HB.out.cell (World.block_lt_of_cell? w _ hx413_0)).trans hx413_0
                                        replace hx413_1 := (HB.out.cell (World.block_lt_of_cell? w _ hx413_1)).trans hx413_1
                                        replace p413 := eq_true p413
                                        replace q413 := eq_true q413
                                        have p414 : 0 ≤ (x6_2 : Int) := of_decide_eq_true (by first | (with_reducible assumption) | assumption)
                                        have q414 : x6_2 < (l0.length : Int) := of_decide_eq_true (by first | (with_reducible assumption) | assumption)
                                        obtain ⟨ad414, e414, hx414_0, hx414_1⟩ := at_T38 HR0.out x6_2 p414 q414
                                        obtain rfl : ad413 = ad414 := (by injection e414)
                                        replace hx414_0 := (HB.out.cell (World.block_lt_of_cell? w _ hx414_0)).trans hx414_0
                                        replace hx414_1 := (HB.out.cell (World.block_lt_of_cell? w _ hx414_1)).trans hx414_1
                                        replace p414 := eq_true p414
                                        replace q414 := eq_true q414
                                        have p416 : 0 ≤ (x6_2 : Int) := of_decide_eq_true (by first | (with_reducible assumption) | assumption)
                                        have q416 : x6_2 < (l0.length : Int) := of_decide_eq_true (by first | (with_reducible assumption) | assumption)
                                        obtain ⟨ad416, e416, hx416_0, hx416_1⟩ := at_T38 HR0.out x6_2 p416 q416
                                        obtain rfl : ad413 = ad416 := (by injection e416)
                                        replace hx416_0 := (HB.out.cell (World.block_lt_of_cell? w _ hx416_0)).trans hx416_0
                                        replace hx416_1 := (HB.out.cell (World.block_lt_of_cell? w _ hx416_1)).trans hx416_1
                                        replace p416 := eq_true p416
                                        replace q416 := eq_true q416
                                        have p418 : 0 ≤ (x6_2 : Int) := of_decide_eq_true (by first | (with_reducible assumption) | assumption)
                                        have q418 : x6_2 < (l0.length : Int) := of_decide_eq_true (by first | (with_reducible assumption) | assumption)
                                        obtain ⟨ad418, e418, hx418_0, hx418_1⟩ := at_T38 HR0.out x6_2 p418 q418
                                        obtain rfl : ad413 = ad418 := (by injection e418)
                                        replace hx418_0 := (HB.out.cell (World.block_lt_of_cell? w _ hx418_0)).trans hx418_0
                                        replace hx418_1 := (HB.out.cell (World.block_lt_of_cell? w _ hx418_1)).trans hx418_1
                                        replace p418 := eq_true p418
                                        replace q418 := eq_true q418
                                        have p419 : 0 ≤ (x6_2 : Int) := of_decide_eq_true (by first | (with_reducible assumption) | assumption)
                                        have q419 : x6_2 < (l0.length : Int) := of_decide_eq_true (by first | (with_reducible assumption) | assumption)
                                        obtain ⟨ad419, e419, hx419_0, hx419_1⟩ := at_T38 HR0.out x6_2 p419 q419
                                        obtain rfl : ad413 = ad419 := (by injection e419)
                                        replace hx419_0 := (HB.out.cell (World.block_lt_of_cell? w _ hx419_0)).trans hx419_0
                                        replace hx419_1 := (HB.out.cell (World.block_lt_of_cell? w _ hx419_1)).trans hx419_1
                                        replace p419 := eq_true p419
                                        replace q419 := eq_true q419
                                        have p25 : 0 ≤ (x7_3 : Int) := of_decide_eq_true (by first | (with_reducible assumption) | assumption)
                                        have q25 : x7_3 < (((rd_T38 l0 x6_2).f0).size : Int) := of_decide_eq_true (by first | (with_reducible assumption) | assumption)
                                        have hx25 := bt_at ((rd_T38 l0 x6_2).f0) x7_3
                                        replace p25 := eq_true p25
                                        replace q25 := eq_true q25
                                        go_wp2_with (first | (go_at_call 22; (with_reducible refine (jobshelllaw18_separator.calls k3 (bt ((rd_T38 l0 x6_2).f0) x7_3) a1 false _ A26.out).mono ?_); rintro e w' ⟨rfl, ⟨nd, rfl⟩⟩; (try first | exact ⟨rfl, _, World.drewN_drewN _ _ _⟩ | exact ⟨rfl, _, Eq.trans (World.drewN_drewN _ _ _) (congrArg (World.drewN _) (Nat.add_assoc _ _ _))⟩); have p421 : 0 ≤ (x6_2 : Int) := of_decide_eq_true (by first | (with_reducible assumption) | assumption); have q421 : x6_2 < (l0.length : Int) := of_decide_eq_true (by first | (with_reducible assumption) | assumption); obtain ⟨ad421, e421, hx421_0, hx421_1⟩ := at_T38 HR0.out x6_2 p421 q421; obtain rfl : ad413 = ad421 := (by injection e421); replace hx421_0 := (HB.out.cell (World.block_lt_of_cell? w _ hx421_0)).trans hx421_0; replace hx421_1 := (HB.out.cell (World.block_lt_of_cell? w _ hx421_1)).trans hx421_1; replace p421 := eq_true p421; replace q421 := eq_true q421))
                                        repeat (go_quiet (first | (go_at_call 22; (with_reducible refine (jobshelllaw18_separator.calls k3 (bt ((rd_T38 l0 x6_2).f0) x7_3) a1 false _ A26.out).mono ?_); rintro e w' ⟨rfl, ⟨nd, rfl⟩⟩; (try first | exact ⟨rfl, _, World.drewN_drewN _ _ _⟩ | exact ⟨rfl, _, Eq.trans (World.drewN_drewN _ _ _) (congrArg (World.drewN _) (Nat.add_assoc _ _ _))⟩); have p421 : 0 ≤ (x6_2 : Int) := of_decide_eq_true (by first | (with_reducible assumption) | assumption); have q421 : x6_2 < (l0.length : Int) := of_decide_eq_true (by first | (with_reducible assumption) | assumption); obtain ⟨ad421, e421, hx421_0, hx421_1⟩ := at_T38 HR0.out x6_2 p421 q421; obtain rfl : ad413 = ad421 := (by injection e421); replace hx421_0 := (HB.out.cell (World.block_lt_of_cell? w _ hx421_0)).trans hx421_0; replace hx421_1 := (HB.out.cell (World.block_lt_of_cell? w _ hx421_1)).trans hx421_1; replace p421 := eq_true p421; replace q421 := eq_true q421)); try go_wp2_with (first | (go_at_call 22; (with_reducible refine (jobshelllaw18_separator.calls k3 (bt ((rd_T38 l0 x6_2).f0) x7_3) a1 false _ A26.out).mono ?_); rintro e w' ⟨rfl, ⟨nd, rfl⟩⟩; (try first | exact ⟨rfl, _, World.drewN_drewN _ _ _⟩ | exact ⟨rfl, _, Eq.trans (World.drewN_drewN _ _ _) (congrArg (World.drewN _) (Nat.add_assoc _ _ _))⟩); have p421 : 0 ≤ (x6_2 : Int) := of_decide_eq_true (by first | (with_reducible assumption) | assumption); have q421 : x6_2 < (l0.length : Int) := of_decide_eq_true (by first | (with_reducible assumption) | assumption); obtain ⟨ad421, e421, hx421_0, hx421_1⟩ := at_T38 HR0.out x6_2 p421 q421; obtain rfl : ad413 = ad421 := (by injection e421); replace hx421_0 := (HB.out.cell (World.block_lt_of_cell? w _ hx421_0)).trans hx421_0; replace hx421_1 := (HB.out.cell (World.block_lt_of_cell? w _ hx421_1)).trans hx421_1; replace p421 := eq_true p421; replace q421 := eq_true q421)))
                                        go_roundg k3
                                        case measure => have := HJ2.out; have := HK2.out; have := HK3.out; omega
                                        case rel => exact ⟨(x5_3 ++ (((rd_T38 l0 x6_2).f0).extract (x7_3 : Int).toNat ((wrap64 (x7_3 + 1)) : Int).toNat)), (wrap64 (x7_3 + 1)), (by first | rfl | (simp; done) | (simp [*]; done)), (by first | rfl | (simp; done) | (simp [*]; done)), H', ⟨by have := HJ2.out; have := HK2.out; have := HK3.out; omega⟩, ⟨by repeat (first | (with_reducible first | exact HB.out | apply below_alloc | apply pw_below_drewN | apply below_drew1) | exact HB.out)⟩⟩
                                      · rw [if_neg c31] at H
                                        exact absurd H (by simp)
                                    · rw [if_neg c30] at H
                                      exact absurd H (by simp)
                                  · rw [if_neg c29] at H
                                    exact absurd H (by simp)
                              · rw [if_neg c24] at H
                                exact absurd H (by simp)
                            · rw [if_neg c23] at H
                              have c23b0 : (((rd_T38 l0 x6_2).f1) == 2) = false := beq_eq_false_iff_ne.mpr c23
                              have c23b1 : (((rd_T38 l0 x6_2).f1) != 2) = true := bne_iff_ne.mpr c23
                              have H' := Aside0.mk H
                              clear H
                              have p413 : 0 ≤ (x6_2 : Int) := of_decide_eq_true (by first | (with_reducible assumption) | assumption)
                              have q413 : x6_2 < (l0.length : Int) := of_decide_eq_true (by first | (with_reducible assumption) | assumption)
                              obtain ⟨ad413, e413, hx413_0, hx413_1⟩ := at_T38 HR0.out x6_2 p413 q413
                              cases e413
                              replace hx413_0 := (HB.out.cell (World.block_lt_of_cell? w _ hx413_0)).trans hx413_0
                              replace hx413_1 := (HB.out.cell (World.block_lt_of_cell? w _ hx413_1)).trans hx413_1
                              replace p413 := eq_true p413
                              replace q413 := eq_true q413
                              have p414 : 0 ≤ (x6_2 : Int) := of_decide_eq_true (by first | (with_reducible assumption) | assumption)
                              have q414 : x6_2 < (l0.length : Int) := of_decide_eq_true (by first | (with_reducible assumption) | assumption)
                              obtain ⟨ad414, e414, hx414_0, hx414_1⟩ := at_T38 HR0.out x6_2 p414 q414
                              obtain rfl : ad413 = ad414 := (by injection e414)
                              replace hx414_0 := (HB.out.cell (World.block_lt_of_cell? w _ hx414_0)).trans hx414_0
                              replace hx414_1 := (HB.out.cell (World.block_lt_of_cell? w _ hx414_1)).trans hx414_1
                              replace p414 := eq_true p414
                              replace q414 := eq_true q414
                              have p416 : 0 ≤ (x6_2 : Int) := of_decide_eq_true (by first | (with_reducible assumption) | assumption)
                              have q416 : x6_2 < (l0.length : Int) := of_decide_eq_true (by first | (with_reducible assumption) | assumption)
                              obtain ⟨ad416, e416, hx416_0, hx416_1⟩ := at_T38 HR0.out x6_2 p416 q416
                              obtain rfl : ad413 = ad416 := (by injection e416)
                              replace hx416_0 := (HB.out.cell (World.block_lt_of_cell? w _ hx416_0)).trans hx416_0
                              replace hx416_1 := (HB.out.cell (World.block_lt_of_cell? w _ hx416_1)).trans hx416_1
                              replace p416 := eq_true p416
                              replace q416 := eq_true q416
                              have p418 : 0 ≤ (x6_2 : Int) := of_decide_eq_true (by first | (with_reducible assumption) | assumption)
                              have q418 : x6_2 < (l0.length : Int) := of_decide_eq_true (by first | (with_reducible assumption) | assumption)
                              obtain ⟨ad418, e418, hx418_0, hx418_1⟩ := at_T38 HR0.out x6_2 p418 q418
                              obtain rfl : ad413 = ad418 := (by injection e418)
                              replace hx418_0 := (HB.out.cell (World.block_lt_of_cell? w _ hx418_0)).trans hx418_0
                              replace hx418_1 := (HB.out.cell (World.block_lt_of_cell? w _ hx418_1)).trans hx418_1
                              replace p418 := eq_true p418
                              replace q418 := eq_true q418
                              go_wp2
                              repeat (go_quiet (fail); try go_wp2)
                              go_roundg k3
                              case measure => have := HJ2.out; have := HK2.out; have := HK3.out; omega
                              case rel => exact ⟨(x5_3), (wrap64 (x7_3 + 1)), (by first | rfl | (simp; done) | (simp [*]; done)), (by first | rfl | (simp; done) | (simp [*]; done)), H', ⟨by have := HJ2.out; have := HK2.out; have := HK3.out; omega⟩, ⟨by repeat (first | (with_reducible first | exact HB.out | apply below_alloc | apply pw_below_drewN | apply below_drew1) | exact HB.out)⟩⟩
                      · rw [if_neg c12] at H
                        have c12b0 : decide (x7_3 < (((rd_T38 l0 x6_2).f0).size : Int)) = false := decide_eq_false c12
                        clear c12
                        have H' := Aside0.mk H
                        clear H
                        have p413 : 0 ≤ (x6_2 : Int) := of_decide_eq_true (by first | (with_reducible assumption) | assumption)
                        have q413 : x6_2 < (l0.length : Int) := of_decide_eq_true (by first | (with_reducible assumption) | assumption)
                        obtain ⟨ad413, e413, hx413_0, hx413_1⟩ := at_T38 HR0.out x6_2 p413 q413
                        cases e413
                        replace hx413_0 := (HB.out.cell (World.block_lt_of_cell? w _ hx413_0)).trans hx413_0
                        replace hx413_1 := (HB.out.cell (World.block_lt_of_cell? w _ hx413_1)).trans hx413_1
                        replace p413 := eq_true p413
                        replace q413 := eq_true q413
                        go_wp2
                        repeat (go_quiet (fail); try go_wp2)
                        go_roundg k3
                        case measure => have := HJ2.out; have := HK2.out; have := HK3.out; omega
                        case rel => exact ⟨(x5_3), (wrap64 (x6_2 + 1)), (by first | rfl | (simp; done) | (simp [*]; done)), (by first | rfl | (simp; done) | (simp [*]; done)), H', ⟨by have := HJ2.out; have := HK2.out; have := HK3.out; omega⟩, ⟨by repeat (first | (with_reducible first | exact HB.out | apply below_alloc | apply pw_below_drewN | apply below_drew1) | exact HB.out)⟩⟩
                    · rw [if_neg c11] at H
                      exact absurd H (by simp)
                  · rw [if_neg c10] at H
                    exact absurd H (by simp)
            · rw [if_neg c9] at H
              have c9b0 : decide (x6_2 < (l0.length : Int)) = false := decide_eq_false c9
              clear c9
              replace H := Option.bind_eq_some_iff.mp H
              obtain ⟨t422, A320, H⟩ := H
              replace H : (jobshelllaw18_SplitBytes.l2 k2 x5_2 (⟨#[]⟩ : ByteArray) t422 0) = some r := H
              have A32 := Aside0.mk A320
              clear A320
              have H' := Aside0.mk H
              clear H
              go_wp2_with (first | (go_at_call 12; (with_reducible refine (split_Fields.calls k2 _ _ l0 a1 t422 _ ?side1 ?side2 A32.out).mono ?_); (case side1 => repeat (first | exact (Kd.C_below HR0.out HB.out) | (with_reducible refine Kd.C_alloc ?_ _) | (with_reducible refine Kd.C_drewN ?_ _) | (with_reducible refine Kd.C_drew ?_))); (case side2 => exact HC0.out); rintro e w33 ⟨v423, rfl, ho0, hb⟩; have n0_ := Aside0.mk (Kd.N_lower (Kd.N_mono (ok' := fun k_ => True) ho0 (fun k_ hk_ => trivial)) (below_size (by repeat (first | (with_reducible first | exact HB.out | apply below_alloc | apply pw_below_drewN | apply below_drew1) | exact HB.out)))); have n1_ := Aside0.mk (below_step (by repeat (first | (with_reducible first | exact HB.out | apply below_alloc | apply pw_below_drewN | apply below_drew1) | exact HB.out)) hb); clear HB; have HO424 := n0_; have HB := n1_; clear n0_ n1_; (try clear hb); (try clear hb2); (try clear hk); (try clear hi); (try clear ho0)))
              repeat (go_quiet (first | (go_at_call 12; (with_reducible refine (split_Fields.calls k2 _ _ l0 a1 t422 _ ?side1 ?side2 A32.out).mono ?_); (case side1 => repeat (first | exact (Kd.C_below HR0.out HB.out) | (with_reducible refine Kd.C_alloc ?_ _) | (with_reducible refine Kd.C_drewN ?_ _) | (with_reducible refine Kd.C_drew ?_))); (case side2 => exact HC0.out); rintro e w33 ⟨v423, rfl, ho0, hb⟩; have n0_ := Aside0.mk (Kd.N_lower (Kd.N_mono (ok' := fun k_ => True) ho0 (fun k_ hk_ => trivial)) (below_size (by repeat (first | (with_reducible first | exact HB.out | apply below_alloc | apply pw_below_drewN | apply below_drew1) | exact HB.out)))); have n1_ := Aside0.mk (below_step (by repeat (first | (with_reducible first | exact HB.out | apply below_alloc | apply pw_below_drewN | apply below_drew1) | exact HB.out)) hb); clear HB; have HO424 := n0_; have HB := n1_; clear n0_ n1_; (try clear hb); (try clear hb2); (try clear hk); (try clear hi); (try clear ho0))); try go_wp2_with (first | (go_at_call 12; (with_reducible refine (split_Fields.calls k2 _ _ l0 a1 t422 _ ?side1 ?side2 A32.out).mono ?_); (case side1 => repeat (first | exact (Kd.C_below HR0.out HB.out) | (with_reducible refine Kd.C_alloc ?_ _) | (with_reducible refine Kd.C_drewN ?_ _) | (with_reducible refine Kd.C_drew ?_))); (case side2 => exact HC0.out); rintro e w33 ⟨v423, rfl, ho0, hb⟩; have n0_ := Aside0.mk (Kd.N_lower (Kd.N_mono (ok' := fun k_ => True) ho0 (fun k_ hk_ => trivial)) (below_size (by repeat (first | (with_reducible first | exact HB.out | apply below_alloc | apply pw_below_drewN | apply below_drew1) | exact HB.out)))); have n1_ := Aside0.mk (below_step (by repeat (first | (with_reducible first | exact HB.out | apply below_alloc | apply pw_below_drewN | apply below_drew1) | exact HB.out)) hb); clear HB; have HO424 := n0_; have HB := n1_; clear n0_ n1_; (try clear hb); (try clear hb2); (try clear hk); (try clear hi); (try clear ho0))))
              go_loopg [8, 10] k2 (fun kq v8 v10 w' => ∃ (x8_3 : ByteArray) (x10_3 : Int), v8 = .string x8_3 ∧ v10 = .int .i64 x10_3 ∧ Aside0 (jobshelllaw18_SplitBytes.l2 kq x5_2 x8_3 t422 x10_3 = some r) ∧ Aside0 (kq ≤ k2) ∧ Aside0 (Kd.N (Kd.slice 38 k38) 22 w' w.heap.size (fun _ => True) v423 t422) ∧ Aside0 (Below w.heap.size w w'))
              case atStart => exact ⟨((⟨#[]⟩ : ByteArray)), (0), (by first | rfl | (simp; done) | (simp [*]; done)), (by first | rfl | (simp; done) | (simp [*]; done)), H', ⟨Nat.le_refl _⟩, ⟨by (with_reducible repeat (first | apply Kd.N_alloc | apply Kd.N_drewN | apply Kd.N_drew)); exact HO424.out⟩, ⟨by repeat (first | (with_reducible first | exact HB.out | apply below_alloc | apply pw_below_drewN | apply below_drew1) | exact HB.out)⟩⟩
              case round =>
                clear H'
                try clear c1
                try clear c2
                try clear p2
                try clear q2
                try clear hx2
                try clear c3
                try clear p4
                try clear q4
                try clear hx4
                try clear c5
                try clear c6
                try clear p6
                try clear c9
                try clear c9b0
                try clear c10
                try clear c10b0
                try clear c11
                try clear c11b0
                try clear c12
                try clear c12b0
                try clear c13
                try clear c13b0
                try clear c13b1
                try clear c14
                try clear c14b0
                try clear c14b1
                try clear c15
                try clear c15b0
                try clear c15b1
                try clear c16
                try clear c16b0
                try clear c16b1
                try clear c17
                try clear c17b0
                try clear c17b1
                try clear c17b2
                try clear c18
                try clear c18b0
                try clear c18b1
                try clear c19
                try clear c19b0
                try clear c19b1
                try clear c20
                try clear c20b0
                try clear c20b1
                try clear c21
                try clear c21b0
                try clear c21b1
                try clear c22
                try clear c22b0
                try clear c22b1
                try clear c22b2
                try clear c23
                try clear c23b0
                try clear c23b1
                try clear c24
                try clear c24b0
                try clear p25
                try clear q25
                try clear hx25
                try clear c27
                try clear c28
                try clear c28b0
                try clear c29
                try clear c29b0
                try clear c29b1
                try clear c30
                try clear c30b0
                try clear c30b1
                try clear c31
                try clear c31b0
                try clear c31b1
                try clear c31b2
                try clear hx413_0
                try clear hx413_1
                try clear hx414_0
                try clear hx414_1
                try clear hx415_0
                try clear hx415_1
                try clear hx416_0
                try clear hx416_1
                try clear hx417_0
                try clear hx417_1
                try clear hx418_0
                try clear hx418_1
                try clear hx419_0
                try clear hx419_1
                try clear hx421_0
                try clear hx421_1
                try clear p2
                try clear p25
                try clear p413
                try clear p414
                try clear p415
                try clear p416
                try clear p417
                try clear p418
                try clear p419
                try clear p421
                try clear q25
                try clear q413
                try clear q414
                try clear q415
                try clear q416
                try clear q417
                try clear q418
                try clear q419
                try clear q421
                obtain ⟨x8_3, x10_3, rfl, rfl, HA, HK3, HO_9, HB⟩ := hrel
                cases gk with
                | zero => exact absurd HA.out (by simp [jobshelllaw18_SplitBytes.l2])
                | succ k3 =>
                  have H := HA.out
                  clear HA
                  simp only [jobshelllaw18_SplitBytes.l2] at H
                  have HC34 := Aside0.mk H
                  clear H
                  go_upto_region 15 with (fail)
                  repeat (go_quiet (fail); go_upto_region 15 with (fail))
                  go_cut [92] (fun v92 wc => ∃ (kq : Nat) (x92_33 : Bool), v92 = .bool x92_33 ∧ Aside0 (jobshelllaw18_SplitBytes.j4 kq x5_2 x8_3 t422 x10_3 x92_33 = some r) ∧ Aside0 (kq ≤ k3) ∧ Aside0 (Kd.N (Kd.slice 38 k38) 22 wc w.heap.size (fun _ => True) v423 t422) ∧ Aside0 (Below w.heap.size w wc))
                  case first =>
                    have H := HC34.out
                    clear HC34
                    by_cases c35 : x10_3 < (t422.length : Int)
                    · rw [if_pos c35] at H
                      have c35b0 : decide (x10_3 < (t422.length : Int)) = true := decide_eq_true c35
                      clear c35
                      (first | rw [c35b0] | (simp only [i64_w, i32_w]; rw [c35b0]) | skip)
                      have H' := Aside0.mk H
                      clear H
                      obtain ⟨Ao36, co36, eo36⟩ := Kd.N_slice HO_9.out
                      subst eo36
                      go_wp2
                      repeat (go_quiet (fail); try go_wp2)
                      go_meet
                      case rel => exact ⟨_, (decide (x10_3 ≤ 100)), (by first | rfl | (simp; done) | (simp [*]; done)), H', ⟨by have := HJ2.out; have := HK2.out; have := HK3.out; first | omega | exact Nat.le_refl _⟩, ⟨by (with_reducible repeat (first | apply Kd.N_alloc | apply Kd.N_drewN | apply Kd.N_drew)); exact HO_9.out⟩, ⟨by repeat (first | (with_reducible first | exact HB.out | apply below_alloc | apply pw_below_drewN | apply below_drew1) | exact HB.out)⟩⟩
                    · rw [if_neg c35] at H
                      have c35b0 : decide (x10_3 < (t422.length : Int)) = false := decide_eq_false c35
                      clear c35
                      (first | rw [c35b0] | (simp only [i64_w, i32_w]; rw [c35b0]) | skip)
                      have H' := Aside0.mk H
                      clear H
                      obtain ⟨Ao37, co37, eo37⟩ := Kd.N_slice HO_9.out
                      subst eo37
                      go_wp2
                      repeat (go_quiet (fail); try go_wp2)
                      go_meet
                      case rel => exact ⟨_, (false), (by first | rfl | (simp; done) | (simp [*]; done)), H', ⟨by have := HJ2.out; have := HK2.out; have := HK3.out; first | omega | exact Nat.le_refl _⟩, ⟨by (with_reducible repeat (first | apply Kd.N_alloc | apply Kd.N_drewN | apply Kd.N_drew)); exact HO_9.out⟩, ⟨by repeat (first | (with_reducible first | exact HB.out | apply below_alloc | apply pw_below_drewN | apply below_drew1) | exact HB.out)⟩⟩
                  case rest =>
                    clear HC34
                    try clear c1
                    try clear c2
                    try clear p2
                    try clear q2
                    try clear hx2
                    try clear c3
                    try clear p4
                    try clear q4
                    try clear hx4
                    try clear c5
                    try clear c6
                    try clear p6
                    try clear c9
                    try clear c9b0
                    try clear c10
                    try clear c10b0
                    try clear c11
                    try clear c11b0
                    try clear c12
                    try clear c12b0
                    try clear c13
                    try clear c13b0
                    try clear c13b1
                    try clear c14
                    try clear c14b0
                    try clear c14b1
                    try clear c15
                    try clear c15b0
                    try clear c15b1
                    try clear c16
                    try clear c16b0
                    try clear c16b1
                    try clear c17
                    try clear c17b0
                    try clear c17b1
                    try clear c17b2
                    try clear c18
                    try clear c18b0
                    try clear c18b1
                    try clear c19
                    try clear c19b0
                    try clear c19b1
                    try clear c20
                    try clear c20b0
                    try clear c20b1
                    try clear c21
                    try clear c21b0
                    try clear c21b1
                    try clear c22
                    try clear c22b0
                    try clear c22b1
                    try clear c22b2
                    try clear c23
                    try clear c23b0
                    try clear c23b1
                    try clear c24
                    try clear c24b0
                    try clear p25
                    try clear q25
                    try clear hx25
                    try clear c27
                    try clear c28
                    try clear c28b0
                    try clear c29
                    try clear c29b0
                    try clear c29b1
                    try clear c30
                    try clear c30b0
                    try clear c30b1
                    try clear c31
                    try clear c31b0
                    try clear c31b1
                    try clear c31b2
                    try clear c35
                    try clear c35b0
                    try clear hx413_0
                    try clear hx413_1
                    try clear hx414_0
                    try clear hx414_1
                    try clear hx415_0
                    try clear hx415_1
                    try clear hx416_0
                    try clear hx416_1
                    try clear hx417_0
                    try clear hx417_1
                    try clear hx418_0
                    try clear hx418_1
                    try clear hx419_0
                    try clear hx419_1
                    try clear hx421_0
                    try clear hx421_1
                    try clear p2
                    try clear p25
                    try clear p4
                    try clear p413
                    try clear p414
                    try clear p415
                    try clear p416
                    try clear p417
                    try clear p418
                    try clear p419
                    try clear p421
                    try clear p6
                    try clear q2
                    try clear q25
                    try clear q4
                    try clear q413
                    try clear q414
                    try clear q415
                    try clear q416
                    try clear q417
                    try clear q418
                    try clear q419
                    try clear q421
                    obtain ⟨kq, x92_33, rfl, HA, HJ33, HO_9, HB⟩ := hcut
                    cases kq with
                    | zero => exact absurd HA.out (by simp [jobshelllaw18_SplitBytes.j4])
                    | succ kj33 =>
                      have H := HA.out
                      clear HA
                      simp only [jobshelllaw18_SplitBytes.j4] at H
                      by_cases c38 : x92_33 = true
                      · subst c38
                        have H1 : (jobshelllaw18_SplitBytes.l3 kj33 x5_2 x8_3 t422 x10_3 0) = some r := by rw [if_pos rfl] at H; exact H
                        clear H
                        have H := H1
                        clear H1
                        have H' := Aside0.mk H
                        clear H
                        go_wp2
                        repeat (go_quiet (fail); try go_wp2)
                        go_loopg [8, 11] kj33 (fun kq v8 v11 w' => ∃ (x8_5 : ByteArray) (x11_5 : Int), v8 = .string x8_5 ∧ v11 = .int .i64 x11_5 ∧ Aside0 (jobshelllaw18_SplitBytes.l3 kq x5_2 x8_5 t422 x10_3 x11_5 = some r) ∧ Aside0 (kq ≤ kj33) ∧ Aside0 (Kd.N (Kd.slice 38 k38) 22 w' w.heap.size (fun _ => True) v423 t422) ∧ Aside0 (Below w.heap.size w w'))
                        case atStart => exact ⟨(x8_3), (0), (by first | rfl | (simp; done) | (simp [*]; done)), (by first | rfl | (simp; done) | (simp [*]; done)), H', ⟨Nat.le_refl _⟩, ⟨by (with_reducible repeat (first | apply Kd.N_alloc | apply Kd.N_drewN | apply Kd.N_drew)); exact HO_9.out⟩, ⟨by repeat (first | (with_reducible first | exact HB.out | apply below_alloc | apply pw_below_drewN | apply below_drew1) | exact HB.out)⟩⟩
                        case round =>
                          clear H'
                          try clear c1
                          try clear c2
                          try clear p2
                          try clear q2
                          try clear hx2
                          try clear c3
                          try clear p4
                          try clear q4
                          try clear hx4
                          try clear c5
                          try clear c6
                          try clear p6
                          try clear c9
                          try clear c9b0
                          try clear c10
                          try clear c10b0
                          try clear c11
                          try clear c11b0
                          try clear c12
                          try clear c12b0
                          try clear c13
                          try clear c13b0
                          try clear c13b1
                          try clear c14
                          try clear c14b0
                          try clear c14b1
                          try clear c15
                          try clear c15b0
                          try clear c15b1
                          try clear c16
                          try clear c16b0
                          try clear c16b1
                          try clear c17
                          try clear c17b0
                          try clear c17b1
                          try clear c17b2
                          try clear c18
                          try clear c18b0
                          try clear c18b1
                          try clear c19
                          try clear c19b0
                          try clear c19b1
                          try clear c20
                          try clear c20b0
                          try clear c20b1
                          try clear c21
                          try clear c21b0
                          try clear c21b1
                          try clear c22
                          try clear c22b0
                          try clear c22b1
                          try clear c22b2
                          try clear c23
                          try clear c23b0
                          try clear c23b1
                          try clear c24
                          try clear c24b0
                          try clear p25
                          try clear q25
                          try clear hx25
                          try clear c27
                          try clear c28
                          try clear c28b0
                          try clear c29
                          try clear c29b0
                          try clear c29b1
                          try clear c30
                          try clear c30b0
                          try clear c30b1
                          try clear c31
                          try clear c31b0
                          try clear c31b1
                          try clear c31b2
                          try clear c35
                          try clear c35b0
                          try clear c38
                          try clear hx413_0
                          try clear hx413_1
                          try clear hx414_0
                          try clear hx414_1
                          try clear hx415_0
                          try clear hx415_1
                          try clear hx416_0
                          try clear hx416_1
                          try clear hx417_0
                          try clear hx417_1
                          try clear hx418_0
                          try clear hx418_1
                          try clear hx419_0
                          try clear hx419_1
                          try clear hx421_0
                          try clear hx421_1
                          try clear p2
                          try clear p25
                          try clear p4
                          try clear p413
                          try clear p414
                          try clear p415
                          try clear p416
                          try clear p417
                          try clear p418
                          try clear p419
                          try clear p421
                          try clear p6
                          try clear q2
                          try clear q25
                          try clear q4
                          try clear q413
                          try clear q414
                          try clear q415
                          try clear q416
                          try clear q417
                          try clear q418
                          try clear q419
                          try clear q421
                          obtain ⟨x8_5, x11_5, rfl, rfl, HA, HK5, HO_9, HB⟩ := hrel
                          cases gk with
                          | zero => exact absurd HA.out (by simp [jobshelllaw18_SplitBytes.l3])
                          | succ k5 =>
                            have H := HA.out
                            clear HA
                            simp only [jobshelllaw18_SplitBytes.l3] at H
                            have HC39 := Aside0.mk H
                            clear H
                            go_upto_region 18 with (fail)
                            repeat (go_quiet (fail); go_upto_region 18 with (fail))
                            go_cut [105] (fun v105 wc => ∃ (kq : Nat) (x105_38 : Bool), v105 = .bool x105_38 ∧ Aside0 (jobshelllaw18_SplitBytes.j6 kq x5_2 x8_5 t422 x10_3 x11_5 x105_38 = some r) ∧ Aside0 (kq ≤ k5) ∧ Aside0 (Kd.N (Kd.slice 38 k38) 22 wc w.heap.size (fun _ => True) v423 t422) ∧ Aside0 (Below w.heap.size w wc))
                            case first =>
                              have H := HC39.out
                              clear HC39
                              by_cases c40 : 0 ≤ x10_3
                              · rw [if_pos c40] at H
                                have c40b0 : decide (0 ≤ x10_3) = true := decide_eq_true c40
                                clear c40
                                (first | rw [c40b0] | (simp only [i64_w, i32_w]; rw [c40b0]) | skip)
                                by_cases c41 : x10_3 < (t422.length : Int)
                                · rw [if_pos c41] at H
                                  have c41b0 : decide (x10_3 < (t422.length : Int)) = true := decide_eq_true c41
                                  clear c41
                                  by_cases c42 : x11_5 < ((rd_L6 t422 x10_3).length : Int)
                                  · rw [if_pos c42] at H
                                    have c42b0 : decide (x11_5 < ((rd_L6 t422 x10_3).length : Int)) = true := decide_eq_true c42
                                    clear c42
                                    have H' := Aside0.mk H
                                    clear H
                                    obtain ⟨Ao43, co43, eo43⟩ := Kd.N_slice HO_9.out
                                    subst eo43
                                    have p426 : 0 ≤ (x10_3 : Int) := of_decide_eq_true (by first | (with_reducible assumption) | assumption)
                                    have q426 : x10_3 < (t422.length : Int) := of_decide_eq_true (by first | (with_reducible assumption) | assumption)
                                    obtain ⟨ad426, A426_0, c426_0, e426, hx426_0, hl426_0, hi426_0⟩ := at_L6 (Kd.N_reads' HO_9.out).2.2 x10_3 p426 q426
                                    cases e426
                                    obtain ⟨ce426, hce426, hMe426, hcc426⟩ := Kd.N_get HO_9.out [] x10_3 p426 (by first | exact q426 | exact of_decide_eq_true (by first | (with_reducible assumption) | assumption) | (have e_ := (Kd.N_reads' HO_9.out).1; omega))
                                    obtain ⟨ua426_0, uc426_0, rfl, ul426_0, ge426_0⟩ := Kd.FK_slice_open hMe426
                                    have hv426_0 := hcc426 0 _ rfl
                                    rw [Nat.add_zero, show ((Kd.slice 38 k38)).sz = 1 from rfl, Nat.mul_one] at hv426_0
                                    replace hv426_0 := Option.some.inj (hv426_0.symm.trans hx426_0)
                                    injection hv426_0 with hva_ hvn_ hvc_
                                    rw [hva_] at ge426_0
                                    rw [hvc_] at ul426_0
                                    have HL426_0 := Aside0.mk (show Kd.V k38 38 _ w.heap.size _ _ (rd_L6 t422 x10_3) from Kd.V_mk ul426_0 ge426_0)
                                    clear hva_ hvn_ hvc_ ge426_0 ul426_0
                                    clear hcc426 hce426
                                    have HR426_0 := Aside0.mk hi426_0
                                    have HC426_0 := Aside0.mk hl426_0
                                    clear hi426_0 hl426_0
                                    replace p426 := eq_true p426
                                    replace q426 := eq_true q426
                                    go_wp2
                                    repeat (go_quiet (fail); try go_wp2)
                                    go_meet
                                    case rel => exact ⟨_, (decide (x11_5 ≤ 100)), (by first | rfl | (simp; done) | (simp [*]; done)), H', ⟨by have := HJ2.out; have := HK2.out; have := HK3.out; have := HJ33.out; have := HK5.out; first | omega | exact Nat.le_refl _⟩, ⟨by (with_reducible repeat (first | apply Kd.N_alloc | apply Kd.N_drewN | apply Kd.N_drew)); exact HO_9.out⟩, ⟨by repeat (first | (with_reducible first | exact HB.out | apply below_alloc | apply pw_below_drewN | apply below_drew1) | exact HB.out)⟩⟩
                                  · rw [if_neg c42] at H
                                    have c42b0 : decide (x11_5 < ((rd_L6 t422 x10_3).length : Int)) = false := decide_eq_false c42
                                    clear c42
                                    have H' := Aside0.mk H
                                    clear H
                                    obtain ⟨Ao44, co44, eo44⟩ := Kd.N_slice HO_9.out
                                    subst eo44
                                    have p426 : 0 ≤ (x10_3 : Int) := of_decide_eq_true (by first | (with_reducible assumption) | assumption)
                                    have q426 : x10_3 < (t422.length : Int) := of_decide_eq_true (by first | (with_reducible assumption) | assumption)
                                    obtain ⟨ad426, A426_0, c426_0, e426, hx426_0, hl426_0, hi426_0⟩ := at_L6 (Kd.N_reads' HO_9.out).2.2 x10_3 p426 q426
                                    cases e426
                                    obtain ⟨ce426, hce426, hMe426, hcc426⟩ := Kd.N_get HO_9.out [] x10_3 p426 (by first | exact q426 | exact of_decide_eq_true (by first | (with_reducible assumption) | assumption) | (have e_ := (Kd.N_reads' HO_9.out).1; omega))
                                    obtain ⟨ua426_0, uc426_0, rfl, ul426_0, ge426_0⟩ := Kd.FK_slice_open hMe426
                                    have hv426_0 := hcc426 0 _ rfl
                                    rw [Nat.add_zero, show ((Kd.slice 38 k38)).sz = 1 from rfl, Nat.mul_one] at hv426_0
                                    replace hv426_0 := Option.some.inj (hv426_0.symm.trans hx426_0)
                                    injection hv426_0 with hva_ hvn_ hvc_
                                    rw [hva_] at ge426_0
                                    rw [hvc_] at ul426_0
                                    have HL426_0 := Aside0.mk (show Kd.V k38 38 _ w.heap.size _ _ (rd_L6 t422 x10_3) from Kd.V_mk ul426_0 ge426_0)
                                    clear hva_ hvn_ hvc_ ge426_0 ul426_0
                                    clear hcc426 hce426
                                    have HR426_0 := Aside0.mk hi426_0
                                    have HC426_0 := Aside0.mk hl426_0
                                    clear hi426_0 hl426_0
                                    replace p426 := eq_true p426
                                    replace q426 := eq_true q426
                                    go_wp2
                                    repeat (go_quiet (fail); try go_wp2)
                                    go_meet
                                    case rel => exact ⟨_, (false), (by first | rfl | (simp; done) | (simp [*]; done)), H', ⟨by have := HJ2.out; have := HK2.out; have := HK3.out; have := HJ33.out; have := HK5.out; first | omega | exact Nat.le_refl _⟩, ⟨by (with_reducible repeat (first | apply Kd.N_alloc | apply Kd.N_drewN | apply Kd.N_drew)); exact HO_9.out⟩, ⟨by repeat (first | (with_reducible first | exact HB.out | apply below_alloc | apply pw_below_drewN | apply below_drew1) | exact HB.out)⟩⟩
                                · rw [if_neg c41] at H
                                  exact absurd H (by simp)
                              · rw [if_neg c40] at H
                                exact absurd H (by simp)
                            case rest =>
                              clear HC39
                              try clear c1
                              try clear c2
                              try clear p2
                              try clear q2
                              try clear hx2
                              try clear c3
                              try clear c4
                              try clear p4
                              try clear q4
                              try clear hx4
                              try clear c5
                              try clear c6
                              try clear p6
                              try clear c9
                              try clear c9b0
                              try clear c10
                              try clear c10b0
                              try clear c11
                              try clear c11b0
                              try clear c12
                              try clear c12b0
                              try clear c13
                              try clear c13b0
                              try clear c13b1
                              try clear c14
                              try clear c14b0
                              try clear c14b1
                              try clear c15
                              try clear c15b0
                              try clear c15b1
                              try clear c16
                              try clear c16b0
                              try clear c16b1
                              try clear c17
                              try clear c17b0
                              try clear c17b1
                              try clear c17b2
                              try clear c18
                              try clear c18b0
                              try clear c18b1
                              try clear c19
                              try clear c19b0
                              try clear c19b1
                              try clear c20
                              try clear c20b0
                              try clear c20b1
                              try clear c21
                              try clear c21b0
                              try clear c21b1
                              try clear c22
                              try clear c22b0
                              try clear c22b1
                              try clear c22b2
                              try clear c23
                              try clear c23b0
                              try clear c23b1
                              try clear c24
                              try clear c24b0
                              try clear p25
                              try clear q25
                              try clear hx25
                              try clear c27
                              try clear c28
                              try clear c28b0
                              try clear c29
                              try clear c29b0
                              try clear c29b1
                              try clear c30
                              try clear c30b0
                              try clear c30b1
                              try clear c31
                              try clear c31b0
                              try clear c31b1
                              try clear c31b2
                              try clear c35
                              try clear c35b0
                              try clear c38
                              try clear c40
                              try clear c40b0
                              try clear c41
                              try clear c41b0
                              try clear p41
                              try clear q41
                              try clear hx41
                              try clear c42
                              try clear c42b0
                              try clear p42
                              try clear q42
                              try clear hx42
                              try clear hx413_0
                              try clear hx413_1
                              try clear hx414_0
                              try clear hx414_1
                              try clear hx415_0
                              try clear hx415_1
                              try clear hx416_0
                              try clear hx416_1
                              try clear hx417_0
                              try clear hx417_1
                              try clear hx418_0
                              try clear hx418_1
                              try clear hx419_0
                              try clear hx419_1
                              try clear hx421_0
                              try clear hx421_1
                              try clear hx426_0
                              try clear p2
                              try clear p25
                              try clear p4
                              try clear p413
                              try clear p414
                              try clear p415
                              try clear p416
                              try clear p417
                              try clear p418
                              try clear p419
                              try clear p421
                              try clear p426
                              try clear p6
                              try clear q2
                              try clear q25
                              try clear q4
                              try clear q413
                              try clear q414
                              try clear q415
                              try clear q416
                              try clear q417
                              try clear q418
                              try clear q419
                              try clear q421
                              try clear q426
                              obtain ⟨kq, x105_38, rfl, HA, HJ38, HO_9, HB⟩ := hcut
                              cases kq with
                              | zero => exact absurd HA.out (by simp [jobshelllaw18_SplitBytes.j6])
                              | succ kj38 =>
                                have H := HA.out
                                clear HA
                                simp only [jobshelllaw18_SplitBytes.j6] at H
                                by_cases c45 : x105_38 = true
                                · subst c45
                                  have H1 : (if x11_5 > 0 then (if 0 ≤ x10_3 then (if x10_3 < (t422.length : Int) then (if 0 ≤ (wrap64 (x11_5 - 1)) then (if (wrap64 (x11_5 - 1)) < ((rd_L6 t422 x10_3).length : Int) then (if 0 ≤ x11_5 then (if x11_5 < ((rd_L6 t422 x10_3).length : Int) then (if ((rd_T38 (rd_L6 t422 x10_3) (wrap64 (x11_5 - 1))).f1) = ((rd_T38 (rd_L6 t422 x10_3) x11_5).f1) then (some false) else (if x8_5.size + ((rd_T38 (rd_L6 t422 x10_3) x11_5).f0).size ≤ 9223372036854775807 then (jobshelllaw18_SplitBytes.l3 kj38 x5_2 (x8_5 ++ ((rd_T38 (rd_L6 t422 x10_3) x11_5).f0)) t422 x10_3 (wrap64 (x11_5 + 1))) else (none))) else (none)) else (none)) else (none)) else (none)) else (none)) else (none)) else (if 0 ≤ x10_3 then (if x10_3 < (t422.length : Int) then (if 0 ≤ x11_5 then (if x11_5 < ((rd_L6 t422 x10_3).length : Int) then (if x8_5.size + ((rd_T38 (rd_L6 t422 x10_3) x11_5).f0).size ≤ 9223372036854775807 then (jobshelllaw18_SplitBytes.l3 kj38 x5_2 (x8_5 ++ ((rd_T38 (rd_L6 t422 x10_3) x11_5).f0)) t422 x10_3 (wrap64 (x11_5 + 1))) else (none)) else (none)) else (none)) else (none)) else (none))) = some r := by rw [if_pos rfl] at H; exact H
                                  clear H
                                  have H := H1
                                  clear H1
                                  by_cases c46 : x11_5 > 0
                                  · rw [if_pos c46] at H
                                    have c46b0 : decide (0 < x11_5) = true := decide_eq_true c46
                                    clear c46
                                    by_cases c47 : 0 ≤ x10_3
                                    · rw [if_pos c47] at H
                                      have c47b0 : decide (0 ≤ x10_3) = true := decide_eq_true c47
                                      clear c47
                                      by_cases c48 : x10_3 < (t422.length : Int)
                                      · rw [if_pos c48] at H
                                        have c48b0 : decide (x10_3 < (t422.length : Int)) = true := decide_eq_true c48
                                        clear c48
                                        obtain ⟨ji49, hji49⟩ : ∃ j_ : Int, (wrap64 (x11_5 - 1)) = j_ := ⟨_, rfl⟩
                                        replace H : (if 0 ≤ (ji49) then (if (ji49) < ((rd_L6 t422 x10_3).length : Int) then (if 0 ≤ x11_5 then (if x11_5 < ((rd_L6 t422 x10_3).length : Int) then (if ((rd_T38 (rd_L6 t422 x10_3) (ji49)).f1) = ((rd_T38 (rd_L6 t422 x10_3) x11_5).f1) then (some false) else (if x8_5.size + ((rd_T38 (rd_L6 t422 x10_3) x11_5).f0).size ≤ 9223372036854775807 then (jobshelllaw18_SplitBytes.l3 kj38 x5_2 (x8_5 ++ ((rd_T38 (rd_L6 t422 x10_3) x11_5).f0)) t422 x10_3 (wrap64 (x11_5 + 1))) else (none))) else (none)) else (none)) else (none)) else (none)) = some r := by first | (rw [hji49] at H; exact H) | (simp only [hji49] at H ⊢; exact H)
                                        have hji49w : (IntKind.i64.wrap (x11_5 - 1)) = ji49 := (i64_w _).trans hji49
                                        by_cases c50 : 0 ≤ (ji49)
                                        · rw [if_pos c50] at H
                                          have c50b0 : decide (0 ≤ (ji49)) = true := decide_eq_true c50
                                          clear c50
                                          by_cases c51 : (ji49) < ((rd_L6 t422 x10_3).length : Int)
                                          · rw [if_pos c51] at H
                                            have c51b0 : decide ((ji49) < ((rd_L6 t422 x10_3).length : Int)) = true := decide_eq_true c51
                                            clear c51
                                            by_cases c52 : 0 ≤ x11_5
                                            · rw [if_pos c52] at H
                                              have c52b0 : decide (0 ≤ x11_5) = true := decide_eq_true c52
                                              clear c52
                                              by_cases c53 : x11_5 < ((rd_L6 t422 x10_3).length : Int)
                                              · rw [if_pos c53] at H
                                                have c53b0 : decide (x11_5 < ((rd_L6 t422 x10_3).length : Int)) = true := decide_eq_true c53
                                                clear c53
                                                by_cases c54 : ((rd_T38 (rd_L6 t422 x10_3) (ji49)).f1) = ((rd_T38 (rd_L6 t422 x10_3) x11_5).f1)
                                                · rw [if_pos c54] at H
                                                  have c54b0 : (((rd_T38 (rd_L6 t422 x10_3) (ji49)).f1) == ((rd_T38 (rd_L6 t422 x10_3) x11_5).f1)) = true := beq_iff_eq.mpr c54
                                                  have c54b1 : (((rd_T38 (rd_L6 t422 x10_3) (ji49)).f1) != ((rd_T38 (rd_L6 t422 x10_3) x11_5).f1)) = false := bne_eq_false_iff_eq.mpr c54
                                                  clear c54
                                                  obtain rfl := Option.some.inj H
                                                  obtain ⟨Ao55, co55, eo55⟩ := Kd.N_slice HO_9.out
                                                  subst eo55
                                                  have p427 : 0 ≤ (x10_3 : Int) := of_decide_eq_true (by first | (with_reducible assumption) | assumption)
                                                  have q427 : x10_3 < (t422.length : Int) := of_decide_eq_true (by first | (with_reducible assumption) | assumption)
                                                  obtain ⟨ad427, A427_0, c427_0, e427, hx427_0, hl427_0, hi427_0⟩ := at_L6 (Kd.N_reads' HO_9.out).2.2 x10_3 p427 q427
                                                  cases e427
                                                  obtain ⟨ce427, hce427, hMe427, hcc427⟩ := Kd.N_get HO_9.out [] x10_3 p427 (by first | exact q427 | exact of_decide_eq_true (by first | (with_reducible assumption) | assumption) | (have e_ := (Kd.N_reads' HO_9.out).1; omega))
                                                  obtain ⟨ua427_0, uc427_0, rfl, ul427_0, ge427_0⟩ := Kd.FK_slice_open hMe427
                                                  have hv427_0 := hcc427 0 _ rfl
                                                  rw [Nat.add_zero, show ((Kd.slice 38 k38)).sz = 1 from rfl, Nat.mul_one] at hv427_0
                                                  replace hv427_0 := Option.some.inj (hv427_0.symm.trans hx427_0)
                                                  injection hv427_0 with hva_ hvn_ hvc_
                                                  rw [hva_] at ge427_0
                                                  rw [hvc_] at ul427_0
                                                  have HL427_0 := Aside0.mk (show Kd.V k38 38 _ w.heap.size _ _ (rd_L6 t422 x10_3) from Kd.V_mk ul427_0 ge427_0)
                                                  clear hva_ hvn_ hvc_ ge427_0 ul427_0
                                                  clear hcc427 hce427
                                                  have HR427_0 := Aside0.mk hi427_0
                                                  have HC427_0 := Aside0.mk hl427_0
                                                  clear hi427_0 hl427_0
                                                  replace p427 := eq_true p427
                                                  replace q427 := eq_true q427
                                                  have p428 : 0 ≤ ((ji49) : Int) := of_decide_eq_true (by first | (with_reducible assumption) | assumption)
                                                  have q428 : (ji49) < ((rd_L6 t422 x10_3).length : Int) := of_decide_eq_true (by first | (with_reducible assumption) | assumption)
                                                  obtain ⟨ad428, e428, hx428_0, hx428_1⟩ := at_T38 (by repeat (first | (with_reducible exact HR427_0.out) | (with_reducible refine Kd.C_alloc ?_ _) | (with_reducible refine Kd.C_drewN ?_ _) | (with_reducible refine Kd.C_drew ?_) | exact HR427_0.out)) (ji49) p428 q428
                                                  cases e428
                                                  replace p428 := eq_true p428
                                                  replace q428 := eq_true q428
                                                  have p429 : 0 ≤ (x10_3 : Int) := of_decide_eq_true (by first | (with_reducible assumption) | assumption)
                                                  have q429 : x10_3 < (t422.length : Int) := of_decide_eq_true (by first | (with_reducible assumption) | assumption)
                                                  obtain ⟨ad429, A429_0, c429_0, e429, hx429_0, hl429_0, hi429_0⟩ := at_L6 (Kd.N_reads' HO_9.out).2.2 x10_3 p429 q429
                                                  obtain rfl : ad427 = ad429 := (by injection e429)
                                                  obtain ⟨ce429, hce429, hMe429, hcc429⟩ := Kd.N_get HO_9.out [] x10_3 p429 (by first | exact q429 | exact of_decide_eq_true (by first | (with_reducible assumption) | assumption) | (have e_ := (Kd.N_reads' HO_9.out).1; omega))
                                                  obtain ⟨ua429_0, uc429_0, rfl, ul429_0, ge429_0⟩ := Kd.FK_slice_open hMe429
                                                  have hv429_0 := hcc429 0 _ rfl
                                                  rw [Nat.add_zero, show ((Kd.slice 38 k38)).sz = 1 from rfl, Nat.mul_one] at hv429_0
                                                  replace hv429_0 := Option.some.inj (hv429_0.symm.trans hx429_0)
                                                  injection hv429_0 with hva_ hvn_ hvc_
                                                  rw [hva_] at ge429_0
                                                  rw [hvc_] at ul429_0
                                                  have HL429_0 := Aside0.mk (show Kd.V k38 38 _ w.heap.size _ _ (rd_L6 t422 x10_3) from Kd.V_mk ul429_0 ge429_0)
                                                  clear hva_ hvn_ hvc_ ge429_0 ul429_0
                                                  clear hcc429 hce429
                                                  have HR429_0 := Aside0.mk hi429_0
                                                  have HC429_0 := Aside0.mk hl429_0
                                                  clear hi429_0 hl429_0
                                                  replace p429 := eq_true p429
                                                  replace q429 := eq_true q429
                                                  have ea_ := Option.some.inj (hx427_0.symm.trans hx429_0)
                                                  injection ea_ with ea_ en_ ec_
                                                  subst ea_
                                                  subst ec_
                                                  clear en_
                                                  have p430 : 0 ≤ (x11_5 : Int) := of_decide_eq_true (by first | (with_reducible assumption) | assumption)
                                                  have q430 : x11_5 < ((rd_L6 t422 x10_3).length : Int) := of_decide_eq_true (by first | (with_reducible assumption) | assumption)
                                                  obtain ⟨ad430, e430, hx430_0, hx430_1⟩ := at_T38 (by repeat (first | (with_reducible exact HR429_0.out) | (with_reducible refine Kd.C_alloc ?_ _) | (with_reducible refine Kd.C_drewN ?_ _) | (with_reducible refine Kd.C_drew ?_) | exact HR429_0.out)) x11_5 p430 q430
                                                  cases e430
                                                  replace p430 := eq_true p430
                                                  replace q430 := eq_true q430
                                                  go_wp2
                                                  repeat (go_quiet (fail); try go_wp2)
                                                  go_ret
                                                  exact ⟨by first | rfl | (simp [errW_none, errW_some] <;> rfl) | (simp only [← hji49]; first | rfl | (simp [errW_none, errW_some] <;> rfl)) | (simp [*, errW_none, errW_some] <;> rfl), by repeat (first | (with_reducible first | exact HB.out | apply below_alloc | apply pw_below_drewN | apply below_drew1) | exact HB.out)⟩
                                                · rw [if_neg c54] at H
                                                  have c54b0 : (((rd_T38 (rd_L6 t422 x10_3) (ji49)).f1) == ((rd_T38 (rd_L6 t422 x10_3) x11_5).f1)) = false := beq_eq_false_iff_ne.mpr c54
                                                  have c54b1 : (((rd_T38 (rd_L6 t422 x10_3) (ji49)).f1) != ((rd_T38 (rd_L6 t422 x10_3) x11_5).f1)) = true := bne_iff_ne.mpr c54
                                                  by_cases c56 : x8_5.size + ((rd_T38 (rd_L6 t422 x10_3) x11_5).f0).size ≤ 9223372036854775807
                                                  · rw [if_pos c56] at H
                                                    have c56b0 := eq_true c56
                                                    have c56b1 : decide (x8_5.size + ((rd_T38 (rd_L6 t422 x10_3) x11_5).f0).size ≤ 9223372036854775807) = true := decide_eq_true c56
                                                    try have c56b2 : (9223372036854775807 < x8_5.size + ((rd_T38 (rd_L6 t422 x10_3) x11_5).f0).size) = False := eq_false (Nat.not_lt.2 c56)
                                                    have H' := Aside0.mk H
                                                    clear H
                                                    obtain ⟨Ao57, co57, eo57⟩ := Kd.N_slice HO_9.out
                                                    subst eo57
                                                    have p427 : 0 ≤ (x10_3 : Int) := of_decide_eq_true (by first | (with_reducible assumption) | assumption)
                                                    have q427 : x10_3 < (t422.length : Int) := of_decide_eq_true (by first | (with_reducible assumption) | assumption)
                                                    obtain ⟨ad427, A427_0, c427_0, e427, hx427_0, hl427_0, hi427_0⟩ := at_L6 (Kd.N_reads' HO_9.out).2.2 x10_3 p427 q427
                                                    cases e427
                                                    obtain ⟨ce427, hce427, hMe427, hcc427⟩ := Kd.N_get HO_9.out [] x10_3 p427 (by first | exact q427 | exact of_decide_eq_true (by first | (with_reducible assumption) | assumption) | (have e_ := (Kd.N_reads' HO_9.out).1; omega))
                                                    obtain ⟨ua427_0, uc427_0, rfl, ul427_0, ge427_0⟩ := Kd.FK_slice_open hMe427
                                                    have hv427_0 := hcc427 0 _ rfl
                                                    rw [Nat.add_zero, show ((Kd.slice 38 k38)).sz = 1 from rfl, Nat.mul_one] at hv427_0
                                                    replace hv427_0 := Option.some.inj (hv427_0.symm.trans hx427_0)
                                                    injection hv427_0 with hva_ hvn_ hvc_
                                                    rw [hva_] at ge427_0
                                                    rw [hvc_] at ul427_0
                                                    have HL427_0 := Aside0.mk (show Kd.V k38 38 _ w.heap.size _ _ (rd_L6 t422 x10_3) from Kd.V_mk ul427_0 ge427_0)
                                                    clear hva_ hvn_ hvc_ ge427_0 ul427_0
                                                    clear hcc427 hce427
                                                    have HR427_0 := Aside0.mk hi427_0
                                                    have HC427_0 := Aside0.mk hl427_0
                                                    clear hi427_0 hl427_0
                                                    replace p427 := eq_true p427
                                                    replace q427 := eq_true q427
                                                    have p428 : 0 ≤ ((ji49) : Int) := of_decide_eq_true (by first | (with_reducible assumption) | assumption)
                                                    have q428 : (ji49) < ((rd_L6 t422 x10_3).length : Int) := of_decide_eq_true (by first | (with_reducible assumption) | assumption)
                                                    obtain ⟨ad428, e428, hx428_0, hx428_1⟩ := at_T38 (by repeat (first | (with_reducible exact HR427_0.out) | (with_reducible refine Kd.C_alloc ?_ _) | (with_reducible refine Kd.C_drewN ?_ _) | (with_reducible refine Kd.C_drew ?_) | exact HR427_0.out)) (ji49) p428 q428
                                                    cases e428
                                                    replace p428 := eq_true p428
                                                    replace q428 := eq_true q428
                                                    have p429 : 0 ≤ (x10_3 : Int) := of_decide_eq_true (by first | (with_reducible assumption) | assumption)
                                                    have q429 : x10_3 < (t422.length : Int) := of_decide_eq_true (by first | (with_reducible assumption) | assumption)
                                                    obtain ⟨ad429, A429_0, c429_0, e429, hx429_0, hl429_0, hi429_0⟩ := at_L6 (Kd.N_reads' HO_9.out).2.2 x10_3 p429 q429
                                                    obtain rfl : ad427 = ad429 := (by injection e429)
                                                    obtain ⟨ce429, hce429, hMe429, hcc429⟩ := Kd.N_get HO_9.out [] x10_3 p429 (by first | exact q429 | exact of_decide_eq_true (by first | (with_reducible assumption) | assumption) | (have e_ := (Kd.N_reads' HO_9.out).1; omega))
                                                    obtain ⟨ua429_0, uc429_0, rfl, ul429_0, ge429_0⟩ := Kd.FK_slice_open hMe429
                                                    have hv429_0 := hcc429 0 _ rfl
                                                    rw [Nat.add_zero, show ((Kd.slice 38 k38)).sz = 1 from rfl, Nat.mul_one] at hv429_0
                                                    replace hv429_0 := Option.some.inj (hv429_0.symm.trans hx429_0)
                                                    injection hv429_0 with hva_ hvn_ hvc_
                                                    rw [hva_] at ge429_0
                                                    rw [hvc_] at ul429_0
                                                    have HL429_0 := Aside0.mk (show Kd.V k38 38 _ w.heap.size _ _ (rd_L6 t422 x10_3) from Kd.V_mk ul429_0 ge429_0)
                                                    clear hva_ hvn_ hvc_ ge429_0 ul429_0
                                                    clear hcc429 hce429
                                                    have HR429_0 := Aside0.mk hi429_0
                                                    have HC429_0 := Aside0.mk hl429_0
                                                    clear hi429_0 hl429_0
                                                    replace p429 := eq_true p429
                                                    replace q429 := eq_true q429
                                                    have ea_ := Option.some.inj (hx427_0.symm.trans hx429_0)
                                                    injection ea_ with ea_ en_ ec_
                                                    subst ea_
                                                    subst ec_
                                                    clear en_
                                                    have p430 : 0 ≤ (x11_5 : Int) := of_decide_eq_true (by first | (with_reducible assumption) | assumption)
                                                    have q430 : x11_5 < ((rd_L6 t422 x10_3).length : Int) := of_decide_eq_true (by first | (with_reducible assumption) | assumption)
                                                    obtain ⟨ad430, e430, hx430_0, hx430_1⟩ := at_T38 (by repeat (first | (with_reducible exact HR429_0.out) | (with_reducible refine Kd.C_alloc ?_ _) | (with_reducible refine Kd.C_drewN ?_ _) | (with_reducible refine Kd.C_drew ?_) | exact HR429_0.out)) x11_5 p430 q430
                                                    cases e430
                                                    replace p430 := eq_true p430
                                                    replace q430 := eq_true q430
                                                    have p431 : 0 ≤ (x10_3 : Int) := of_decide_eq_true (by first | (with_reducible assumption) | assumption)
                                                    have q431 : x10_3 < (t422.length : Int) := of_decide_eq_true (by first | (with_reducible assumption) | assumption)
                                                    obtain ⟨ad431, A431_0, c431_0, e431, hx431_0, hl431_0, hi431_0⟩ := at_L6 (Kd.N_reads' HO_9.out).2.2 x10_3 p431 q431
                                                    obtain rfl : ad427 = ad431 := (by injection e431)
                                                    obtain ⟨ce431, hce431, hMe431, hcc431⟩ := Kd.N_get HO_9.out [] x10_3 p431 (by first | exact q431 | exact of_decide_eq_true (by first | (with_reducible assumption) | assumption) | (have e_ := (Kd.N_reads' HO_9.out).1; omega))
                                                    obtain ⟨ua431_0, uc431_0, rfl, ul431_0, ge431_0⟩ := Kd.FK_slice_open hMe431
                                                    have hv431_0 := hcc431 0 _ rfl
                                                    rw [Nat.add_zero, show ((Kd.slice 38 k38)).sz = 1 from rfl, Nat.mul_one] at hv431_0
                                                    replace hv431_0 := Option.some.inj (hv431_0.symm.trans hx431_0)
                                                    injection hv431_0 with hva_ hvn_ hvc_
                                                    rw [hva_] at ge431_0
                                                    rw [hvc_] at ul431_0
                                                    have HL431_0 := Aside0.mk (show Kd.V k38 38 _ w.heap.size _ _ (rd_L6 t422 x10_3) from Kd.V_mk ul431_0 ge431_0)
                                                    clear hva_ hvn_ hvc_ ge431_0 ul431_0
                                                    clear hcc431 hce431
                                                    have HR431_0 := Aside0.mk hi431_0
                                                    have HC431_0 := Aside0.mk hl431_0
                                                    clear hi431_0 hl431_0
                                                    replace p431 := eq_true p431
                                                    replace q431 := eq_true q431
                                                    have ea_ := Option.some.inj (hx427_0.symm.trans hx431_0)
                                                    injection ea_ with ea_ en_ ec_
                                                    subst ea_
                                                    subst ec_
                                                    clear en_
                                                    have p432 : 0 ≤ (x11_5 : Int) := of_decide_eq_true (by first | (with_reducible assumption) | assumption)
                                                    have q432 : x11_5 < ((rd_L6 t422 x10_3).length : Int) := of_decide_eq_true (by first | (with_reducible assumption) | assumption)
                                                    obtain ⟨ad432, e432, hx432_0, hx432_1⟩ := at_T38 (by repeat (first | (with_reducible exact HR431_0.out) | (with_reducible refine Kd.C_alloc ?_ _) | (with_reducible refine Kd.C_drewN ?_ _) | (with_reducible refine Kd.C_drew ?_) | exact HR431_0.out)) x11_5 p432 q432
                                                    cases e432
                                                    replace p432 := eq_true p432
                                                    replace q432 := eq_true q432
                                                    go_wp2
                                                    repeat (go_quiet (fail); try go_wp2)
                                                    go_roundg kj38
                                                    case measure => have := HJ2.out; have := HK2.out; have := HK3.out; have := HJ33.out; have := HK5.out; have := HJ38.out; omega
                                                    case rel => exact ⟨(x8_5 ++ ((rd_T38 (rd_L6 t422 x10_3) x11_5).f0)), (wrap64 (x11_5 + 1)), (by first | rfl | (simp; done) | (simp [*]; done)), (by first | rfl | (simp; done) | (simp [*]; done)), H', ⟨by have := HJ2.out; have := HK2.out; have := HK3.out; have := HJ33.out; have := HK5.out; have := HJ38.out; omega⟩, ⟨by (with_reducible repeat (first | apply Kd.N_alloc | apply Kd.N_drewN | apply Kd.N_drew)); exact HO_9.out⟩, ⟨by repeat (first | (with_reducible first | exact HB.out | apply below_alloc | apply pw_below_drewN | apply below_drew1) | exact HB.out)⟩⟩
                                                  · rw [if_neg c56] at H
                                                    exact absurd H (by simp)
                                              · rw [if_neg c53] at H
                                                exact absurd H (by simp)
                                            · rw [if_neg c52] at H
                                              exact absurd H (by simp)
                                          · rw [if_neg c51] at H
                                            exact absurd H (by simp)
                                        · rw [if_neg c50] at H
                                          exact absurd H (by simp)
                                      · rw [if_neg c48] at H
                                        exact absurd H (by simp)
                                    · rw [if_neg c47] at H
                                      exact absurd H (by simp)
                                  · rw [if_neg c46] at H
                                    have c46b0 : decide (0 < x11_5) = false := decide_eq_false c46
                                    clear c46
                                    by_cases c58 : 0 ≤ x10_3
                                    · rw [if_pos c58] at H
                                      have c58b0 : decide (0 ≤ x10_3) = true := decide_eq_true c58
                                      clear c58
                                      by_cases c59 : x10_3 < (t422.length : Int)
                                      · rw [if_pos c59] at H
                                        have c59b0 : decide (x10_3 < (t422.length : Int)) = true := decide_eq_true c59
                                        clear c59
                                        by_cases c60 : 0 ≤ x11_5
                                        · rw [if_pos c60] at H
                                          have c60b0 : decide (0 ≤ x11_5) = true := decide_eq_true c60
                                          clear c60
                                          by_cases c61 : x11_5 < ((rd_L6 t422 x10_3).length : Int)
                                          · rw [if_pos c61] at H
                                            have c61b0 : decide (x11_5 < ((rd_L6 t422 x10_3).length : Int)) = true := decide_eq_true c61
                                            clear c61
                                            by_cases c62 : x8_5.size + ((rd_T38 (rd_L6 t422 x10_3) x11_5).f0).size ≤ 9223372036854775807
                                            · rw [if_pos c62] at H
                                              have c62b0 := eq_true c62
                                              have c62b1 : decide (x8_5.size + ((rd_T38 (rd_L6 t422 x10_3) x11_5).f0).size ≤ 9223372036854775807) = true := decide_eq_true c62
                                              try have c62b2 : (9223372036854775807 < x8_5.size + ((rd_T38 (rd_L6 t422 x10_3) x11_5).f0).size) = False := eq_false (Nat.not_lt.2 c62)
                                              have H' := Aside0.mk H
                                              clear H
                                              obtain ⟨Ao63, co63, eo63⟩ := Kd.N_slice HO_9.out
                                              subst eo63
                                              have p433 : 0 ≤ (x10_3 : Int) := of_decide_eq_true (by first | (with_reducible assumption) | assumption)
                                              have q433 : x10_3 < (t422.length : Int) := of_decide_eq_true (by first | (with_reducible assumption) | assumption)
                                              obtain ⟨ad433, A433_0, c433_0, e433, hx433_0, hl433_0, hi433_0⟩ := at_L6 (Kd.N_reads' HO_9.out).2.2 x10_3 p433 q433
                                              cases e433
                                              obtain ⟨ce433, hce433, hMe433, hcc433⟩ := Kd.N_get HO_9.out [] x10_3 p433 (by first | exact q433 | exact of_decide_eq_true (by first | (with_reducible assumption) | assumption) | (have e_ := (Kd.N_reads' HO_9.out).1; omega))
                                              obtain ⟨ua433_0, uc433_0, rfl, ul433_0, ge433_0⟩ := Kd.FK_slice_open hMe433
                                              have hv433_0 := hcc433 0 _ rfl
                                              rw [Nat.add_zero, show ((Kd.slice 38 k38)).sz = 1 from rfl, Nat.mul_one] at hv433_0
                                              replace hv433_0 := Option.some.inj (hv433_0.symm.trans hx433_0)
                                              injection hv433_0 with hva_ hvn_ hvc_
                                              rw [hva_] at ge433_0
                                              rw [hvc_] at ul433_0
                                              have HL433_0 := Aside0.mk (show Kd.V k38 38 _ w.heap.size _ _ (rd_L6 t422 x10_3) from Kd.V_mk ul433_0 ge433_0)
                                              clear hva_ hvn_ hvc_ ge433_0 ul433_0
                                              clear hcc433 hce433
                                              have HR433_0 := Aside0.mk hi433_0
                                              have HC433_0 := Aside0.mk hl433_0
                                              clear hi433_0 hl433_0
                                              replace p433 := eq_true p433
                                              replace q433 := eq_true q433
                                              have p434 : 0 ≤ (x11_5 : Int) := of_decide_eq_true (by first | (with_reducible assumption) | assumption)
                                              have q434 : x11_5 < ((rd_L6 t422 x10_3).length : Int) := of_decide_eq_true (by first | (with_reducible assumption) | assumption)
                                              obtain ⟨ad434, e434, hx434_0, hx434_1⟩ := at_T38 (by repeat (first | (with_reducible exact HR433_0.out) | (with_reducible refine Kd.C_alloc ?_ _) | (with_reducible refine Kd.C_drewN ?_ _) | (with_reducible refine Kd.C_drew ?_) | exact HR433_0.out)) x11_5 p434 q434
                                              cases e434
                                              replace p434 := eq_true p434
                                              replace q434 := eq_true q434
                                              go_wp2
                                              repeat (go_quiet (fail); try go_wp2)
                                              go_roundg kj38
                                              case measure => have := HJ2.out; have := HK2.out; have := HK3.out; have := HJ33.out; have := HK5.out; have := HJ38.out; omega
                                              case rel => exact ⟨(x8_5 ++ ((rd_T38 (rd_L6 t422 x10_3) x11_5).f0)), (wrap64 (x11_5 + 1)), (by first | rfl | (simp; done) | (simp [*]; done)), (by first | rfl | (simp; done) | (simp [*]; done)), H', ⟨by have := HJ2.out; have := HK2.out; have := HK3.out; have := HJ33.out; have := HK5.out; have := HJ38.out; omega⟩, ⟨by (with_reducible repeat (first | apply Kd.N_alloc | apply Kd.N_drewN | apply Kd.N_drew)); exact HO_9.out⟩, ⟨by repeat (first | (with_reducible first | exact HB.out | apply below_alloc | apply pw_below_drewN | apply below_drew1) | exact HB.out)⟩⟩
                                            · rw [if_neg c62] at H
                                              exact absurd H (by simp)
                                          · rw [if_neg c61] at H
                                            exact absurd H (by simp)
                                        · rw [if_neg c60] at H
                                          exact absurd H (by simp)
                                      · rw [if_neg c59] at H
                                        exact absurd H (by simp)
                                    · rw [if_neg c58] at H
                                      exact absurd H (by simp)
                                · replace c45 := Bool.eq_false_iff.mpr c45
                                  subst c45
                                  have H1 : (jobshelllaw18_SplitBytes.l2 kj38 x5_2 x8_5 t422 (wrap64 (x10_3 + 1))) = some r := by rw [if_neg (show ¬ (false = true) by decide)] at H; exact H
                                  clear H
                                  have H := H1
                                  clear H1
                                  have H' := Aside0.mk H
                                  clear H
                                  go_wp2
                                  repeat (go_quiet (fail); try go_wp2)
                                  go_roundg kj38
                                  case measure => have := HJ2.out; have := HK2.out; have := HK3.out; have := HJ33.out; have := HK5.out; have := HJ38.out; omega
                                  case rel => exact ⟨(x8_5), (wrap64 (x10_3 + 1)), (by first | rfl | (simp; done) | (simp [*]; done)), (by first | rfl | (simp; done) | (simp [*]; done)), H', ⟨by have := HJ2.out; have := HK2.out; have := HK3.out; have := HJ33.out; have := HK5.out; have := HJ38.out; omega⟩, ⟨by (with_reducible repeat (first | apply Kd.N_alloc | apply Kd.N_drewN | apply Kd.N_drew)); exact HO_9.out⟩, ⟨by repeat (first | (with_reducible first | exact HB.out | apply below_alloc | apply pw_below_drewN | apply below_drew1) | exact HB.out)⟩⟩
                      · replace c38 := Bool.eq_false_iff.mpr c38
                        subst c38
                        have H1 : (if x8_3.toList = x5_2.toList then ((jobshelllaw18_awake.f kj33).bind fun t425 => (some t425)) else (some false)) = some r := by rw [if_neg (show ¬ (false = true) by decide)] at H; exact H
                        clear H
                        have H := H1
                        clear H1
                        by_cases c64 : x8_3.toList = x5_2.toList
                        · rw [if_pos c64] at H
                          have c64b0 : (x8_3.toList == x5_2.toList) = true := beq_iff_eq.mpr c64
                          have c64b1 : (x8_3.toList != x5_2.toList) = false := bne_eq_false_iff_eq.mpr c64
                          clear c64
                          replace H := Option.bind_eq_some_iff.mp H
                          obtain ⟨t425, A650, H⟩ := H
                          replace H : (some t425) = some r := H
                          have A65 := Aside0.mk A650
                          clear A650
                          obtain rfl := Option.some.inj H
                          go_wp2_with (first | (go_at_call 10; (with_reducible refine (jobshelllaw18_awake.calls kj33  t425 _ A65.out).mono ?_); rintro e w66 ⟨rfl, hb⟩; have n0_ := Aside0.mk (Kd.N_below (by (with_reducible repeat (first | apply Kd.N_alloc | apply Kd.N_drewN | apply Kd.N_drew)); exact HO_9.out) hb); have n1_ := Aside0.mk (below_step (by repeat (first | (with_reducible first | exact HB.out | apply below_alloc | apply pw_below_drewN | apply below_drew1) | exact HB.out)) hb); clear HO_9; clear HB; have HO_9 := n0_; have HB := n1_; clear n0_ n1_; (try clear hb); (try clear hb2); (try clear hk); (try clear hi)))
                          repeat (go_quiet (first | (go_at_call 10; (with_reducible refine (jobshelllaw18_awake.calls kj33  t425 _ A65.out).mono ?_); rintro e w66 ⟨rfl, hb⟩; have n0_ := Aside0.mk (Kd.N_below (by (with_reducible repeat (first | apply Kd.N_alloc | apply Kd.N_drewN | apply Kd.N_drew)); exact HO_9.out) hb); have n1_ := Aside0.mk (below_step (by repeat (first | (with_reducible first | exact HB.out | apply below_alloc | apply pw_below_drewN | apply below_drew1) | exact HB.out)) hb); clear HO_9; clear HB; have HO_9 := n0_; have HB := n1_; clear n0_ n1_; (try clear hb); (try clear hb2); (try clear hk); (try clear hi))); try go_wp2_with (first | (go_at_call 10; (with_reducible refine (jobshelllaw18_awake.calls kj33  t425 _ A65.out).mono ?_); rintro e w66 ⟨rfl, hb⟩; have n0_ := Aside0.mk (Kd.N_below (by (with_reducible repeat (first | apply Kd.N_alloc | apply Kd.N_drewN | apply Kd.N_drew)); exact HO_9.out) hb); have n1_ := Aside0.mk (below_step (by repeat (first | (with_reducible first | exact HB.out | apply below_alloc | apply pw_below_drewN | apply below_drew1) | exact HB.out)) hb); clear HO_9; clear HB; have HO_9 := n0_; have HB := n1_; clear n0_ n1_; (try clear hb); (try clear hb2); (try clear hk); (try clear hi))))
                          go_ret
                          exact ⟨by first | rfl | (simp [errW_none, errW_some] <;> rfl) | (simp [*, errW_none, errW_some] <;> rfl), by repeat (first | (with_reducible first | exact HB.out | apply below_alloc | apply pw_below_drewN | apply below_drew1) | exact HB.out)⟩
                        · rw [if_neg c64] at H
                          have c64b0 : (x8_3.toList == x5_2.toList) = false := beq_eq_false_iff_ne.mpr c64
                          have c64b1 : (x8_3.toList != x5_2.toList) = true := bne_iff_ne.mpr c64
                          obtain rfl := Option.some.inj H
                          go_wp2
                          repeat (go_quiet (fail); try go_wp2)
                          go_ret
                          exact ⟨by first | rfl | (simp [errW_none, errW_some] <;> rfl) | (simp [*, errW_none, errW_some] <;> rfl), by repeat (first | (with_reducible first | exact HB.out | apply below_alloc | apply pw_below_drewN | apply below_drew1) | exact HB.out)⟩

end Go.Proofs.Ytbkhdgfehgfjpaa.PAll
