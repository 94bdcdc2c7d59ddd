-- Written for this claim by a program of the session (wip/ext).
import Derived.Test.YthoanbjklgoggaaDoorPAllx0
import Derived.Test.YthoanbjklgoggaaDoorExtIdx
namespace Go.Proofs.YthoanbjklgoggaaDoor.PAll
open Go.RowKit Go.Proofs.YthoanbjklgoggaaDoorW.PrintWords Go.Proofs.YthoanbjklgoggaaDoorW.PrintLast Go.Proofs.YthoanbjklgoggaaDoorW.PrintMore
attribute [local go_sem] max2_int min2_int max_two min_two max_three min_three max_four min_four   -- for this text's walks alone
set_option linter.unusedVariables false
set_option linter.unusedSimpArgs false

/-! ### bang_stays: function 19 -/
def bang_stays.f (a0 : ByteArray) (a1 : Int) (a2 : Bool) : Option (Bool) := if (wrap64 (a1 + 1)) = (a0.size : Int) then (some true) else (if 0 ≤ (wrap64 (a1 + 1)) then (if (wrap64 (a1 + 1)) < (a0.size : Int) then ((strings_IndexByte.f (⟨#[9, 10, 32, 61, 40]⟩ : ByteArray) (bt a0 (wrap64 (a1 + 1)))).bind fun t127 => (if t127 ≥ 0 then (some true) else (if a2 = true then (some ((bt a0 (wrap64 (a1 + 1))) == 34)) else (some false)))) else (none)) else (none))
set_option maxHeartbeats 3000000 in
set_option maxRecDepth 100000 in
theorem bang_stays.calls (a0 : ByteArray) (a1 : Int) (a2 : Bool) (r : Bool) (w : World) (h : bang_stays.f a0 a1 a2 = some r) :
  Calls Tryd.prog 19 #[.string a0, .int .i64 a1, .bool a2] w fun e w' => e = .returned (.bool r) ∧ Drawn0 w w' := by
 have H : (if (wrap64 (a1 + 1)) = (a0.size : Int) then (some true) else (if 0 ≤ (wrap64 (a1 + 1)) then (if (wrap64 (a1 + 1)) < (a0.size : Int) then ((strings_IndexByte.f (⟨#[9, 10, 32, 61, 40]⟩ : ByteArray) (bt a0 (wrap64 (a1 + 1)))).bind fun t127 => (if t127 ≥ 0 then (some true) else (if a2 = true then (some ((bt a0 (wrap64 (a1 + 1))) == 34)) else (some false)))) else (none)) else (none))) = some r := h
 clear h
 by_cases c4 : (wrap64 (a1 + 1)) = (a0.size : Int)
 ·rw [if_pos c4] at H
  have c4b0 : ((wrap64 (a1 + 1)) == (a0.size : Int)) = true := beq_iff_eq.mpr c4
  have c4b1 : ((wrap64 (a1 + 1)) != (a0.size : Int)) = false := bne_eq_false_iff_eq.mpr c4
  clear c4
  obtain rfl := Option.some.inj H
  go_enter Tryd.func19, Tryd.ntmps19
  go_wp2
  go_ret
  exact ⟨by first | rfl | (simp; done) | (simp [*]; done), by repeat (first | exact Drawn0.refl _ | apply Drawn0.step)⟩
 ·rw [if_neg c4] at H
  have c4b0 : ((wrap64 (a1 + 1)) == (a0.size : Int)) = false := beq_eq_false_iff_ne.mpr c4
  have c4b1 : ((wrap64 (a1 + 1)) != (a0.size : Int)) = true := bne_iff_ne.mpr c4
  obtain ⟨ji5, hji5⟩ : ∃ j_ : Int, (wrap64 (a1 + 1)) = j_ := ⟨_, rfl⟩
  replace H : (if 0 ≤ (ji5) then (if (ji5) < (a0.size : Int) then ((strings_IndexByte.f (⟨#[9, 10, 32, 61, 40]⟩ : ByteArray) (bt a0 (ji5))).bind fun t127 => (if t127 ≥ 0 then (some true) else (if a2 = true then (some ((bt a0 (ji5)) == 34)) else (some false)))) else (none)) else (none)) = some r := by first | (rw [hji5] at H; exact H) | (simp only [hji5] at H ⊢; exact H)
  (try rw [hji5] at c4b0)
  (try rw [hji5] at c4b1)
  have hji5w : (IntKind.i64.wrap (a1 + 1)) = ji5 := (i64_w _).trans hji5
  by_cases c6 : 0 ≤ (ji5)
  ·rw [if_pos c6] at H
   have c6b0 : decide (0 ≤ (ji5)) = true := decide_eq_true c6
   clear c6
   by_cases c7 : (ji5) < (a0.size : Int)
   ·rw [if_pos c7] at H
    have c7b0 : decide ((ji5) < (a0.size : Int)) = true := decide_eq_true c7
    clear c7
    replace H := Option.bind_eq_some_iff.mp H
    obtain ⟨t127, A90, H⟩ := H
    replace H : (if t127 ≥ 0 then (some true) else (if a2 = true then (some ((bt a0 (ji5)) == 34)) else (some false))) = some r := H
    have A9 := Aside0.mk A90
    clear A90
    by_cases c10 : t127 ≥ 0
    ·rw [if_pos c10] at H
     have c10b0 : decide (0 ≤ t127) = true := decide_eq_true c10
     clear c10
     obtain rfl := Option.some.inj H
     have p8 : 0 ≤ ((ji5) : Int) := of_decide_eq_true (by first | (with_reducible assumption) | assumption)
     have q8 : (ji5) < (a0.size : Int) := of_decide_eq_true (by first | (with_reducible assumption) | assumption)
     have hx8 := bt_at a0 (ji5)
     replace p8 := eq_true p8
     replace q8 := eq_true q8
     go_enter Tryd.func19, Tryd.ntmps19
     go_wp2_with (first | (go_at_call 18; (with_reducible refine (strings_IndexByte.calls (⟨#[9, 10, 32, 61, 40]⟩ : ByteArray) (bt a0 (ji5)) t127 _ A9.out).mono ?_); rintro e w' ⟨rfl, ⟨nd, rfl⟩⟩))
     go_ret
     exact ⟨by first | rfl | (simp; done) | (simp only [← hji5] <;> (first | rfl | simp)) | (simp [*]; done), by repeat (first | exact Drawn0.refl _ | apply Drawn0.step)⟩
    ·rw [if_neg c10] at H
     have c10b0 : decide (0 ≤ t127) = false := decide_eq_false c10
     clear c10
     by_cases c11 : a2 = true
     ·subst c11
      have H1 : (some ((bt a0 (ji5)) == 34)) = some r := by rw [if_pos rfl] at H; exact H
      clear H
      have H := H1
      clear H1
      obtain rfl := Option.some.inj H
      have p8 : 0 ≤ ((ji5) : Int) := of_decide_eq_true (by first | (with_reducible assumption) | assumption)
      have q8 : (ji5) < (a0.size : Int) := of_decide_eq_true (by first | (with_reducible assumption) | assumption)
      have hx8 := bt_at a0 (ji5)
      replace p8 := eq_true p8
      replace q8 := eq_true q8
      go_enter Tryd.func19, Tryd.ntmps19
      go_wp2_with (first | (go_at_call 18; (with_reducible refine (strings_IndexByte.calls (⟨#[9, 10, 32, 61, 40]⟩ : ByteArray) (bt a0 (ji5)) t127 _ A9.out).mono ?_); rintro e w' ⟨rfl, ⟨nd, rfl⟩⟩; have p12 : 0 ≤ ((ji5) : Int) := of_decide_eq_true (by first | (with_reducible assumption) | assumption); have q12 : (ji5) < (a0.size : Int) := of_decide_eq_true (by first | (with_reducible assumption) | assumption); have hx12 := bt_at a0 (ji5); replace p12 := eq_true p12; replace q12 := eq_true q12))
      go_ret
      exact ⟨by first | rfl | (simp; done) | (simp only [← hji5] <;> (first | rfl | simp)) | (simp [*]; done), by repeat (first | exact Drawn0.refl _ | apply Drawn0.step)⟩
     ·replace c11 := Bool.eq_false_iff.mpr c11
      subst c11
      have H1 : (some false) = some r := by rw [if_neg (show ¬ (false = true) by decide)] at H; exact H
      clear H
      have H := H1
      clear H1
      obtain rfl := Option.some.inj H
      have p8 : 0 ≤ ((ji5) : Int) := of_decide_eq_true (by first | (with_reducible assumption) | assumption)
      have q8 : (ji5) < (a0.size : Int) := of_decide_eq_true (by first | (with_reducible assumption) | assumption)
      have hx8 := bt_at a0 (ji5)
      replace p8 := eq_true p8
      replace q8 := eq_true q8
      go_enter Tryd.func19, Tryd.ntmps19
      go_wp2_with (first | (go_at_call 18; (with_reducible refine (strings_IndexByte.calls (⟨#[9, 10, 32, 61, 40]⟩ : ByteArray) (bt a0 (ji5)) t127 _ A9.out).mono ?_); rintro e w' ⟨rfl, ⟨nd, rfl⟩⟩))
      go_ret
      exact ⟨by first | rfl | (simp; done) | (simp only [← hji5] <;> (first | rfl | simp)) | (simp [*]; done), by repeat (first | exact Drawn0.refl _ | apply Drawn0.step)⟩
   ·rw [if_neg c7] at H
    exact absurd H (by simp)
  ·rw [if_neg c6] at H
   exact absurd H (by simp)

end Go.Proofs.YthoanbjklgoggaaDoor.PAll
