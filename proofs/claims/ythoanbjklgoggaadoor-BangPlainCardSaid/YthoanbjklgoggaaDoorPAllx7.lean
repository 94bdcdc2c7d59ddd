-- Written for this claim by a program of the session (wip/ext).
import Derived.Test.YthoanbjklgoggaaDoorPAllx0
namespace Go.Proofs.YthoanbjklgoggaaDoor.PAll
open Go.RowKit Go.Proofs.YthoanbjklgoggaaDoorW.PrintWords Go.Proofs.YthoanbjklgoggaaDoorW.PrintLast Go.Proofs.YthoanbjklgoggaaDoorW.PrintMore
attribute [local go_sem] max2_int min2_int max_two min_two max_three min_three max_four min_four   -- for this text's walks alone
set_option linter.unusedVariables false
set_option linter.unusedSimpArgs false

/-! ### bang_result: function 22 -/
def bang_result.f (a0 : ByteArray) (a1 : Bool) : Option (ByteArray × Bool × Int) := if (a0.size : Int) > 4096 then (some ((⟨#[]⟩ : ByteArray), false, 3)) else (some (a0, a1, 0))
set_option maxHeartbeats 3000000 in
set_option maxRecDepth 100000 in
theorem bang_result.calls (a0 : ByteArray) (a1 : Bool) (r1 : ByteArray) (r2 : Bool) (r3 : Int) (w : World) (h : bang_result.f a0 a1 = some (r1, r2, r3)) :
  Calls Tryd.prog 22 #[.string a0, .bool a1] w fun e w' => e = .returned (.tuple #[.string r1, .bool r2, .int .i64 r3]) ∧ Drawn0 w w' := by
 have H : (if (a0.size : Int) > 4096 then (some ((⟨#[]⟩ : ByteArray), false, 3)) else (some (a0, a1, 0))) = some (r1, r2, r3) := h
 clear h
 by_cases c3 : (a0.size : Int) > 4096
 ·rw [if_pos c3] at H
  have c3b0 : decide (4096 < (a0.size : Int)) = true := decide_eq_true c3
  have c3b1 : decide (4096 < a0.size) = true := decide_eq_true (by omega)
  clear c3
  simp only [Option.some.injEq, Prod.mk.injEq] at H
  obtain ⟨rfl, rfl, rfl⟩ := H
  go_enter Tryd.func22, Tryd.ntmps22
  go_wp2
  go_ret3
  exact ⟨by first | rfl | (simp; done) | (simp [*]; done), by repeat (first | exact Drawn0.refl _ | apply Drawn0.step)⟩
 ·rw [if_neg c3] at H
  have c3b0 : decide (4096 < (a0.size : Int)) = false := decide_eq_false c3
  have c3b1 : decide (4096 < a0.size) = false := decide_eq_false (by omega)
  clear c3
  simp only [Option.some.injEq, Prod.mk.injEq] at H
  obtain ⟨rfl, rfl, rfl⟩ := H
  go_enter Tryd.func22, Tryd.ntmps22
  go_wp2
  go_ret3
  exact ⟨by first | rfl | (simp; done) | (simp [*]; done), by repeat (first | exact Drawn0.refl _ | apply Drawn0.step)⟩

end Go.Proofs.YthoanbjklgoggaaDoor.PAll
