-- Written for this claim by a program of the session (wip/ext).
import Derived.Test.YthoanbjklgoggaaDoorPAllx0
import Derived.Test.YthoanbjklgoggaaDoorExtIdx
namespace Go.Proofs.YthoanbjklgoggaaDoor.PAll
open Go.RowKit Go.Proofs.YthoanbjklgoggaaDoorW.PrintWords Go.Proofs.YthoanbjklgoggaaDoorW.PrintLast Go.Proofs.YthoanbjklgoggaaDoorW.PrintMore
attribute [local go_sem] max2_int min2_int max_two min_two max_three min_three max_four min_four   -- for this text's walks alone
set_option linter.unusedVariables false
set_option linter.unusedSimpArgs false

/-! ### bang_ends: function 50 -/
def bang_ends.f (a0 : Int) : Option (Bool) := (strings_IndexByte.f (⟨#[9, 32, 10, 58, 94, 36, 42, 33, 59, 38, 124, 60, 62, 40, 41, 61, 39, 34, 96, 92]⟩ : ByteArray) a0).bind fun t136 => (some (decide (t136 ≥ 0)))
set_option maxHeartbeats 3000000 in
set_option maxRecDepth 100000 in
theorem bang_ends.calls (a0 : Int) (r : Bool) (w : World) (h : bang_ends.f a0 = some r) :
  Calls Tryd.prog 50 #[.int .u8 a0] w fun e w' => e = .returned (.bool r) ∧ Drawn0 w w' := by
 have H : ((strings_IndexByte.f (⟨#[9, 32, 10, 58, 94, 36, 42, 33, 59, 38, 124, 60, 62, 40, 41, 61, 39, 34, 96, 92]⟩ : ByteArray) a0).bind fun t136 => (some (decide (t136 ≥ 0)))) = some r := h
 clear h
 replace H := Option.bind_eq_some_iff.mp H
 obtain ⟨t136, A20, H⟩ := H
 replace H : (some (decide (t136 ≥ 0))) = some r := H
 have A2 := Aside0.mk A20
 clear A20
 obtain rfl := Option.some.inj H
 go_enter Tryd.func50, Tryd.ntmps50
 go_wp2_with (first | ((with_reducible refine gate_callee (f := 18) rfl ?_); refine goesL_ (some 4) rfl rfl Tryd.func18 (by kernel_rfl) rfl #[.string (⟨#[9, 32, 10, 58, 94, 36, 42, 33, 59, 38, 124, 60, 62, 40, 41, 61, 39, 34, 96, 92]⟩ : ByteArray), .int .u8 a0] rfl (by (try simp only [List.map_toArray, List.map_cons, List.map_nil]); first | done | rfl | (simp only [List.length_drop, List.length_take]; rfl)) ?_; (with_reducible refine (strings_IndexByte.calls (⟨#[9, 32, 10, 58, 94, 36, 42, 33, 59, 38, 124, 60, 62, 40, 41, 61, 39, 34, 96, 92]⟩ : ByteArray) a0 t136 _ A2.out).mono ?_); rintro e w' ⟨rfl, ⟨nd, rfl⟩⟩; refine ⟨_, rfl, ?_⟩))
 go_ret
 exact ⟨by first | rfl | (simp; done) | (simp [*]; done), by repeat (first | exact Drawn0.refl _ | apply Drawn0.step)⟩

end Go.Proofs.YthoanbjklgoggaaDoor.PAll
