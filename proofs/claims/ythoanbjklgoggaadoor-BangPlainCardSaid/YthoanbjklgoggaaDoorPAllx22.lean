-- Written for this claim by a program of the session (wip/ext).
import Derived.Test.YthoanbjklgoggaaDoorPAllx0
import Derived.Test.YthoanbjklgoggaaDoorPAllx11
namespace Go.Proofs.YthoanbjklgoggaaDoor.PAll
open Go.RowKit Go.Proofs.YthoanbjklgoggaaDoorW.PrintWords Go.Proofs.YthoanbjklgoggaaDoorW.PrintLast Go.Proofs.YthoanbjklgoggaaDoorW.PrintMore
attribute [local go_sem] max2_int min2_int max_two min_two max_three min_three max_four min_four   -- for this text's walks alone
set_option linter.unusedVariables false
set_option linter.unusedSimpArgs false

/-! ### bang_reader_has: function 36 -/
def bang_reader_has.f (s0_0 : Int) (s0_1 : List ByteArray) (s0_2 : ByteArray) (s0_3 : Int) (s0_4 : ByteArray) (s0_5 : Bool) (a1 : Int) : Option (Bool × Int × ByteArray × Int × ByteArray × Bool) := if s0_3 < (s0_2.size : Int) then (if 0 ≤ s0_3 then (some (((bt s0_2 s0_3) == a1), s0_0, s0_2, s0_3, s0_4, s0_5)) else (none)) else (some (false, s0_0, s0_2, s0_3, s0_4, s0_5))
set_option maxHeartbeats 3000000 in
set_option maxRecDepth 100000 in
theorem bang_reader_has.calls (g : Nat) (s0_0 : Int) (s0_1 : List ByteArray) (s0_2 : ByteArray) (s0_3 : Int) (s0_4 : ByteArray) (s0_5 : Bool) (a1 : Int) (r1 : Bool) (r2 : Int) (r3 : ByteArray) (r4 : Int) (r5 : ByteArray) (r6 : Bool) (w0 w : World) (hI : IsS47 w0 w g s0_0 s0_1 s0_2 s0_3 s0_4 s0_5) (hB : Below w0.heap.size w0 w) (h : bang_reader_has.f s0_0 s0_1 s0_2 s0_3 s0_4 s0_5 a1 = some (r1, r2, r3, r4, r5, r6)) :
  Calls Tryd.prog 36 #[.pointer (some ⟨g, 0, none⟩), .int .u8 a1] w fun e w' => e = .returned (.bool r1) ∧ IsS47 w0 w' g r2 s0_1 r3 r4 r5 r6 ∧ Below w0.heap.size w0 w' ∧ KeepBut w w' g none := by
 have HI0 := Aside0.mk hI
 have HK := Aside0.mk (KeepBut.refl w g none)
 have HL := Aside0.mk hB.size
 clear hI
 have HW0 := Aside0.mk hB.size
 have HB := Aside0.mk hB
 clear hB
 have H : (if s0_3 < (s0_2.size : Int) then (if 0 ≤ s0_3 then (some (((bt s0_2 s0_3) == a1), s0_0, s0_2, s0_3, s0_4, s0_5)) else (none)) else (some (false, s0_0, s0_2, s0_3, s0_4, s0_5))) = some (r1, r2, r3, r4, r5, r6) := h
 clear h
 by_cases c3 : s0_3 < (s0_2.size : Int)
 ·rw [if_pos c3] at H
  have c3b0 : decide (s0_3 < (s0_2.size : Int)) = true := decide_eq_true c3
  clear c3
  by_cases c4 : 0 ≤ s0_3
  ·rw [if_pos c4] at H
   have c4b0 : decide (0 ≤ s0_3) = true := decide_eq_true c4
   clear c4
   simp only [Option.some.injEq, Prod.mk.injEq] at H
   obtain ⟨rfl, rfl, rfl, rfl, rfl, rfl⟩ := H
   obtain ⟨ASz6_1, cSz6_1, HGz6, hgz6, ⟨HSz6_1, HCSz6_1⟩⟩ := HI0.out
   have hcz6_0 := cellS47_0 HGz6
   have hcz6_1 := cellS47_1 HGz6
   have hcz6_2 := cellS47_2 HGz6
   have hcz6_3 := cellS47_3 HGz6
   have hcz6_4 := cellS47_4 HGz6
   have hcz6_5 := cellS47_5 HGz6
   have hfz6_0 := blk_frozen HGz6 0
   have hfz6_2 := blk_frozen HGz6 2
   have hfz6_3 := blk_frozen HGz6 3
   have hfz6_4 := blk_frozen HGz6 4
   have hfz6_5 := blk_frozen HGz6 5
   clear HGz6 hgz6
   have p5 : 0 ≤ (s0_3 : Int) := of_decide_eq_true (by first | (with_reducible assumption) | assumption)
   have q5 : s0_3 < (s0_2.size : Int) := of_decide_eq_true (by first | (with_reducible assumption) | assumption)
   have hx5 := bt_at s0_2 s0_3
   replace p5 := eq_true p5
   replace q5 := eq_true q5
   go_enter Tryd.func36, Tryd.ntmps36
   go_wp2
   repeat (go_quiet (fail); try go_wp2)
   go_ret
   exact ⟨by first | rfl | (simp [errW_none, errW_some] <;> rfl) | (simp [*, errW_none, errW_some] <;> rfl), by repeat (first | (with_reducible first | exact HI0.out | apply IsS47.alloc | apply IsS47.drewN | apply IsS47.drew | apply IsS47.set_0 | apply IsS47.set_2 | apply IsS47.set_3 | apply IsS47.set_4 | apply IsS47.set_5) | exact HI0.out), by repeat (first | (with_reducible first | exact HB.out | apply below_alloc | apply pw_below_drewN | apply below_drew1 | refine below_set ?_ (IsS47.ge HI0.out)) | exact HB.out), by repeat (first | (with_reducible first | exact HK.out | apply KeepBut.set_ | apply keep_drewN | apply keep_drew | apply keep_alloc) | exact HK.out)⟩
  ·rw [if_neg c4] at H
   exact absurd H (by simp)
 ·rw [if_neg c3] at H
  have c3b0 : decide (s0_3 < (s0_2.size : Int)) = false := decide_eq_false c3
  clear c3
  simp only [Option.some.injEq, Prod.mk.injEq] at H
  obtain ⟨rfl, rfl, rfl, rfl, rfl, rfl⟩ := H
  obtain ⟨ASz7_1, cSz7_1, HGz7, hgz7, ⟨HSz7_1, HCSz7_1⟩⟩ := HI0.out
  have hcz7_0 := cellS47_0 HGz7
  have hcz7_1 := cellS47_1 HGz7
  have hcz7_2 := cellS47_2 HGz7
  have hcz7_3 := cellS47_3 HGz7
  have hcz7_4 := cellS47_4 HGz7
  have hcz7_5 := cellS47_5 HGz7
  have hfz7_0 := blk_frozen HGz7 0
  have hfz7_2 := blk_frozen HGz7 2
  have hfz7_3 := blk_frozen HGz7 3
  have hfz7_4 := blk_frozen HGz7 4
  have hfz7_5 := blk_frozen HGz7 5
  clear HGz7 hgz7
  go_enter Tryd.func36, Tryd.ntmps36
  go_wp2
  repeat (go_quiet (fail); try go_wp2)
  go_ret
  exact ⟨by first | rfl | (simp [errW_none, errW_some] <;> rfl) | (simp [*, errW_none, errW_some] <;> rfl), by repeat (first | (with_reducible first | exact HI0.out | apply IsS47.alloc | apply IsS47.drewN | apply IsS47.drew | apply IsS47.set_0 | apply IsS47.set_2 | apply IsS47.set_3 | apply IsS47.set_4 | apply IsS47.set_5) | exact HI0.out), by repeat (first | (with_reducible first | exact HB.out | apply below_alloc | apply pw_below_drewN | apply below_drew1 | refine below_set ?_ (IsS47.ge HI0.out)) | exact HB.out), by repeat (first | (with_reducible first | exact HK.out | apply KeepBut.set_ | apply keep_drewN | apply keep_drew | apply keep_alloc) | exact HK.out)⟩

end Go.Proofs.YthoanbjklgoggaaDoor.PAll
