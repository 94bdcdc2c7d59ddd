-- Written for this claim by a program of the session (wip/ext).
import Derived.Test.YthoanbjklgoggaaDoorPAllx0
import Derived.Test.YthoanbjklgoggaaDoorPAllx11
import Derived.Test.YthoanbjklgoggaaDoorPAllx22
import Derived.Test.YthoanbjklgoggaaDoorPAllx27
import Derived.Test.YthoanbjklgoggaaDoorPAllx28
namespace Go.Proofs.YthoanbjklgoggaaDoor.PAll
open Go.RowKit Go.Proofs.YthoanbjklgoggaaDoorW.PrintWords Go.Proofs.YthoanbjklgoggaaDoorW.PrintLast Go.Proofs.YthoanbjklgoggaaDoorW.PrintMore
attribute [local go_sem] max2_int min2_int max_two min_two max_three min_three max_four min_four   -- for this text's walks alone
set_option linter.unusedVariables false
set_option linter.unusedSimpArgs false

/-! ### bang_reader_modify: function 37 -/
def bang_reader_modify.f (k : Nat) (s0_0 : Int) (s0_1 : List ByteArray) (s0_2 : ByteArray) (s0_3 : Int) (s0_4 : ByteArray) (s0_5 : Bool) : Option (Int × Int × ByteArray × Int × ByteArray × Bool) := if (wrap64 (s0_3 + 1)) = (s0_2.size : Int) then (some (6, s0_0, s0_2, wrap64 (s0_3 + 1), s0_4, s0_5)) else ((strings_LastIndexByte.f k s0_4 47).bind fun t375 => ((strings_LastIndexByte.f k s0_4 46).bind fun t376 => (if 0 ≤ (wrap64 ((wrap64 ((wrap64 (s0_3 + 1)) + 1)) - 1)) then (if (wrap64 ((wrap64 ((wrap64 (s0_3 + 1)) + 1)) - 1)) < (s0_2.size : Int) then (if (bt s0_2 (wrap64 ((wrap64 ((wrap64 (s0_3 + 1)) + 1)) - 1))) = 112 then (some (0, s0_0, s0_2, wrap64 ((wrap64 (s0_3 + 1)) + 1), s0_4, true)) else (if (bt s0_2 (wrap64 ((wrap64 ((wrap64 (s0_3 + 1)) + 1)) - 1))) = 104 then (none) else (if (bt s0_2 (wrap64 ((wrap64 ((wrap64 (s0_3 + 1)) + 1)) - 1))) = 116 then (if 0 ≤ (wrap64 (t375 + 1)) then (if (wrap64 (t375 + 1)) ≤ (s0_4.size : Int) then (some (0, s0_0, s0_2, wrap64 ((wrap64 (s0_3 + 1)) + 1), s0_4.extract ((wrap64 (t375 + 1)) : Int).toNat s0_4.size, s0_5)) else (none)) else (none)) else (if (bt s0_2 (wrap64 ((wrap64 ((wrap64 (s0_3 + 1)) + 1)) - 1))) = 114 then (none) else (if (bt s0_2 (wrap64 ((wrap64 ((wrap64 (s0_3 + 1)) + 1)) - 1))) = 101 then (if t376 ≤ t375 then (if 0 ≤ (s0_4.size : Int) then (if (s0_4.size : Int) ≤ (s0_4.size : Int) then (some (0, s0_0, s0_2, wrap64 ((wrap64 (s0_3 + 1)) + 1), s0_4.extract ((s0_4.size : Int) : Int).toNat s0_4.size, s0_5)) else (none)) else (none)) else (if 0 ≤ t376 then (if t376 ≤ (s0_4.size : Int) then (some (0, s0_0, s0_2, wrap64 ((wrap64 (s0_3 + 1)) + 1), s0_4.extract (t376 : Int).toNat s0_4.size, s0_5)) else (none)) else (none))) else (if (bt s0_2 (wrap64 ((wrap64 ((wrap64 (s0_3 + 1)) + 1)) - 1))) = 115 then ((bang_reader_replace.f k s0_0 s0_1 s0_2 (wrap64 ((wrap64 (s0_3 + 1)) + 1)) s0_4 s0_5 1).bind fun bt377 => (some (bt377.1, bt377.2.1, bt377.2.2.1, bt377.2.2.2.1, bt377.2.2.2.2.1, bt377.2.2.2.2.2))) else (if (bt s0_2 (wrap64 ((wrap64 ((wrap64 (s0_3 + 1)) + 1)) - 1))) = 103 then ((bang_reader_has.f s0_0 s0_1 s0_2 (wrap64 ((wrap64 (s0_3 + 1)) + 1)) s0_4 s0_5 115).bind fun bt383 => (if bt383.1 = true then ((bang_reader_replace.f k bt383.2.1 s0_1 bt383.2.2.1 (wrap64 (bt383.2.2.2.1 + 1)) bt383.2.2.2.2.1 bt383.2.2.2.2.2 (-1)).bind fun bt389 => (some (bt389.1, bt389.2.1, bt389.2.2.1, bt389.2.2.2.1, bt389.2.2.2.2.1, bt389.2.2.2.2.2))) else (some (6, bt383.2.1, bt383.2.2.1, bt383.2.2.2.1, bt383.2.2.2.2.1, bt383.2.2.2.2.2)))) else (some (6, s0_0, s0_2, wrap64 ((wrap64 (s0_3 + 1)) + 1), s0_4, s0_5))))))))) else (none)) else (none))))
theorem bang_reader_modify.mono : ∀ a0 a1 a2 a3 a4 a5 k, LeO (bang_reader_modify.f k a0 a1 a2 a3 a4 a5) (bang_reader_modify.f (k + 1) a0 a1 a2 a3 a4 a5) := by
 intro a0 a1 a2 a3 a4 a5 k
 unfold bang_reader_modify.f
 repeat' first
   | (with_reducible exact bang_reader_replace.mono _ _ _ _ _ _ _ _)
   | (with_reducible exact strings_LastIndexByte.mono _ _ _)
   | (with_reducible exact LeO.refl _)
   | (with_reducible exact LeO.none _)
   | (with_reducible refine LeO.ite ?_ ?_)
   | (with_reducible refine LeO.bind ?_ (fun _ => ?_))
   | exact bang_reader_replace.mono _ _ _ _ _ _ _ _
   | exact strings_LastIndexByte.mono _ _ _
   | exact LeO.none _
   | refine LeO.ite ?_ ?_
   | refine LeO.bind ?_ (fun _ => ?_)
set_option maxHeartbeats 3000000 in
set_option maxRecDepth 100000 in
theorem bang_reader_modify.calls (k : Nat) (g : Nat) (s0_0 : Int) (s0_1 : List ByteArray) (s0_2 : ByteArray) (s0_3 : Int) (s0_4 : ByteArray) (s0_5 : Bool) (r1 : Int) (r2 : Int) (r3 : ByteArray) (r4 : Int) (r5 : ByteArray) (r6 : Bool) (w0 w : World) (hI : IsS47 w0 w g s0_0 s0_1 s0_2 s0_3 s0_4 s0_5) (hB : Below w0.heap.size w0 w) (hM : MaxOk w0) (h : bang_reader_modify.f k s0_0 s0_1 s0_2 s0_3 s0_4 s0_5 = some (r1, r2, r3, r4, r5, r6)) :
  Calls Tryd.prog 37 #[.pointer (some ⟨g, 0, none⟩)] w fun e w' => e = .returned (.int .i64 r1) ∧ IsS47 w0 w' g r2 s0_1 r3 r4 r5 r6 ∧ Below w0.heap.size w0 w' ∧ KeepBut w w' g none := by
 have HI0 := Aside0.mk hI
 have HK := Aside0.mk (KeepBut.refl w g none)
 have HL := Aside0.mk hB.size
 clear hI
 have HW0 := Aside0.mk hB.size
 have HB := Aside0.mk hB
 clear hB
 have H : (if (wrap64 (s0_3 + 1)) = (s0_2.size : Int) then (some (6, s0_0, s0_2, wrap64 (s0_3 + 1), s0_4, s0_5)) else ((strings_LastIndexByte.f k s0_4 47).bind fun t375 => ((strings_LastIndexByte.f k s0_4 46).bind fun t376 => (if 0 ≤ (wrap64 ((wrap64 ((wrap64 (s0_3 + 1)) + 1)) - 1)) then (if (wrap64 ((wrap64 ((wrap64 (s0_3 + 1)) + 1)) - 1)) < (s0_2.size : Int) then (if (bt s0_2 (wrap64 ((wrap64 ((wrap64 (s0_3 + 1)) + 1)) - 1))) = 112 then (some (0, s0_0, s0_2, wrap64 ((wrap64 (s0_3 + 1)) + 1), s0_4, true)) else (if (bt s0_2 (wrap64 ((wrap64 ((wrap64 (s0_3 + 1)) + 1)) - 1))) = 104 then (none) else (if (bt s0_2 (wrap64 ((wrap64 ((wrap64 (s0_3 + 1)) + 1)) - 1))) = 116 then (if 0 ≤ (wrap64 (t375 + 1)) then (if (wrap64 (t375 + 1)) ≤ (s0_4.size : Int) then (some (0, s0_0, s0_2, wrap64 ((wrap64 (s0_3 + 1)) + 1), s0_4.extract ((wrap64 (t375 + 1)) : Int).toNat s0_4.size, s0_5)) else (none)) else (none)) else (if (bt s0_2 (wrap64 ((wrap64 ((wrap64 (s0_3 + 1)) + 1)) - 1))) = 114 then (none) else (if (bt s0_2 (wrap64 ((wrap64 ((wrap64 (s0_3 + 1)) + 1)) - 1))) = 101 then (if t376 ≤ t375 then (if 0 ≤ (s0_4.size : Int) then (if (s0_4.size : Int) ≤ (s0_4.size : Int) then (some (0, s0_0, s0_2, wrap64 ((wrap64 (s0_3 + 1)) + 1), s0_4.extract ((s0_4.size : Int) : Int).toNat s0_4.size, s0_5)) else (none)) else (none)) else (if 0 ≤ t376 then (if t376 ≤ (s0_4.size : Int) then (some (0, s0_0, s0_2, wrap64 ((wrap64 (s0_3 + 1)) + 1), s0_4.extract (t376 : Int).toNat s0_4.size, s0_5)) else (none)) else (none))) else (if (bt s0_2 (wrap64 ((wrap64 ((wrap64 (s0_3 + 1)) + 1)) - 1))) = 115 then ((bang_reader_replace.f k s0_0 s0_1 s0_2 (wrap64 ((wrap64 (s0_3 + 1)) + 1)) s0_4 s0_5 1).bind fun bt377 => (some (bt377.1, bt377.2.1, bt377.2.2.1, bt377.2.2.2.1, bt377.2.2.2.2.1, bt377.2.2.2.2.2))) else (if (bt s0_2 (wrap64 ((wrap64 ((wrap64 (s0_3 + 1)) + 1)) - 1))) = 103 then ((bang_reader_has.f s0_0 s0_1 s0_2 (wrap64 ((wrap64 (s0_3 + 1)) + 1)) s0_4 s0_5 115).bind fun bt383 => (if bt383.1 = true then ((bang_reader_replace.f k bt383.2.1 s0_1 bt383.2.2.1 (wrap64 (bt383.2.2.2.1 + 1)) bt383.2.2.2.2.1 bt383.2.2.2.2.2 (-1)).bind fun bt389 => (some (bt389.1, bt389.2.1, bt389.2.2.1, bt389.2.2.2.1, bt389.2.2.2.2.1, bt389.2.2.2.2.2))) else (some (6, bt383.2.1, bt383.2.2.1, bt383.2.2.2.1, bt383.2.2.2.2.1, bt383.2.2.2.2.2)))) else (some (6, s0_0, s0_2, wrap64 ((wrap64 (s0_3 + 1)) + 1), s0_4, s0_5))))))))) else (none)) else (none))))) = some (r1, r2, r3, r4, r5, r6) := h
 clear h
 by_cases c2 : (wrap64 (s0_3 + 1)) = (s0_2.size : Int)
 ·rw [if_pos c2] at H
  have c2b0 : ((wrap64 (s0_3 + 1)) == (s0_2.size : Int)) = true := beq_iff_eq.mpr c2
  have c2b1 : ((wrap64 (s0_3 + 1)) != (s0_2.size : Int)) = false := bne_eq_false_iff_eq.mpr c2
  clear c2
  simp only [Option.some.injEq, Prod.mk.injEq] at H
  obtain ⟨rfl, rfl, rfl, rfl, rfl, rfl⟩ := H
  obtain ⟨ASz3_1, cSz3_1, HGz3, hgz3, ⟨HSz3_1, HCSz3_1⟩⟩ := HI0.out
  have hcz3_0 := cellS47_0 HGz3
  have hcz3_1 := cellS47_1 HGz3
  have hcz3_2 := cellS47_2 HGz3
  have hcz3_3 := cellS47_3 HGz3
  have hcz3_4 := cellS47_4 HGz3
  have hcz3_5 := cellS47_5 HGz3
  have hfz3_0 := blk_frozen HGz3 0
  have hfz3_2 := blk_frozen HGz3 2
  have hfz3_3 := blk_frozen HGz3 3
  have hfz3_4 := blk_frozen HGz3 4
  have hfz3_5 := blk_frozen HGz3 5
  clear HGz3 hgz3
  go_enter Tryd.func37, Tryd.ntmps37
  go_wp2
  repeat (go_quiet (fail); try go_wp2)
  go_ret
  exact ⟨by first | rfl | (simp [errW_none, errW_some] <;> rfl) | (simp [*, errW_none, errW_some] <;> rfl), by (try rw [show s0_4.extract (s0_4.size : Int).toNat s0_4.size = ByteArray.empty from by apply ByteArray.ext; simp]); repeat (first | (with_reducible first | exact HI0.out | apply IsS47.alloc | apply IsS47.drewN | apply IsS47.drew | apply IsS47.set_0 | apply IsS47.set_2 | apply IsS47.set_3 | apply IsS47.set_4 | apply IsS47.set_5) | exact HI0.out), by repeat (first | (with_reducible first | exact HB.out | apply below_alloc | apply pw_below_drewN | apply below_drew1 | refine below_set ?_ (IsS47.ge HI0.out)) | exact HB.out), by repeat (first | (with_reducible first | exact HK.out | apply KeepBut.set_ | apply keep_drewN | apply keep_drew | apply keep_alloc) | exact HK.out)⟩
 ·rw [if_neg c2] at H
  have c2b0 : ((wrap64 (s0_3 + 1)) == (s0_2.size : Int)) = false := beq_eq_false_iff_ne.mpr c2
  have c2b1 : ((wrap64 (s0_3 + 1)) != (s0_2.size : Int)) = true := bne_iff_ne.mpr c2
  replace H := Option.bind_eq_some_iff.mp H
  obtain ⟨t375, A40, H⟩ := H
  replace H : ((strings_LastIndexByte.f k s0_4 46).bind fun t376 => (if 0 ≤ (wrap64 ((wrap64 ((wrap64 (s0_3 + 1)) + 1)) - 1)) then (if (wrap64 ((wrap64 ((wrap64 (s0_3 + 1)) + 1)) - 1)) < (s0_2.size : Int) then (if (bt s0_2 (wrap64 ((wrap64 ((wrap64 (s0_3 + 1)) + 1)) - 1))) = 112 then (some (0, s0_0, s0_2, wrap64 ((wrap64 (s0_3 + 1)) + 1), s0_4, true)) else (if (bt s0_2 (wrap64 ((wrap64 ((wrap64 (s0_3 + 1)) + 1)) - 1))) = 104 then (none) else (if (bt s0_2 (wrap64 ((wrap64 ((wrap64 (s0_3 + 1)) + 1)) - 1))) = 116 then (if 0 ≤ (wrap64 (t375 + 1)) then (if (wrap64 (t375 + 1)) ≤ (s0_4.size : Int) then (some (0, s0_0, s0_2, wrap64 ((wrap64 (s0_3 + 1)) + 1), s0_4.extract ((wrap64 (t375 + 1)) : Int).toNat s0_4.size, s0_5)) else (none)) else (none)) else (if (bt s0_2 (wrap64 ((wrap64 ((wrap64 (s0_3 + 1)) + 1)) - 1))) = 114 then (none) else (if (bt s0_2 (wrap64 ((wrap64 ((wrap64 (s0_3 + 1)) + 1)) - 1))) = 101 then (if t376 ≤ t375 then (if 0 ≤ (s0_4.size : Int) then (if (s0_4.size : Int) ≤ (s0_4.size : Int) then (some (0, s0_0, s0_2, wrap64 ((wrap64 (s0_3 + 1)) + 1), s0_4.extract ((s0_4.size : Int) : Int).toNat s0_4.size, s0_5)) else (none)) else (none)) else (if 0 ≤ t376 then (if t376 ≤ (s0_4.size : Int) then (some (0, s0_0, s0_2, wrap64 ((wrap64 (s0_3 + 1)) + 1), s0_4.extract (t376 : Int).toNat s0_4.size, s0_5)) else (none)) else (none))) else (if (bt s0_2 (wrap64 ((wrap64 ((wrap64 (s0_3 + 1)) + 1)) - 1))) = 115 then ((bang_reader_replace.f k s0_0 s0_1 s0_2 (wrap64 ((wrap64 (s0_3 + 1)) + 1)) s0_4 s0_5 1).bind fun bt377 => (some (bt377.1, bt377.2.1, bt377.2.2.1, bt377.2.2.2.1, bt377.2.2.2.2.1, bt377.2.2.2.2.2))) else (if (bt s0_2 (wrap64 ((wrap64 ((wrap64 (s0_3 + 1)) + 1)) - 1))) = 103 then ((bang_reader_has.f s0_0 s0_1 s0_2 (wrap64 ((wrap64 (s0_3 + 1)) + 1)) s0_4 s0_5 115).bind fun bt383 => (if bt383.1 = true then ((bang_reader_replace.f k bt383.2.1 s0_1 bt383.2.2.1 (wrap64 (bt383.2.2.2.1 + 1)) bt383.2.2.2.2.1 bt383.2.2.2.2.2 (-1)).bind fun bt389 => (some (bt389.1, bt389.2.1, bt389.2.2.1, bt389.2.2.2.1, bt389.2.2.2.2.1, bt389.2.2.2.2.2))) else (some (6, bt383.2.1, bt383.2.2.1, bt383.2.2.2.1, bt383.2.2.2.2.1, bt383.2.2.2.2.2)))) else (some (6, s0_0, s0_2, wrap64 ((wrap64 (s0_3 + 1)) + 1), s0_4, s0_5))))))))) else (none)) else (none))) = some (r1, r2, r3, r4, r5, r6) := H
  have A4 := Aside0.mk A40
  clear A40
  replace H := Option.bind_eq_some_iff.mp H
  obtain ⟨t376, A50, H⟩ := H
  replace H : (if 0 ≤ (wrap64 ((wrap64 ((wrap64 (s0_3 + 1)) + 1)) - 1)) then (if (wrap64 ((wrap64 ((wrap64 (s0_3 + 1)) + 1)) - 1)) < (s0_2.size : Int) then (if (bt s0_2 (wrap64 ((wrap64 ((wrap64 (s0_3 + 1)) + 1)) - 1))) = 112 then (some (0, s0_0, s0_2, wrap64 ((wrap64 (s0_3 + 1)) + 1), s0_4, true)) else (if (bt s0_2 (wrap64 ((wrap64 ((wrap64 (s0_3 + 1)) + 1)) - 1))) = 104 then (none) else (if (bt s0_2 (wrap64 ((wrap64 ((wrap64 (s0_3 + 1)) + 1)) - 1))) = 116 then (if 0 ≤ (wrap64 (t375 + 1)) then (if (wrap64 (t375 + 1)) ≤ (s0_4.size : Int) then (some (0, s0_0, s0_2, wrap64 ((wrap64 (s0_3 + 1)) + 1), s0_4.extract ((wrap64 (t375 + 1)) : Int).toNat s0_4.size, s0_5)) else (none)) else (none)) else (if (bt s0_2 (wrap64 ((wrap64 ((wrap64 (s0_3 + 1)) + 1)) - 1))) = 114 then (none) else (if (bt s0_2 (wrap64 ((wrap64 ((wrap64 (s0_3 + 1)) + 1)) - 1))) = 101 then (if t376 ≤ t375 then (if 0 ≤ (s0_4.size : Int) then (if (s0_4.size : Int) ≤ (s0_4.size : Int) then (some (0, s0_0, s0_2, wrap64 ((wrap64 (s0_3 + 1)) + 1), s0_4.extract ((s0_4.size : Int) : Int).toNat s0_4.size, s0_5)) else (none)) else (none)) else (if 0 ≤ t376 then (if t376 ≤ (s0_4.size : Int) then (some (0, s0_0, s0_2, wrap64 ((wrap64 (s0_3 + 1)) + 1), s0_4.extract (t376 : Int).toNat s0_4.size, s0_5)) else (none)) else (none))) else (if (bt s0_2 (wrap64 ((wrap64 ((wrap64 (s0_3 + 1)) + 1)) - 1))) = 115 then ((bang_reader_replace.f k s0_0 s0_1 s0_2 (wrap64 ((wrap64 (s0_3 + 1)) + 1)) s0_4 s0_5 1).bind fun bt377 => (some (bt377.1, bt377.2.1, bt377.2.2.1, bt377.2.2.2.1, bt377.2.2.2.2.1, bt377.2.2.2.2.2))) else (if (bt s0_2 (wrap64 ((wrap64 ((wrap64 (s0_3 + 1)) + 1)) - 1))) = 103 then ((bang_reader_has.f s0_0 s0_1 s0_2 (wrap64 ((wrap64 (s0_3 + 1)) + 1)) s0_4 s0_5 115).bind fun bt383 => (if bt383.1 = true then ((bang_reader_replace.f k bt383.2.1 s0_1 bt383.2.2.1 (wrap64 (bt383.2.2.2.1 + 1)) bt383.2.2.2.2.1 bt383.2.2.2.2.2 (-1)).bind fun bt389 => (some (bt389.1, bt389.2.1, bt389.2.2.1, bt389.2.2.2.1, bt389.2.2.2.2.1, bt389.2.2.2.2.2))) else (some (6, bt383.2.1, bt383.2.2.1, bt383.2.2.2.1, bt383.2.2.2.2.1, bt383.2.2.2.2.2)))) else (some (6, s0_0, s0_2, wrap64 ((wrap64 (s0_3 + 1)) + 1), s0_4, s0_5))))))))) else (none)) else (none)) = some (r1, r2, r3, r4, r5, r6) := H
  have A5 := Aside0.mk A50
  clear A50
  obtain ⟨ji6, hji6⟩ : ∃ j_ : Int, (wrap64 ((wrap64 ((wrap64 (s0_3 + 1)) + 1)) - 1)) = j_ := ⟨_, rfl⟩
  replace H : (if 0 ≤ (ji6) then (if (ji6) < (s0_2.size : Int) then (if (bt s0_2 (ji6)) = 112 then (some (0, s0_0, s0_2, wrap64 ((wrap64 (s0_3 + 1)) + 1), s0_4, true)) else (if (bt s0_2 (ji6)) = 104 then (none) else (if (bt s0_2 (ji6)) = 116 then (if 0 ≤ (wrap64 (t375 + 1)) then (if (wrap64 (t375 + 1)) ≤ (s0_4.size : Int) then (some (0, s0_0, s0_2, wrap64 ((wrap64 (s0_3 + 1)) + 1), s0_4.extract ((wrap64 (t375 + 1)) : Int).toNat s0_4.size, s0_5)) else (none)) else (none)) else (if (bt s0_2 (ji6)) = 114 then (none) else (if (bt s0_2 (ji6)) = 101 then (if t376 ≤ t375 then (if 0 ≤ (s0_4.size : Int) then (if (s0_4.size : Int) ≤ (s0_4.size : Int) then (some (0, s0_0, s0_2, wrap64 ((wrap64 (s0_3 + 1)) + 1), s0_4.extract ((s0_4.size : Int) : Int).toNat s0_4.size, s0_5)) else (none)) else (none)) else (if 0 ≤ t376 then (if t376 ≤ (s0_4.size : Int) then (some (0, s0_0, s0_2, wrap64 ((wrap64 (s0_3 + 1)) + 1), s0_4.extract (t376 : Int).toNat s0_4.size, s0_5)) else (none)) else (none))) else (if (bt s0_2 (ji6)) = 115 then ((bang_reader_replace.f k s0_0 s0_1 s0_2 (wrap64 ((wrap64 (s0_3 + 1)) + 1)) s0_4 s0_5 1).bind fun bt377 => (some (bt377.1, bt377.2.1, bt377.2.2.1, bt377.2.2.2.1, bt377.2.2.2.2.1, bt377.2.2.2.2.2))) else (if (bt s0_2 (ji6)) = 103 then ((bang_reader_has.f s0_0 s0_1 s0_2 (wrap64 ((wrap64 (s0_3 + 1)) + 1)) s0_4 s0_5 115).bind fun bt383 => (if bt383.1 = true then ((bang_reader_replace.f k bt383.2.1 s0_1 bt383.2.2.1 (wrap64 (bt383.2.2.2.1 + 1)) bt383.2.2.2.2.1 bt383.2.2.2.2.2 (-1)).bind fun bt389 => (some (bt389.1, bt389.2.1, bt389.2.2.1, bt389.2.2.2.1, bt389.2.2.2.2.1, bt389.2.2.2.2.2))) else (some (6, bt383.2.1, bt383.2.2.1, bt383.2.2.2.1, bt383.2.2.2.2.1, bt383.2.2.2.2.2)))) else (some (6, s0_0, s0_2, wrap64 ((wrap64 (s0_3 + 1)) + 1), s0_4, s0_5))))))))) else (none)) else (none)) = some (r1, r2, r3, r4, r5, r6) := by first | (rw [hji6] at H; exact H) | (simp only [hji6] at H ⊢; exact H)
  (try rw [hji6] at A4)
  (try rw [hji6] at A5)
  have hji6w : (IntKind.i64.wrap ((wrap64 ((wrap64 (s0_3 + 1)) + 1)) - 1)) = ji6 := (i64_w _).trans hji6
  by_cases c7 : 0 ≤ (ji6)
  ·rw [if_pos c7] at H
   have c7b0 : decide (0 ≤ (ji6)) = true := decide_eq_true c7
   clear c7
   by_cases c8 : (ji6) < (s0_2.size : Int)
   ·rw [if_pos c8] at H
    have c8b0 : decide ((ji6) < (s0_2.size : Int)) = true := decide_eq_true c8
    clear c8
    by_cases c10 : (bt s0_2 (ji6)) = 112
    ·rw [if_pos c10] at H
     have c10b0 : ((bt s0_2 (ji6)) == 112) = true := beq_iff_eq.mpr c10
     have c10b1 : ((bt s0_2 (ji6)) != 112) = false := bne_eq_false_iff_eq.mpr c10
     clear c10
     simp only [Option.some.injEq, Prod.mk.injEq] at H
     obtain ⟨rfl, rfl, rfl, rfl, rfl, rfl⟩ := H
     obtain ⟨ASz11_1, cSz11_1, HGz11, hgz11, ⟨HSz11_1, HCSz11_1⟩⟩ := HI0.out
     have hcz11_0 := cellS47_0 HGz11
     have hcz11_1 := cellS47_1 HGz11
     have hcz11_2 := cellS47_2 HGz11
     have hcz11_3 := cellS47_3 HGz11
     have hcz11_4 := cellS47_4 HGz11
     have hcz11_5 := cellS47_5 HGz11
     have hfz11_0 := blk_frozen HGz11 0
     have hfz11_2 := blk_frozen HGz11 2
     have hfz11_3 := blk_frozen HGz11 3
     have hfz11_4 := blk_frozen HGz11 4
     have hfz11_5 := blk_frozen HGz11 5
     clear HGz11 hgz11
     go_enter Tryd.func37, Tryd.ntmps37
     go_wp2_with (first | (go_at_call 54; (with_reducible refine (strings_LastIndexByte.calls k s0_4 47 t375 _ A4.out).mono ?_); rintro e w' ⟨rfl, ⟨nd, rfl⟩⟩; (try first | exact ⟨rfl, _, World.drewN_drewN _ _ _⟩ | exact ⟨rfl, _, Eq.trans (World.drewN_drewN _ _ _) (congrArg (World.drewN _) (Nat.add_assoc _ _ _))⟩)) | (go_at_call 54; (with_reducible refine (strings_LastIndexByte.calls k s0_4 46 t376 _ A5.out).mono ?_); rintro e w' ⟨rfl, ⟨nd, rfl⟩⟩; (try first | exact ⟨rfl, _, World.drewN_drewN _ _ _⟩ | exact ⟨rfl, _, Eq.trans (World.drewN_drewN _ _ _) (congrArg (World.drewN _) (Nat.add_assoc _ _ _))⟩); have p9 : 0 ≤ ((ji6) : Int) := of_decide_eq_true (by first | (with_reducible assumption) | assumption); have q9 : (ji6) < (s0_2.size : Int) := of_decide_eq_true (by first | (with_reducible assumption) | assumption); have hx9 := bt_at s0_2 (ji6); replace p9 := eq_true p9; replace q9 := eq_true q9))
     repeat (go_quiet (first | (go_at_call 54; (with_reducible refine (strings_LastIndexByte.calls k s0_4 47 t375 _ A4.out).mono ?_); rintro e w' ⟨rfl, ⟨nd, rfl⟩⟩; (try first | exact ⟨rfl, _, World.drewN_drewN _ _ _⟩ | exact ⟨rfl, _, Eq.trans (World.drewN_drewN _ _ _) (congrArg (World.drewN _) (Nat.add_assoc _ _ _))⟩)) | (go_at_call 54; (with_reducible refine (strings_LastIndexByte.calls k s0_4 46 t376 _ A5.out).mono ?_); rintro e w' ⟨rfl, ⟨nd, rfl⟩⟩; (try first | exact ⟨rfl, _, World.drewN_drewN _ _ _⟩ | exact ⟨rfl, _, Eq.trans (World.drewN_drewN _ _ _) (congrArg (World.drewN _) (Nat.add_assoc _ _ _))⟩); have p9 : 0 ≤ ((ji6) : Int) := of_decide_eq_true (by first | (with_reducible assumption) | assumption); have q9 : (ji6) < (s0_2.size : Int) := of_decide_eq_true (by first | (with_reducible assumption) | assumption); have hx9 := bt_at s0_2 (ji6); replace p9 := eq_true p9; replace q9 := eq_true q9)); try go_wp2_with (first | (go_at_call 54; (with_reducible refine (strings_LastIndexByte.calls k s0_4 47 t375 _ A4.out).mono ?_); rintro e w' ⟨rfl, ⟨nd, rfl⟩⟩; (try first | exact ⟨rfl, _, World.drewN_drewN _ _ _⟩ | exact ⟨rfl, _, Eq.trans (World.drewN_drewN _ _ _) (congrArg (World.drewN _) (Nat.add_assoc _ _ _))⟩)) | (go_at_call 54; (with_reducible refine (strings_LastIndexByte.calls k s0_4 46 t376 _ A5.out).mono ?_); rintro e w' ⟨rfl, ⟨nd, rfl⟩⟩; (try first | exact ⟨rfl, _, World.drewN_drewN _ _ _⟩ | exact ⟨rfl, _, Eq.trans (World.drewN_drewN _ _ _) (congrArg (World.drewN _) (Nat.add_assoc _ _ _))⟩); have p9 : 0 ≤ ((ji6) : Int) := of_decide_eq_true (by first | (with_reducible assumption) | assumption); have q9 : (ji6) < (s0_2.size : Int) := of_decide_eq_true (by first | (with_reducible assumption) | assumption); have hx9 := bt_at s0_2 (ji6); replace p9 := eq_true p9; replace q9 := eq_true q9)))
     go_ret
     exact ⟨by first | rfl | (simp [errW_none, errW_some] <;> rfl) | (simp only [← hji6]; first | rfl | (simp [errW_none, errW_some] <;> rfl)) | (simp [*, errW_none, errW_some] <;> rfl), by (try rw [show s0_4.extract (s0_4.size : Int).toNat s0_4.size = ByteArray.empty from by apply ByteArray.ext; simp]); repeat (first | (with_reducible first | exact HI0.out | apply IsS47.alloc | apply IsS47.drewN | apply IsS47.drew | apply IsS47.set_0 | apply IsS47.set_2 | apply IsS47.set_3 | apply IsS47.set_4 | apply IsS47.set_5) | exact HI0.out), by repeat (first | (with_reducible first | exact HB.out | apply below_alloc | apply pw_below_drewN | apply below_drew1 | refine below_set ?_ (IsS47.ge HI0.out)) | exact HB.out), by repeat (first | (with_reducible first | exact HK.out | apply KeepBut.set_ | apply keep_drewN | apply keep_drew | apply keep_alloc) | exact HK.out)⟩
    ·rw [if_neg c10] at H
     have c10b0 : ((bt s0_2 (ji6)) == 112) = false := beq_eq_false_iff_ne.mpr c10
     have c10b1 : ((bt s0_2 (ji6)) != 112) = true := bne_iff_ne.mpr c10
     by_cases c12 : (bt s0_2 (ji6)) = 104
     ·rw [if_pos c12] at H
      exact absurd H (by simp)
     ·rw [if_neg c12] at H
      have c12b0 : ((bt s0_2 (ji6)) == 104) = false := beq_eq_false_iff_ne.mpr c12
      have c12b1 : ((bt s0_2 (ji6)) != 104) = true := bne_iff_ne.mpr c12
      by_cases c13 : (bt s0_2 (ji6)) = 116
      ·rw [if_pos c13] at H
       have c13b0 : ((bt s0_2 (ji6)) == 116) = true := beq_iff_eq.mpr c13
       have c13b1 : ((bt s0_2 (ji6)) != 116) = false := bne_eq_false_iff_eq.mpr c13
       clear c13
       obtain ⟨ji14, hji14⟩ : ∃ j_ : Int, (wrap64 (t375 + 1)) = j_ := ⟨_, rfl⟩
       replace H : (if 0 ≤ (ji14) then (if (ji14) ≤ (s0_4.size : Int) then (some (0, s0_0, s0_2, wrap64 ((wrap64 (s0_3 + 1)) + 1), s0_4.extract ((ji14) : Int).toNat s0_4.size, s0_5)) else (none)) else (none)) = some (r1, r2, r3, r4, r5, r6) := by first | (rw [hji14] at H; exact H) | (simp only [hji14] at H ⊢; exact H)
       (try rw [hji14] at A4)
       (try rw [hji14] at A5)
       have hji14w : (IntKind.i64.wrap (t375 + 1)) = ji14 := (i64_w _).trans hji14
       by_cases c15 : 0 ≤ (ji14)
       ·rw [if_pos c15] at H
        have c15b0 := eq_true c15
        have c15b1 : decide (0 ≤ (ji14)) = true := decide_eq_true c15
        clear c15
        by_cases c16 : (ji14) ≤ (s0_4.size : Int)
        ·rw [if_pos c16] at H
         have c16b0 := eq_true c16
         have c16b1 : decide ((ji14) ≤ (s0_4.size : Int)) = true := decide_eq_true c16
         clear c16
         simp only [Option.some.injEq, Prod.mk.injEq] at H
         obtain ⟨rfl, rfl, rfl, rfl, rfl, rfl⟩ := H
         obtain ⟨ASz17_1, cSz17_1, HGz17, hgz17, ⟨HSz17_1, HCSz17_1⟩⟩ := HI0.out
         have hcz17_0 := cellS47_0 HGz17
         have hcz17_1 := cellS47_1 HGz17
         have hcz17_2 := cellS47_2 HGz17
         have hcz17_3 := cellS47_3 HGz17
         have hcz17_4 := cellS47_4 HGz17
         have hcz17_5 := cellS47_5 HGz17
         have hfz17_0 := blk_frozen HGz17 0
         have hfz17_2 := blk_frozen HGz17 2
         have hfz17_3 := blk_frozen HGz17 3
         have hfz17_4 := blk_frozen HGz17 4
         have hfz17_5 := blk_frozen HGz17 5
         clear HGz17 hgz17
         go_enter Tryd.func37, Tryd.ntmps37
         go_wp2_with (first | (go_at_call 54; (with_reducible refine (strings_LastIndexByte.calls k s0_4 47 t375 _ A4.out).mono ?_); rintro e w' ⟨rfl, ⟨nd, rfl⟩⟩; (try first | exact ⟨rfl, _, World.drewN_drewN _ _ _⟩ | exact ⟨rfl, _, Eq.trans (World.drewN_drewN _ _ _) (congrArg (World.drewN _) (Nat.add_assoc _ _ _))⟩)) | (go_at_call 54; (with_reducible refine (strings_LastIndexByte.calls k s0_4 46 t376 _ A5.out).mono ?_); rintro e w' ⟨rfl, ⟨nd, rfl⟩⟩; (try first | exact ⟨rfl, _, World.drewN_drewN _ _ _⟩ | exact ⟨rfl, _, Eq.trans (World.drewN_drewN _ _ _) (congrArg (World.drewN _) (Nat.add_assoc _ _ _))⟩); have p9 : 0 ≤ ((ji6) : Int) := of_decide_eq_true (by first | (with_reducible assumption) | assumption); have q9 : (ji6) < (s0_2.size : Int) := of_decide_eq_true (by first | (with_reducible assumption) | assumption); have hx9 := bt_at s0_2 (ji6); replace p9 := eq_true p9; replace q9 := eq_true q9))
         repeat (go_quiet (first | (go_at_call 54; (with_reducible refine (strings_LastIndexByte.calls k s0_4 47 t375 _ A4.out).mono ?_); rintro e w' ⟨rfl, ⟨nd, rfl⟩⟩; (try first | exact ⟨rfl, _, World.drewN_drewN _ _ _⟩ | exact ⟨rfl, _, Eq.trans (World.drewN_drewN _ _ _) (congrArg (World.drewN _) (Nat.add_assoc _ _ _))⟩)) | (go_at_call 54; (with_reducible refine (strings_LastIndexByte.calls k s0_4 46 t376 _ A5.out).mono ?_); rintro e w' ⟨rfl, ⟨nd, rfl⟩⟩; (try first | exact ⟨rfl, _, World.drewN_drewN _ _ _⟩ | exact ⟨rfl, _, Eq.trans (World.drewN_drewN _ _ _) (congrArg (World.drewN _) (Nat.add_assoc _ _ _))⟩); have p9 : 0 ≤ ((ji6) : Int) := of_decide_eq_true (by first | (with_reducible assumption) | assumption); have q9 : (ji6) < (s0_2.size : Int) := of_decide_eq_true (by first | (with_reducible assumption) | assumption); have hx9 := bt_at s0_2 (ji6); replace p9 := eq_true p9; replace q9 := eq_true q9)); try go_wp2_with (first | (go_at_call 54; (with_reducible refine (strings_LastIndexByte.calls k s0_4 47 t375 _ A4.out).mono ?_); rintro e w' ⟨rfl, ⟨nd, rfl⟩⟩; (try first | exact ⟨rfl, _, World.drewN_drewN _ _ _⟩ | exact ⟨rfl, _, Eq.trans (World.drewN_drewN _ _ _) (congrArg (World.drewN _) (Nat.add_assoc _ _ _))⟩)) | (go_at_call 54; (with_reducible refine (strings_LastIndexByte.calls k s0_4 46 t376 _ A5.out).mono ?_); rintro e w' ⟨rfl, ⟨nd, rfl⟩⟩; (try first | exact ⟨rfl, _, World.drewN_drewN _ _ _⟩ | exact ⟨rfl, _, Eq.trans (World.drewN_drewN _ _ _) (congrArg (World.drewN _) (Nat.add_assoc _ _ _))⟩); have p9 : 0 ≤ ((ji6) : Int) := of_decide_eq_true (by first | (with_reducible assumption) | assumption); have q9 : (ji6) < (s0_2.size : Int) := of_decide_eq_true (by first | (with_reducible assumption) | assumption); have hx9 := bt_at s0_2 (ji6); replace p9 := eq_true p9; replace q9 := eq_true q9)))
         go_ret
         exact ⟨by first | rfl | (simp [errW_none, errW_some] <;> rfl) | (simp only [← hji6, ← hji14]; first | rfl | (simp [errW_none, errW_some] <;> rfl)) | (simp [*, errW_none, errW_some] <;> rfl), by (try rw [show s0_4.extract (s0_4.size : Int).toNat s0_4.size = ByteArray.empty from by apply ByteArray.ext; simp]); repeat (first | (with_reducible first | exact HI0.out | apply IsS47.alloc | apply IsS47.drewN | apply IsS47.drew | apply IsS47.set_0 | apply IsS47.set_2 | apply IsS47.set_3 | apply IsS47.set_4 | apply IsS47.set_5) | exact HI0.out), by repeat (first | (with_reducible first | exact HB.out | apply below_alloc | apply pw_below_drewN | apply below_drew1 | refine below_set ?_ (IsS47.ge HI0.out)) | exact HB.out), by repeat (first | (with_reducible first | exact HK.out | apply KeepBut.set_ | apply keep_drewN | apply keep_drew | apply keep_alloc) | exact HK.out)⟩
        ·rw [if_neg c16] at H
         exact absurd H (by simp)
       ·rw [if_neg c15] at H
        exact absurd H (by simp)
      ·rw [if_neg c13] at H
       have c13b0 : ((bt s0_2 (ji6)) == 116) = false := beq_eq_false_iff_ne.mpr c13
       have c13b1 : ((bt s0_2 (ji6)) != 116) = true := bne_iff_ne.mpr c13
       by_cases c18 : (bt s0_2 (ji6)) = 114
       ·rw [if_pos c18] at H
        exact absurd H (by simp)
       ·rw [if_neg c18] at H
        have c18b0 : ((bt s0_2 (ji6)) == 114) = false := beq_eq_false_iff_ne.mpr c18
        have c18b1 : ((bt s0_2 (ji6)) != 114) = true := bne_iff_ne.mpr c18
        by_cases c19 : (bt s0_2 (ji6)) = 101
        ·rw [if_pos c19] at H
         have c19b0 : ((bt s0_2 (ji6)) == 101) = true := beq_iff_eq.mpr c19
         have c19b1 : ((bt s0_2 (ji6)) != 101) = false := bne_eq_false_iff_eq.mpr c19
         clear c19
         by_cases c20 : t376 ≤ t375
         ·rw [if_pos c20] at H
          have c20b0 : decide (t376 ≤ t375) = true := decide_eq_true c20
          clear c20
          by_cases c21 : 0 ≤ (s0_4.size : Int)
          ·rw [if_pos c21] at H
           have c21b0 := eq_true c21
           have c21b1 : decide (0 ≤ (s0_4.size : Int)) = true := decide_eq_true c21
           clear c21
           by_cases c22 : (s0_4.size : Int) ≤ (s0_4.size : Int)
           ·rw [if_pos c22] at H
            have c22b0 := eq_true c22
            have c22b1 : decide ((s0_4.size : Int) ≤ (s0_4.size : Int)) = true := decide_eq_true c22
            clear c22
            simp only [Option.some.injEq, Prod.mk.injEq] at H
            obtain ⟨rfl, rfl, rfl, rfl, rfl, rfl⟩ := H
            obtain ⟨ASz23_1, cSz23_1, HGz23, hgz23, ⟨HSz23_1, HCSz23_1⟩⟩ := HI0.out
            have hcz23_0 := cellS47_0 HGz23
            have hcz23_1 := cellS47_1 HGz23
            have hcz23_2 := cellS47_2 HGz23
            have hcz23_3 := cellS47_3 HGz23
            have hcz23_4 := cellS47_4 HGz23
            have hcz23_5 := cellS47_5 HGz23
            have hfz23_0 := blk_frozen HGz23 0
            have hfz23_2 := blk_frozen HGz23 2
            have hfz23_3 := blk_frozen HGz23 3
            have hfz23_4 := blk_frozen HGz23 4
            have hfz23_5 := blk_frozen HGz23 5
            clear HGz23 hgz23
            go_enter Tryd.func37, Tryd.ntmps37
            go_wp2_with (first | (go_at_call 54; (with_reducible refine (strings_LastIndexByte.calls k s0_4 47 t375 _ A4.out).mono ?_); rintro e w' ⟨rfl, ⟨nd, rfl⟩⟩; (try first | exact ⟨rfl, _, World.drewN_drewN _ _ _⟩ | exact ⟨rfl, _, Eq.trans (World.drewN_drewN _ _ _) (congrArg (World.drewN _) (Nat.add_assoc _ _ _))⟩)) | (go_at_call 54; (with_reducible refine (strings_LastIndexByte.calls k s0_4 46 t376 _ A5.out).mono ?_); rintro e w' ⟨rfl, ⟨nd, rfl⟩⟩; (try first | exact ⟨rfl, _, World.drewN_drewN _ _ _⟩ | exact ⟨rfl, _, Eq.trans (World.drewN_drewN _ _ _) (congrArg (World.drewN _) (Nat.add_assoc _ _ _))⟩); have p9 : 0 ≤ ((ji6) : Int) := of_decide_eq_true (by first | (with_reducible assumption) | assumption); have q9 : (ji6) < (s0_2.size : Int) := of_decide_eq_true (by first | (with_reducible assumption) | assumption); have hx9 := bt_at s0_2 (ji6); replace p9 := eq_true p9; replace q9 := eq_true q9))
            repeat (go_quiet (first | (go_at_call 54; (with_reducible refine (strings_LastIndexByte.calls k s0_4 47 t375 _ A4.out).mono ?_); rintro e w' ⟨rfl, ⟨nd, rfl⟩⟩; (try first | exact ⟨rfl, _, World.drewN_drewN _ _ _⟩ | exact ⟨rfl, _, Eq.trans (World.drewN_drewN _ _ _) (congrArg (World.drewN _) (Nat.add_assoc _ _ _))⟩)) | (go_at_call 54; (with_reducible refine (strings_LastIndexByte.calls k s0_4 46 t376 _ A5.out).mono ?_); rintro e w' ⟨rfl, ⟨nd, rfl⟩⟩; (try first | exact ⟨rfl, _, World.drewN_drewN _ _ _⟩ | exact ⟨rfl, _, Eq.trans (World.drewN_drewN _ _ _) (congrArg (World.drewN _) (Nat.add_assoc _ _ _))⟩); have p9 : 0 ≤ ((ji6) : Int) := of_decide_eq_true (by first | (with_reducible assumption) | assumption); have q9 : (ji6) < (s0_2.size : Int) := of_decide_eq_true (by first | (with_reducible assumption) | assumption); have hx9 := bt_at s0_2 (ji6); replace p9 := eq_true p9; replace q9 := eq_true q9)); try go_wp2_with (first | (go_at_call 54; (with_reducible refine (strings_LastIndexByte.calls k s0_4 47 t375 _ A4.out).mono ?_); rintro e w' ⟨rfl, ⟨nd, rfl⟩⟩; (try first | exact ⟨rfl, _, World.drewN_drewN _ _ _⟩ | exact ⟨rfl, _, Eq.trans (World.drewN_drewN _ _ _) (congrArg (World.drewN _) (Nat.add_assoc _ _ _))⟩)) | (go_at_call 54; (with_reducible refine (strings_LastIndexByte.calls k s0_4 46 t376 _ A5.out).mono ?_); rintro e w' ⟨rfl, ⟨nd, rfl⟩⟩; (try first | exact ⟨rfl, _, World.drewN_drewN _ _ _⟩ | exact ⟨rfl, _, Eq.trans (World.drewN_drewN _ _ _) (congrArg (World.drewN _) (Nat.add_assoc _ _ _))⟩); have p9 : 0 ≤ ((ji6) : Int) := of_decide_eq_true (by first | (with_reducible assumption) | assumption); have q9 : (ji6) < (s0_2.size : Int) := of_decide_eq_true (by first | (with_reducible assumption) | assumption); have hx9 := bt_at s0_2 (ji6); replace p9 := eq_true p9; replace q9 := eq_true q9)))
            go_ret
            exact ⟨by first | rfl | (simp [errW_none, errW_some] <;> rfl) | (simp only [← hji6]; first | rfl | (simp [errW_none, errW_some] <;> rfl)) | (simp [*, errW_none, errW_some] <;> rfl), by (try rw [show s0_4.extract (s0_4.size : Int).toNat s0_4.size = ByteArray.empty from by apply ByteArray.ext; simp]); repeat (first | (with_reducible first | exact HI0.out | apply IsS47.alloc | apply IsS47.drewN | apply IsS47.drew | apply IsS47.set_0 | apply IsS47.set_2 | apply IsS47.set_3 | apply IsS47.set_4 | apply IsS47.set_5) | exact HI0.out), by repeat (first | (with_reducible first | exact HB.out | apply below_alloc | apply pw_below_drewN | apply below_drew1 | refine below_set ?_ (IsS47.ge HI0.out)) | exact HB.out), by repeat (first | (with_reducible first | exact HK.out | apply KeepBut.set_ | apply keep_drewN | apply keep_drew | apply keep_alloc) | exact HK.out)⟩
           ·rw [if_neg c22] at H
            exact absurd H (by simp)
          ·rw [if_neg c21] at H
           exact absurd H (by simp)
         ·rw [if_neg c20] at H
          have c20b0 : decide (t376 ≤ t375) = false := decide_eq_false c20
          clear c20
          by_cases c24 : 0 ≤ t376
          ·rw [if_pos c24] at H
           have c24b0 := eq_true c24
           have c24b1 : decide (0 ≤ t376) = true := decide_eq_true c24
           clear c24
           by_cases c25 : t376 ≤ (s0_4.size : Int)
           ·rw [if_pos c25] at H
            have c25b0 := eq_true c25
            have c25b1 : decide (t376 ≤ (s0_4.size : Int)) = true := decide_eq_true c25
            clear c25
            simp only [Option.some.injEq, Prod.mk.injEq] at H
            obtain ⟨rfl, rfl, rfl, rfl, rfl, rfl⟩ := H
            obtain ⟨ASz26_1, cSz26_1, HGz26, hgz26, ⟨HSz26_1, HCSz26_1⟩⟩ := HI0.out
            have hcz26_0 := cellS47_0 HGz26
            have hcz26_1 := cellS47_1 HGz26
            have hcz26_2 := cellS47_2 HGz26
            have hcz26_3 := cellS47_3 HGz26
            have hcz26_4 := cellS47_4 HGz26
            have hcz26_5 := cellS47_5 HGz26
            have hfz26_0 := blk_frozen HGz26 0
            have hfz26_2 := blk_frozen HGz26 2
            have hfz26_3 := blk_frozen HGz26 3
            have hfz26_4 := blk_frozen HGz26 4
            have hfz26_5 := blk_frozen HGz26 5
            clear HGz26 hgz26
            go_enter Tryd.func37, Tryd.ntmps37
            go_wp2_with (first | (go_at_call 54; (with_reducible refine (strings_LastIndexByte.calls k s0_4 47 t375 _ A4.out).mono ?_); rintro e w' ⟨rfl, ⟨nd, rfl⟩⟩; (try first | exact ⟨rfl, _, World.drewN_drewN _ _ _⟩ | exact ⟨rfl, _, Eq.trans (World.drewN_drewN _ _ _) (congrArg (World.drewN _) (Nat.add_assoc _ _ _))⟩)) | (go_at_call 54; (with_reducible refine (strings_LastIndexByte.calls k s0_4 46 t376 _ A5.out).mono ?_); rintro e w' ⟨rfl, ⟨nd, rfl⟩⟩; (try first | exact ⟨rfl, _, World.drewN_drewN _ _ _⟩ | exact ⟨rfl, _, Eq.trans (World.drewN_drewN _ _ _) (congrArg (World.drewN _) (Nat.add_assoc _ _ _))⟩); have p9 : 0 ≤ ((ji6) : Int) := of_decide_eq_true (by first | (with_reducible assumption) | assumption); have q9 : (ji6) < (s0_2.size : Int) := of_decide_eq_true (by first | (with_reducible assumption) | assumption); have hx9 := bt_at s0_2 (ji6); replace p9 := eq_true p9; replace q9 := eq_true q9))
            repeat (go_quiet (first | (go_at_call 54; (with_reducible refine (strings_LastIndexByte.calls k s0_4 47 t375 _ A4.out).mono ?_); rintro e w' ⟨rfl, ⟨nd, rfl⟩⟩; (try first | exact ⟨rfl, _, World.drewN_drewN _ _ _⟩ | exact ⟨rfl, _, Eq.trans (World.drewN_drewN _ _ _) (congrArg (World.drewN _) (Nat.add_assoc _ _ _))⟩)) | (go_at_call 54; (with_reducible refine (strings_LastIndexByte.calls k s0_4 46 t376 _ A5.out).mono ?_); rintro e w' ⟨rfl, ⟨nd, rfl⟩⟩; (try first | exact ⟨rfl, _, World.drewN_drewN _ _ _⟩ | exact ⟨rfl, _, Eq.trans (World.drewN_drewN _ _ _) (congrArg (World.drewN _) (Nat.add_assoc _ _ _))⟩); have p9 : 0 ≤ ((ji6) : Int) := of_decide_eq_true (by first | (with_reducible assumption) | assumption); have q9 : (ji6) < (s0_2.size : Int) := of_decide_eq_true (by first | (with_reducible assumption) | assumption); have hx9 := bt_at s0_2 (ji6); replace p9 := eq_true p9; replace q9 := eq_true q9)); try go_wp2_with (first | (go_at_call 54; (with_reducible refine (strings_LastIndexByte.calls k s0_4 47 t375 _ A4.out).mono ?_); rintro e w' ⟨rfl, ⟨nd, rfl⟩⟩; (try first | exact ⟨rfl, _, World.drewN_drewN _ _ _⟩ | exact ⟨rfl, _, Eq.trans (World.drewN_drewN _ _ _) (congrArg (World.drewN _) (Nat.add_assoc _ _ _))⟩)) | (go_at_call 54; (with_reducible refine (strings_LastIndexByte.calls k s0_4 46 t376 _ A5.out).mono ?_); rintro e w' ⟨rfl, ⟨nd, rfl⟩⟩; (try first | exact ⟨rfl, _, World.drewN_drewN _ _ _⟩ | exact ⟨rfl, _, Eq.trans (World.drewN_drewN _ _ _) (congrArg (World.drewN _) (Nat.add_assoc _ _ _))⟩); have p9 : 0 ≤ ((ji6) : Int) := of_decide_eq_true (by first | (with_reducible assumption) | assumption); have q9 : (ji6) < (s0_2.size : Int) := of_decide_eq_true (by first | (with_reducible assumption) | assumption); have hx9 := bt_at s0_2 (ji6); replace p9 := eq_true p9; replace q9 := eq_true q9)))
            go_ret
            exact ⟨by first | rfl | (simp [errW_none, errW_some] <;> rfl) | (simp only [← hji6]; first | rfl | (simp [errW_none, errW_some] <;> rfl)) | (simp [*, errW_none, errW_some] <;> rfl), by (try rw [show s0_4.extract (s0_4.size : Int).toNat s0_4.size = ByteArray.empty from by apply ByteArray.ext; simp]); repeat (first | (with_reducible first | exact HI0.out | apply IsS47.alloc | apply IsS47.drewN | apply IsS47.drew | apply IsS47.set_0 | apply IsS47.set_2 | apply IsS47.set_3 | apply IsS47.set_4 | apply IsS47.set_5) | exact HI0.out), by repeat (first | (with_reducible first | exact HB.out | apply below_alloc | apply pw_below_drewN | apply below_drew1 | refine below_set ?_ (IsS47.ge HI0.out)) | exact HB.out), by repeat (first | (with_reducible first | exact HK.out | apply KeepBut.set_ | apply keep_drewN | apply keep_drew | apply keep_alloc) | exact HK.out)⟩
           ·rw [if_neg c25] at H
            exact absurd H (by simp)
          ·rw [if_neg c24] at H
           exact absurd H (by simp)
        ·rw [if_neg c19] at H
         have c19b0 : ((bt s0_2 (ji6)) == 101) = false := beq_eq_false_iff_ne.mpr c19
         have c19b1 : ((bt s0_2 (ji6)) != 101) = true := bne_iff_ne.mpr c19
         by_cases c27 : (bt s0_2 (ji6)) = 115
         ·rw [if_pos c27] at H
          have c27b0 : ((bt s0_2 (ji6)) == 115) = true := beq_iff_eq.mpr c27
          have c27b1 : ((bt s0_2 (ji6)) != 115) = false := bne_eq_false_iff_eq.mpr c27
          clear c27
          replace H := Option.bind_eq_some_iff.mp H
          obtain ⟨⟨t377, t378, t379, t380, t381, t382⟩, A280, H⟩ := H
          replace H : (some (t377, t378, t379, t380, t381, t382)) = some (r1, r2, r3, r4, r5, r6) := H
          have A28 := Aside0.mk A280
          clear A280
          simp only [Option.some.injEq, Prod.mk.injEq] at H
          obtain ⟨rfl, rfl, rfl, rfl, rfl, rfl⟩ := H
          obtain ⟨ASz29_1, cSz29_1, HGz29, hgz29, ⟨HSz29_1, HCSz29_1⟩⟩ := HI0.out
          have hcz29_0 := cellS47_0 HGz29
          have hcz29_1 := cellS47_1 HGz29
          have hcz29_2 := cellS47_2 HGz29
          have hcz29_3 := cellS47_3 HGz29
          have hcz29_4 := cellS47_4 HGz29
          have hcz29_5 := cellS47_5 HGz29
          have hfz29_0 := blk_frozen HGz29 0
          have hfz29_2 := blk_frozen HGz29 2
          have hfz29_3 := blk_frozen HGz29 3
          have hfz29_4 := blk_frozen HGz29 4
          have hfz29_5 := blk_frozen HGz29 5
          clear HGz29 hgz29
          go_enter Tryd.func37, Tryd.ntmps37
          go_wp2_with (first | (go_at_call 54; (with_reducible refine (strings_LastIndexByte.calls k s0_4 47 t375 _ A4.out).mono ?_); rintro e w' ⟨rfl, ⟨nd, rfl⟩⟩; (try first | exact ⟨rfl, _, World.drewN_drewN _ _ _⟩ | exact ⟨rfl, _, Eq.trans (World.drewN_drewN _ _ _) (congrArg (World.drewN _) (Nat.add_assoc _ _ _))⟩)) | (go_at_call 54; (with_reducible refine (strings_LastIndexByte.calls k s0_4 46 t376 _ A5.out).mono ?_); rintro e w' ⟨rfl, ⟨nd, rfl⟩⟩; (try first | exact ⟨rfl, _, World.drewN_drewN _ _ _⟩ | exact ⟨rfl, _, Eq.trans (World.drewN_drewN _ _ _) (congrArg (World.drewN _) (Nat.add_assoc _ _ _))⟩); have p9 : 0 ≤ ((ji6) : Int) := of_decide_eq_true (by first | (with_reducible assumption) | assumption); have q9 : (ji6) < (s0_2.size : Int) := of_decide_eq_true (by first | (with_reducible assumption) | assumption); have hx9 := bt_at s0_2 (ji6); replace p9 := eq_true p9; replace q9 := eq_true q9) | (go_at_call 55; (with_reducible refine (bang_reader_replace.calls k g s0_0 s0_1 s0_2 (wrap64 ((wrap64 (s0_3 + 1)) + 1)) s0_4 s0_5 1 t377 t378 t379 t380 t381 t382 w0 _ ?side1 ?side2 (by first | exact hM | exact hM.le HB.out) A28.out).mono ?_); (case side1 => repeat (first | (with_reducible first | exact HI0.out | apply IsS47.alloc | apply IsS47.drewN | apply IsS47.drew | apply IsS47.set_0 | apply IsS47.set_2 | apply IsS47.set_3 | apply IsS47.set_4 | apply IsS47.set_5) | exact HI0.out)); (case side2 => repeat (first | (with_reducible first | exact HB.out | apply below_alloc | apply pw_below_drewN | apply below_drew1 | refine below_set ?_ (IsS47.ge HI0.out)) | exact HB.out)); rintro e w30 ⟨rfl, hi, hb, hk⟩; have n0_ := Aside0.mk (KeepBut.trans (by repeat (first | (with_reducible first | exact HK.out | apply KeepBut.set_ | apply keep_drewN | apply keep_drew | apply keep_alloc) | exact HK.out)) hk (.inl rfl)); have n1_ := Aside0.mk (hb); have n2_ := Aside0.mk (hi); clear HK; clear HB; clear HI0; have HK := n0_; have HB := n1_; have HI0 := n2_; clear n0_ n1_ n2_; (try clear hb); (try clear hb2); (try clear hk); (try clear hi)))
          repeat (go_quiet (first | (go_at_call 54; (with_reducible refine (strings_LastIndexByte.calls k s0_4 47 t375 _ A4.out).mono ?_); rintro e w' ⟨rfl, ⟨nd, rfl⟩⟩; (try first | exact ⟨rfl, _, World.drewN_drewN _ _ _⟩ | exact ⟨rfl, _, Eq.trans (World.drewN_drewN _ _ _) (congrArg (World.drewN _) (Nat.add_assoc _ _ _))⟩)) | (go_at_call 54; (with_reducible refine (strings_LastIndexByte.calls k s0_4 46 t376 _ A5.out).mono ?_); rintro e w' ⟨rfl, ⟨nd, rfl⟩⟩; (try first | exact ⟨rfl, _, World.drewN_drewN _ _ _⟩ | exact ⟨rfl, _, Eq.trans (World.drewN_drewN _ _ _) (congrArg (World.drewN _) (Nat.add_assoc _ _ _))⟩); have p9 : 0 ≤ ((ji6) : Int) := of_decide_eq_true (by first | (with_reducible assumption) | assumption); have q9 : (ji6) < (s0_2.size : Int) := of_decide_eq_true (by first | (with_reducible assumption) | assumption); have hx9 := bt_at s0_2 (ji6); replace p9 := eq_true p9; replace q9 := eq_true q9) | (go_at_call 55; (with_reducible refine (bang_reader_replace.calls k g s0_0 s0_1 s0_2 (wrap64 ((wrap64 (s0_3 + 1)) + 1)) s0_4 s0_5 1 t377 t378 t379 t380 t381 t382 w0 _ ?side1 ?side2 (by first | exact hM | exact hM.le HB.out) A28.out).mono ?_); (case side1 => repeat (first | (with_reducible first | exact HI0.out | apply IsS47.alloc | apply IsS47.drewN | apply IsS47.drew | apply IsS47.set_0 | apply IsS47.set_2 | apply IsS47.set_3 | apply IsS47.set_4 | apply IsS47.set_5) | exact HI0.out)); (case side2 => repeat (first | (with_reducible first | exact HB.out | apply below_alloc | apply pw_below_drewN | apply below_drew1 | refine below_set ?_ (IsS47.ge HI0.out)) | exact HB.out)); rintro e w30 ⟨rfl, hi, hb, hk⟩; have n0_ := Aside0.mk (KeepBut.trans (by repeat (first | (with_reducible first | exact HK.out | apply KeepBut.set_ | apply keep_drewN | apply keep_drew | apply keep_alloc) | exact HK.out)) hk (.inl rfl)); have n1_ := Aside0.mk (hb); have n2_ := Aside0.mk (hi); clear HK; clear HB; clear HI0; have HK := n0_; have HB := n1_; have HI0 := n2_; clear n0_ n1_ n2_; (try clear hb); (try clear hb2); (try clear hk); (try clear hi))); try go_wp2_with (first | (go_at_call 54; (with_reducible refine (strings_LastIndexByte.calls k s0_4 47 t375 _ A4.out).mono ?_); rintro e w' ⟨rfl, ⟨nd, rfl⟩⟩; (try first | exact ⟨rfl, _, World.drewN_drewN _ _ _⟩ | exact ⟨rfl, _, Eq.trans (World.drewN_drewN _ _ _) (congrArg (World.drewN _) (Nat.add_assoc _ _ _))⟩)) | (go_at_call 54; (with_reducible refine (strings_LastIndexByte.calls k s0_4 46 t376 _ A5.out).mono ?_); rintro e w' ⟨rfl, ⟨nd, rfl⟩⟩; (try first | exact ⟨rfl, _, World.drewN_drewN _ _ _⟩ | exact ⟨rfl, _, Eq.trans (World.drewN_drewN _ _ _) (congrArg (World.drewN _) (Nat.add_assoc _ _ _))⟩); have p9 : 0 ≤ ((ji6) : Int) := of_decide_eq_true (by first | (with_reducible assumption) | assumption); have q9 : (ji6) < (s0_2.size : Int) := of_decide_eq_true (by first | (with_reducible assumption) | assumption); have hx9 := bt_at s0_2 (ji6); replace p9 := eq_true p9; replace q9 := eq_true q9) | (go_at_call 55; (with_reducible refine (bang_reader_replace.calls k g s0_0 s0_1 s0_2 (wrap64 ((wrap64 (s0_3 + 1)) + 1)) s0_4 s0_5 1 t377 t378 t379 t380 t381 t382 w0 _ ?side1 ?side2 (by first | exact hM | exact hM.le HB.out) A28.out).mono ?_); (case side1 => repeat (first | (with_reducible first | exact HI0.out | apply IsS47.alloc | apply IsS47.drewN | apply IsS47.drew | apply IsS47.set_0 | apply IsS47.set_2 | apply IsS47.set_3 | apply IsS47.set_4 | apply IsS47.set_5) | exact HI0.out)); (case side2 => repeat (first | (with_reducible first | exact HB.out | apply below_alloc | apply pw_below_drewN | apply below_drew1 | refine below_set ?_ (IsS47.ge HI0.out)) | exact HB.out)); rintro e w30 ⟨rfl, hi, hb, hk⟩; have n0_ := Aside0.mk (KeepBut.trans (by repeat (first | (with_reducible first | exact HK.out | apply KeepBut.set_ | apply keep_drewN | apply keep_drew | apply keep_alloc) | exact HK.out)) hk (.inl rfl)); have n1_ := Aside0.mk (hb); have n2_ := Aside0.mk (hi); clear HK; clear HB; clear HI0; have HK := n0_; have HB := n1_; have HI0 := n2_; clear n0_ n1_ n2_; (try clear hb); (try clear hb2); (try clear hk); (try clear hi))))
          go_ret
          exact ⟨by first | rfl | (simp [errW_none, errW_some] <;> rfl) | (simp only [← hji6]; first | rfl | (simp [errW_none, errW_some] <;> rfl)) | (simp [*, errW_none, errW_some] <;> rfl), by (try rw [show s0_4.extract (s0_4.size : Int).toNat s0_4.size = ByteArray.empty from by apply ByteArray.ext; simp]); repeat (first | (with_reducible first | exact HI0.out | apply IsS47.alloc | apply IsS47.drewN | apply IsS47.drew | apply IsS47.set_0 | apply IsS47.set_2 | apply IsS47.set_3 | apply IsS47.set_4 | apply IsS47.set_5) | exact HI0.out), by repeat (first | (with_reducible first | exact HB.out | apply below_alloc | apply pw_below_drewN | apply below_drew1 | refine below_set ?_ (IsS47.ge HI0.out)) | exact HB.out), by repeat (first | (with_reducible first | exact HK.out | apply KeepBut.set_ | apply keep_drewN | apply keep_drew | apply keep_alloc) | exact HK.out)⟩
         ·rw [if_neg c27] at H
          have c27b0 : ((bt s0_2 (ji6)) == 115) = false := beq_eq_false_iff_ne.mpr c27
          have c27b1 : ((bt s0_2 (ji6)) != 115) = true := bne_iff_ne.mpr c27
          by_cases c31 : (bt s0_2 (ji6)) = 103
          ·rw [if_pos c31] at H
           have c31b0 : ((bt s0_2 (ji6)) == 103) = true := beq_iff_eq.mpr c31
           have c31b1 : ((bt s0_2 (ji6)) != 103) = false := bne_eq_false_iff_eq.mpr c31
           clear c31
           replace H := Option.bind_eq_some_iff.mp H
           obtain ⟨⟨t383, t384, t385, t386, t387, t388⟩, A320, H⟩ := H
           replace H : (if t383 = true then ((bang_reader_replace.f k t384 s0_1 t385 (wrap64 (t386 + 1)) t387 t388 (-1)).bind fun bt389 => (some (bt389.1, bt389.2.1, bt389.2.2.1, bt389.2.2.2.1, bt389.2.2.2.2.1, bt389.2.2.2.2.2))) else (some (6, t384, t385, t386, t387, t388))) = some (r1, r2, r3, r4, r5, r6) := H
           have A32 := Aside0.mk A320
           clear A320
           by_cases c33 : t383 = true
           ·subst c33
            have H1 : ((bang_reader_replace.f k t384 s0_1 t385 (wrap64 (t386 + 1)) t387 t388 (-1)).bind fun bt389 => (some (bt389.1, bt389.2.1, bt389.2.2.1, bt389.2.2.2.1, bt389.2.2.2.2.1, bt389.2.2.2.2.2))) = some (r1, r2, r3, r4, r5, r6) := by rw [if_pos rfl] at H; exact H
            clear H
            have H := H1
            clear H1
            replace H := Option.bind_eq_some_iff.mp H
            obtain ⟨⟨t389, t390, t391, t392, t393, t394⟩, A340, H⟩ := H
            replace H : (some (t389, t390, t391, t392, t393, t394)) = some (r1, r2, r3, r4, r5, r6) := H
            have A34 := Aside0.mk A340
            clear A340
            simp only [Option.some.injEq, Prod.mk.injEq] at H
            obtain ⟨rfl, rfl, rfl, rfl, rfl, rfl⟩ := H
            obtain ⟨ASz35_1, cSz35_1, HGz35, hgz35, ⟨HSz35_1, HCSz35_1⟩⟩ := HI0.out
            have hcz35_0 := cellS47_0 HGz35
            have hcz35_1 := cellS47_1 HGz35
            have hcz35_2 := cellS47_2 HGz35
            have hcz35_3 := cellS47_3 HGz35
            have hcz35_4 := cellS47_4 HGz35
            have hcz35_5 := cellS47_5 HGz35
            have hfz35_0 := blk_frozen HGz35 0
            have hfz35_2 := blk_frozen HGz35 2
            have hfz35_3 := blk_frozen HGz35 3
            have hfz35_4 := blk_frozen HGz35 4
            have hfz35_5 := blk_frozen HGz35 5
            clear HGz35 hgz35
            go_enter Tryd.func37, Tryd.ntmps37
            go_wp2_with (first | (go_at_call 54; (with_reducible refine (strings_LastIndexByte.calls k s0_4 47 t375 _ A4.out).mono ?_); rintro e w' ⟨rfl, ⟨nd, rfl⟩⟩; (try first | exact ⟨rfl, _, World.drewN_drewN _ _ _⟩ | exact ⟨rfl, _, Eq.trans (World.drewN_drewN _ _ _) (congrArg (World.drewN _) (Nat.add_assoc _ _ _))⟩)) | (go_at_call 54; (with_reducible refine (strings_LastIndexByte.calls k s0_4 46 t376 _ A5.out).mono ?_); rintro e w' ⟨rfl, ⟨nd, rfl⟩⟩; (try first | exact ⟨rfl, _, World.drewN_drewN _ _ _⟩ | exact ⟨rfl, _, Eq.trans (World.drewN_drewN _ _ _) (congrArg (World.drewN _) (Nat.add_assoc _ _ _))⟩); have p9 : 0 ≤ ((ji6) : Int) := of_decide_eq_true (by first | (with_reducible assumption) | assumption); have q9 : (ji6) < (s0_2.size : Int) := of_decide_eq_true (by first | (with_reducible assumption) | assumption); have hx9 := bt_at s0_2 (ji6); replace p9 := eq_true p9; replace q9 := eq_true q9) | (go_at_call 36; (with_reducible refine (bang_reader_has.calls g s0_0 s0_1 s0_2 (wrap64 ((wrap64 (s0_3 + 1)) + 1)) s0_4 s0_5 115 true t384 t385 t386 t387 t388 w0 _ ?side1 ?side2 A32.out).mono ?_); (case side1 => repeat (first | (with_reducible first | exact HI0.out | apply IsS47.alloc | apply IsS47.drewN | apply IsS47.drew | apply IsS47.set_0 | apply IsS47.set_2 | apply IsS47.set_3 | apply IsS47.set_4 | apply IsS47.set_5) | exact HI0.out)); (case side2 => repeat (first | (with_reducible first | exact HB.out | apply below_alloc | apply pw_below_drewN | apply below_drew1 | refine below_set ?_ (IsS47.ge HI0.out)) | exact HB.out)); rintro e w36 ⟨rfl, hi, hb, hk⟩; have n0_ := Aside0.mk (KeepBut.trans (by repeat (first | (with_reducible first | exact HK.out | apply KeepBut.set_ | apply keep_drewN | apply keep_drew | apply keep_alloc) | exact HK.out)) hk (.inl rfl)); have n1_ := Aside0.mk (hb); have n2_ := Aside0.mk (hi); clear HK; clear HB; clear HI0; have HK := n0_; have HB := n1_; have HI0 := n2_; clear n0_ n1_ n2_; (try clear hb); (try clear hb2); (try clear hk); (try clear hi); obtain ⟨ASz37_1, cSz37_1, HGz37, hgz37, ⟨HSz37_1, HCSz37_1⟩⟩ := HI0.out; have hcz37_0 := cellS47_0 HGz37; have hcz37_1 := cellS47_1 HGz37; have hcz37_2 := cellS47_2 HGz37; have hcz37_3 := cellS47_3 HGz37; have hcz37_4 := cellS47_4 HGz37; have hcz37_5 := cellS47_5 HGz37; have hfz37_0 := blk_frozen HGz37 0; have hfz37_2 := blk_frozen HGz37 2; have hfz37_3 := blk_frozen HGz37 3; have hfz37_4 := blk_frozen HGz37 4; have hfz37_5 := blk_frozen HGz37 5; clear HGz37 hgz37) | (go_at_call 55; (with_reducible refine (bang_reader_replace.calls k g t384 s0_1 t385 (wrap64 (t386 + 1)) t387 t388 (-1) t389 t390 t391 t392 t393 t394 w0 _ ?side1 ?side2 (by first | exact hM | exact hM.le HB.out) A34.out).mono ?_); (case side1 => repeat (first | (with_reducible first | exact HI0.out | apply IsS47.alloc | apply IsS47.drewN | apply IsS47.drew | apply IsS47.set_0 | apply IsS47.set_2 | apply IsS47.set_3 | apply IsS47.set_4 | apply IsS47.set_5) | exact HI0.out)); (case side2 => repeat (first | (with_reducible first | exact HB.out | apply below_alloc | apply pw_below_drewN | apply below_drew1 | refine below_set ?_ (IsS47.ge HI0.out)) | exact HB.out)); rintro e w38 ⟨rfl, hi, hb, hk⟩; have n0_ := Aside0.mk (KeepBut.trans (by repeat (first | (with_reducible first | exact HK.out | apply KeepBut.set_ | apply keep_drewN | apply keep_drew | apply keep_alloc) | exact HK.out)) hk (.inl rfl)); have n1_ := Aside0.mk (hb); have n2_ := Aside0.mk (hi); clear HK; clear HB; clear HI0; have HK := n0_; have HB := n1_; have HI0 := n2_; clear n0_ n1_ n2_; (try clear hb); (try clear hb2); (try clear hk); (try clear hi)))
            repeat (go_quiet (first | (go_at_call 54; (with_reducible refine (strings_LastIndexByte.calls k s0_4 47 t375 _ A4.out).mono ?_); rintro e w' ⟨rfl, ⟨nd, rfl⟩⟩; (try first | exact ⟨rfl, _, World.drewN_drewN _ _ _⟩ | exact ⟨rfl, _, Eq.trans (World.drewN_drewN _ _ _) (congrArg (World.drewN _) (Nat.add_assoc _ _ _))⟩)) | (go_at_call 54; (with_reducible refine (strings_LastIndexByte.calls k s0_4 46 t376 _ A5.out).mono ?_); rintro e w' ⟨rfl, ⟨nd, rfl⟩⟩; (try first | exact ⟨rfl, _, World.drewN_drewN _ _ _⟩ | exact ⟨rfl, _, Eq.trans (World.drewN_drewN _ _ _) (congrArg (World.drewN _) (Nat.add_assoc _ _ _))⟩); have p9 : 0 ≤ ((ji6) : Int) := of_decide_eq_true (by first | (with_reducible assumption) | assumption); have q9 : (ji6) < (s0_2.size : Int) := of_decide_eq_true (by first | (with_reducible assumption) | assumption); have hx9 := bt_at s0_2 (ji6); replace p9 := eq_true p9; replace q9 := eq_true q9) | (go_at_call 36; (with_reducible refine (bang_reader_has.calls g s0_0 s0_1 s0_2 (wrap64 ((wrap64 (s0_3 + 1)) + 1)) s0_4 s0_5 115 true t384 t385 t386 t387 t388 w0 _ ?side1 ?side2 A32.out).mono ?_); (case side1 => repeat (first | (with_reducible first | exact HI0.out | apply IsS47.alloc | apply IsS47.drewN | apply IsS47.drew | apply IsS47.set_0 | apply IsS47.set_2 | apply IsS47.set_3 | apply IsS47.set_4 | apply IsS47.set_5) | exact HI0.out)); (case side2 => repeat (first | (with_reducible first | exact HB.out | apply below_alloc | apply pw_below_drewN | apply below_drew1 | refine below_set ?_ (IsS47.ge HI0.out)) | exact HB.out)); rintro e w36 ⟨rfl, hi, hb, hk⟩; have n0_ := Aside0.mk (KeepBut.trans (by repeat (first | (with_reducible first | exact HK.out | apply KeepBut.set_ | apply keep_drewN | apply keep_drew | apply keep_alloc) | exact HK.out)) hk (.inl rfl)); have n1_ := Aside0.mk (hb); have n2_ := Aside0.mk (hi); clear HK; clear HB; clear HI0; have HK := n0_; have HB := n1_; have HI0 := n2_; clear n0_ n1_ n2_; (try clear hb); (try clear hb2); (try clear hk); (try clear hi); obtain ⟨ASz37_1, cSz37_1, HGz37, hgz37, ⟨HSz37_1, HCSz37_1⟩⟩ := HI0.out; have hcz37_0 := cellS47_0 HGz37; have hcz37_1 := cellS47_1 HGz37; have hcz37_2 := cellS47_2 HGz37; have hcz37_3 := cellS47_3 HGz37; have hcz37_4 := cellS47_4 HGz37; have hcz37_5 := cellS47_5 HGz37; have hfz37_0 := blk_frozen HGz37 0; have hfz37_2 := blk_frozen HGz37 2; have hfz37_3 := blk_frozen HGz37 3; have hfz37_4 := blk_frozen HGz37 4; have hfz37_5 := blk_frozen HGz37 5; clear HGz37 hgz37) | (go_at_call 55; (with_reducible refine (bang_reader_replace.calls k g t384 s0_1 t385 (wrap64 (t386 + 1)) t387 t388 (-1) t389 t390 t391 t392 t393 t394 w0 _ ?side1 ?side2 (by first | exact hM | exact hM.le HB.out) A34.out).mono ?_); (case side1 => repeat (first | (with_reducible first | exact HI0.out | apply IsS47.alloc | apply IsS47.drewN | apply IsS47.drew | apply IsS47.set_0 | apply IsS47.set_2 | apply IsS47.set_3 | apply IsS47.set_4 | apply IsS47.set_5) | exact HI0.out)); (case side2 => repeat (first | (with_reducible first | exact HB.out | apply below_alloc | apply pw_below_drewN | apply below_drew1 | refine below_set ?_ (IsS47.ge HI0.out)) | exact HB.out)); rintro e w38 ⟨rfl, hi, hb, hk⟩; have n0_ := Aside0.mk (KeepBut.trans (by repeat (first | (with_reducible first | exact HK.out | apply KeepBut.set_ | apply keep_drewN | apply keep_drew | apply keep_alloc) | exact HK.out)) hk (.inl rfl)); have n1_ := Aside0.mk (hb); have n2_ := Aside0.mk (hi); clear HK; clear HB; clear HI0; have HK := n0_; have HB := n1_; have HI0 := n2_; clear n0_ n1_ n2_; (try clear hb); (try clear hb2); (try clear hk); (try clear hi))); try go_wp2_with (first | (go_at_call 54; (with_reducible refine (strings_LastIndexByte.calls k s0_4 47 t375 _ A4.out).mono ?_); rintro e w' ⟨rfl, ⟨nd, rfl⟩⟩; (try first | exact ⟨rfl, _, World.drewN_drewN _ _ _⟩ | exact ⟨rfl, _, Eq.trans (World.drewN_drewN _ _ _) (congrArg (World.drewN _) (Nat.add_assoc _ _ _))⟩)) | (go_at_call 54; (with_reducible refine (strings_LastIndexByte.calls k s0_4 46 t376 _ A5.out).mono ?_); rintro e w' ⟨rfl, ⟨nd, rfl⟩⟩; (try first | exact ⟨rfl, _, World.drewN_drewN _ _ _⟩ | exact ⟨rfl, _, Eq.trans (World.drewN_drewN _ _ _) (congrArg (World.drewN _) (Nat.add_assoc _ _ _))⟩); have p9 : 0 ≤ ((ji6) : Int) := of_decide_eq_true (by first | (with_reducible assumption) | assumption); have q9 : (ji6) < (s0_2.size : Int) := of_decide_eq_true (by first | (with_reducible assumption) | assumption); have hx9 := bt_at s0_2 (ji6); replace p9 := eq_true p9; replace q9 := eq_true q9) | (go_at_call 36; (with_reducible refine (bang_reader_has.calls g s0_0 s0_1 s0_2 (wrap64 ((wrap64 (s0_3 + 1)) + 1)) s0_4 s0_5 115 true t384 t385 t386 t387 t388 w0 _ ?side1 ?side2 A32.out).mono ?_); (case side1 => repeat (first | (with_reducible first | exact HI0.out | apply IsS47.alloc | apply IsS47.drewN | apply IsS47.drew | apply IsS47.set_0 | apply IsS47.set_2 | apply IsS47.set_3 | apply IsS47.set_4 | apply IsS47.set_5) | exact HI0.out)); (case side2 => repeat (first | (with_reducible first | exact HB.out | apply below_alloc | apply pw_below_drewN | apply below_drew1 | refine below_set ?_ (IsS47.ge HI0.out)) | exact HB.out)); rintro e w36 ⟨rfl, hi, hb, hk⟩; have n0_ := Aside0.mk (KeepBut.trans (by repeat (first | (with_reducible first | exact HK.out | apply KeepBut.set_ | apply keep_drewN | apply keep_drew | apply keep_alloc) | exact HK.out)) hk (.inl rfl)); have n1_ := Aside0.mk (hb); have n2_ := Aside0.mk (hi); clear HK; clear HB; clear HI0; have HK := n0_; have HB := n1_; have HI0 := n2_; clear n0_ n1_ n2_; (try clear hb); (try clear hb2); (try clear hk); (try clear hi); obtain ⟨ASz37_1, cSz37_1, HGz37, hgz37, ⟨HSz37_1, HCSz37_1⟩⟩ := HI0.out; have hcz37_0 := cellS47_0 HGz37; have hcz37_1 := cellS47_1 HGz37; have hcz37_2 := cellS47_2 HGz37; have hcz37_3 := cellS47_3 HGz37; have hcz37_4 := cellS47_4 HGz37; have hcz37_5 := cellS47_5 HGz37; have hfz37_0 := blk_frozen HGz37 0; have hfz37_2 := blk_frozen HGz37 2; have hfz37_3 := blk_frozen HGz37 3; have hfz37_4 := blk_frozen HGz37 4; have hfz37_5 := blk_frozen HGz37 5; clear HGz37 hgz37) | (go_at_call 55; (with_reducible refine (bang_reader_replace.calls k g t384 s0_1 t385 (wrap64 (t386 + 1)) t387 t388 (-1) t389 t390 t391 t392 t393 t394 w0 _ ?side1 ?side2 (by first | exact hM | exact hM.le HB.out) A34.out).mono ?_); (case side1 => repeat (first | (with_reducible first | exact HI0.out | apply IsS47.alloc | apply IsS47.drewN | apply IsS47.drew | apply IsS47.set_0 | apply IsS47.set_2 | apply IsS47.set_3 | apply IsS47.set_4 | apply IsS47.set_5) | exact HI0.out)); (case side2 => repeat (first | (with_reducible first | exact HB.out | apply below_alloc | apply pw_below_drewN | apply below_drew1 | refine below_set ?_ (IsS47.ge HI0.out)) | exact HB.out)); rintro e w38 ⟨rfl, hi, hb, hk⟩; have n0_ := Aside0.mk (KeepBut.trans (by repeat (first | (with_reducible first | exact HK.out | apply KeepBut.set_ | apply keep_drewN | apply keep_drew | apply keep_alloc) | exact HK.out)) hk (.inl rfl)); have n1_ := Aside0.mk (hb); have n2_ := Aside0.mk (hi); clear HK; clear HB; clear HI0; have HK := n0_; have HB := n1_; have HI0 := n2_; clear n0_ n1_ n2_; (try clear hb); (try clear hb2); (try clear hk); (try clear hi))))
            go_ret
            exact ⟨by first | rfl | (simp [errW_none, errW_some] <;> rfl) | (simp only [← hji6]; first | rfl | (simp [errW_none, errW_some] <;> rfl)) | (simp [*, errW_none, errW_some] <;> rfl), by (try rw [show s0_4.extract (s0_4.size : Int).toNat s0_4.size = ByteArray.empty from by apply ByteArray.ext; simp]); repeat (first | (with_reducible first | exact HI0.out | apply IsS47.alloc | apply IsS47.drewN | apply IsS47.drew | apply IsS47.set_0 | apply IsS47.set_2 | apply IsS47.set_3 | apply IsS47.set_4 | apply IsS47.set_5) | exact HI0.out), by repeat (first | (with_reducible first | exact HB.out | apply below_alloc | apply pw_below_drewN | apply below_drew1 | refine below_set ?_ (IsS47.ge HI0.out)) | exact HB.out), by repeat (first | (with_reducible first | exact HK.out | apply KeepBut.set_ | apply keep_drewN | apply keep_drew | apply keep_alloc) | exact HK.out)⟩
           ·replace c33 := Bool.eq_false_iff.mpr c33
            subst c33
            have H1 : (some (6, t384, t385, t386, t387, t388)) = some (r1, r2, r3, r4, r5, r6) := by rw [if_neg (show ¬ (false = true) by decide)] at H; exact H
            clear H
            have H := H1
            clear H1
            simp only [Option.some.injEq, Prod.mk.injEq] at H
            obtain ⟨rfl, rfl, rfl, rfl, rfl, rfl⟩ := H
            obtain ⟨ASz39_1, cSz39_1, HGz39, hgz39, ⟨HSz39_1, HCSz39_1⟩⟩ := HI0.out
            have hcz39_0 := cellS47_0 HGz39
            have hcz39_1 := cellS47_1 HGz39
            have hcz39_2 := cellS47_2 HGz39
            have hcz39_3 := cellS47_3 HGz39
            have hcz39_4 := cellS47_4 HGz39
            have hcz39_5 := cellS47_5 HGz39
            have hfz39_0 := blk_frozen HGz39 0
            have hfz39_2 := blk_frozen HGz39 2
            have hfz39_3 := blk_frozen HGz39 3
            have hfz39_4 := blk_frozen HGz39 4
            have hfz39_5 := blk_frozen HGz39 5
            clear HGz39 hgz39
            go_enter Tryd.func37, Tryd.ntmps37
            go_wp2_with (first | (go_at_call 54; (with_reducible refine (strings_LastIndexByte.calls k s0_4 47 t375 _ A4.out).mono ?_); rintro e w' ⟨rfl, ⟨nd, rfl⟩⟩; (try first | exact ⟨rfl, _, World.drewN_drewN _ _ _⟩ | exact ⟨rfl, _, Eq.trans (World.drewN_drewN _ _ _) (congrArg (World.drewN _) (Nat.add_assoc _ _ _))⟩)) | (go_at_call 54; (with_reducible refine (strings_LastIndexByte.calls k s0_4 46 t376 _ A5.out).mono ?_); rintro e w' ⟨rfl, ⟨nd, rfl⟩⟩; (try first | exact ⟨rfl, _, World.drewN_drewN _ _ _⟩ | exact ⟨rfl, _, Eq.trans (World.drewN_drewN _ _ _) (congrArg (World.drewN _) (Nat.add_assoc _ _ _))⟩); have p9 : 0 ≤ ((ji6) : Int) := of_decide_eq_true (by first | (with_reducible assumption) | assumption); have q9 : (ji6) < (s0_2.size : Int) := of_decide_eq_true (by first | (with_reducible assumption) | assumption); have hx9 := bt_at s0_2 (ji6); replace p9 := eq_true p9; replace q9 := eq_true q9) | (go_at_call 36; (with_reducible refine (bang_reader_has.calls g s0_0 s0_1 s0_2 (wrap64 ((wrap64 (s0_3 + 1)) + 1)) s0_4 s0_5 115 false t384 t385 t386 t387 t388 w0 _ ?side1 ?side2 A32.out).mono ?_); (case side1 => repeat (first | (with_reducible first | exact HI0.out | apply IsS47.alloc | apply IsS47.drewN | apply IsS47.drew | apply IsS47.set_0 | apply IsS47.set_2 | apply IsS47.set_3 | apply IsS47.set_4 | apply IsS47.set_5) | exact HI0.out)); (case side2 => repeat (first | (with_reducible first | exact HB.out | apply below_alloc | apply pw_below_drewN | apply below_drew1 | refine below_set ?_ (IsS47.ge HI0.out)) | exact HB.out)); rintro e w40 ⟨rfl, hi, hb, hk⟩; have n0_ := Aside0.mk (KeepBut.trans (by repeat (first | (with_reducible first | exact HK.out | apply KeepBut.set_ | apply keep_drewN | apply keep_drew | apply keep_alloc) | exact HK.out)) hk (.inl rfl)); have n1_ := Aside0.mk (hb); have n2_ := Aside0.mk (hi); clear HK; clear HB; clear HI0; have HK := n0_; have HB := n1_; have HI0 := n2_; clear n0_ n1_ n2_; (try clear hb); (try clear hb2); (try clear hk); (try clear hi)))
            repeat (go_quiet (first | (go_at_call 54; (with_reducible refine (strings_LastIndexByte.calls k s0_4 47 t375 _ A4.out).mono ?_); rintro e w' ⟨rfl, ⟨nd, rfl⟩⟩; (try first | exact ⟨rfl, _, World.drewN_drewN _ _ _⟩ | exact ⟨rfl, _, Eq.trans (World.drewN_drewN _ _ _) (congrArg (World.drewN _) (Nat.add_assoc _ _ _))⟩)) | (go_at_call 54; (with_reducible refine (strings_LastIndexByte.calls k s0_4 46 t376 _ A5.out).mono ?_); rintro e w' ⟨rfl, ⟨nd, rfl⟩⟩; (try first | exact ⟨rfl, _, World.drewN_drewN _ _ _⟩ | exact ⟨rfl, _, Eq.trans (World.drewN_drewN _ _ _) (congrArg (World.drewN _) (Nat.add_assoc _ _ _))⟩); have p9 : 0 ≤ ((ji6) : Int) := of_decide_eq_true (by first | (with_reducible assumption) | assumption); have q9 : (ji6) < (s0_2.size : Int) := of_decide_eq_true (by first | (with_reducible assumption) | assumption); have hx9 := bt_at s0_2 (ji6); replace p9 := eq_true p9; replace q9 := eq_true q9) | (go_at_call 36; (with_reducible refine (bang_reader_has.calls g s0_0 s0_1 s0_2 (wrap64 ((wrap64 (s0_3 + 1)) + 1)) s0_4 s0_5 115 false t384 t385 t386 t387 t388 w0 _ ?side1 ?side2 A32.out).mono ?_); (case side1 => repeat (first | (with_reducible first | exact HI0.out | apply IsS47.alloc | apply IsS47.drewN | apply IsS47.drew | apply IsS47.set_0 | apply IsS47.set_2 | apply IsS47.set_3 | apply IsS47.set_4 | apply IsS47.set_5) | exact HI0.out)); (case side2 => repeat (first | (with_reducible first | exact HB.out | apply below_alloc | apply pw_below_drewN | apply below_drew1 | refine below_set ?_ (IsS47.ge HI0.out)) | exact HB.out)); rintro e w40 ⟨rfl, hi, hb, hk⟩; have n0_ := Aside0.mk (KeepBut.trans (by repeat (first | (with_reducible first | exact HK.out | apply KeepBut.set_ | apply keep_drewN | apply keep_drew | apply keep_alloc) | exact HK.out)) hk (.inl rfl)); have n1_ := Aside0.mk (hb); have n2_ := Aside0.mk (hi); clear HK; clear HB; clear HI0; have HK := n0_; have HB := n1_; have HI0 := n2_; clear n0_ n1_ n2_; (try clear hb); (try clear hb2); (try clear hk); (try clear hi))); try go_wp2_with (first | (go_at_call 54; (with_reducible refine (strings_LastIndexByte.calls k s0_4 47 t375 _ A4.out).mono ?_); rintro e w' ⟨rfl, ⟨nd, rfl⟩⟩; (try first | exact ⟨rfl, _, World.drewN_drewN _ _ _⟩ | exact ⟨rfl, _, Eq.trans (World.drewN_drewN _ _ _) (congrArg (World.drewN _) (Nat.add_assoc _ _ _))⟩)) | (go_at_call 54; (with_reducible refine (strings_LastIndexByte.calls k s0_4 46 t376 _ A5.out).mono ?_); rintro e w' ⟨rfl, ⟨nd, rfl⟩⟩; (try first | exact ⟨rfl, _, World.drewN_drewN _ _ _⟩ | exact ⟨rfl, _, Eq.trans (World.drewN_drewN _ _ _) (congrArg (World.drewN _) (Nat.add_assoc _ _ _))⟩); have p9 : 0 ≤ ((ji6) : Int) := of_decide_eq_true (by first | (with_reducible assumption) | assumption); have q9 : (ji6) < (s0_2.size : Int) := of_decide_eq_true (by first | (with_reducible assumption) | assumption); have hx9 := bt_at s0_2 (ji6); replace p9 := eq_true p9; replace q9 := eq_true q9) | (go_at_call 36; (with_reducible refine (bang_reader_has.calls g s0_0 s0_1 s0_2 (wrap64 ((wrap64 (s0_3 + 1)) + 1)) s0_4 s0_5 115 false t384 t385 t386 t387 t388 w0 _ ?side1 ?side2 A32.out).mono ?_); (case side1 => repeat (first | (with_reducible first | exact HI0.out | apply IsS47.alloc | apply IsS47.drewN | apply IsS47.drew | apply IsS47.set_0 | apply IsS47.set_2 | apply IsS47.set_3 | apply IsS47.set_4 | apply IsS47.set_5) | exact HI0.out)); (case side2 => repeat (first | (with_reducible first | exact HB.out | apply below_alloc | apply pw_below_drewN | apply below_drew1 | refine below_set ?_ (IsS47.ge HI0.out)) | exact HB.out)); rintro e w40 ⟨rfl, hi, hb, hk⟩; have n0_ := Aside0.mk (KeepBut.trans (by repeat (first | (with_reducible first | exact HK.out | apply KeepBut.set_ | apply keep_drewN | apply keep_drew | apply keep_alloc) | exact HK.out)) hk (.inl rfl)); have n1_ := Aside0.mk (hb); have n2_ := Aside0.mk (hi); clear HK; clear HB; clear HI0; have HK := n0_; have HB := n1_; have HI0 := n2_; clear n0_ n1_ n2_; (try clear hb); (try clear hb2); (try clear hk); (try clear hi))))
            go_ret
            exact ⟨by first | rfl | (simp [errW_none, errW_some] <;> rfl) | (simp only [← hji6]; first | rfl | (simp [errW_none, errW_some] <;> rfl)) | (simp [*, errW_none, errW_some] <;> rfl), by (try rw [show s0_4.extract (s0_4.size : Int).toNat s0_4.size = ByteArray.empty from by apply ByteArray.ext; simp]); repeat (first | (with_reducible first | exact HI0.out | apply IsS47.alloc | apply IsS47.drewN | apply IsS47.drew | apply IsS47.set_0 | apply IsS47.set_2 | apply IsS47.set_3 | apply IsS47.set_4 | apply IsS47.set_5) | exact HI0.out), by repeat (first | (with_reducible first | exact HB.out | apply below_alloc | apply pw_below_drewN | apply below_drew1 | refine below_set ?_ (IsS47.ge HI0.out)) | exact HB.out), by repeat (first | (with_reducible first | exact HK.out | apply KeepBut.set_ | apply keep_drewN | apply keep_drew | apply keep_alloc) | exact HK.out)⟩
          ·rw [if_neg c31] at H
           have c31b0 : ((bt s0_2 (ji6)) == 103) = false := beq_eq_false_iff_ne.mpr c31
           have c31b1 : ((bt s0_2 (ji6)) != 103) = true := bne_iff_ne.mpr c31
           simp only [Option.some.injEq, Prod.mk.injEq] at H
           obtain ⟨rfl, rfl, rfl, rfl, rfl, rfl⟩ := H
           obtain ⟨ASz41_1, cSz41_1, HGz41, hgz41, ⟨HSz41_1, HCSz41_1⟩⟩ := HI0.out
           have hcz41_0 := cellS47_0 HGz41
           have hcz41_1 := cellS47_1 HGz41
           have hcz41_2 := cellS47_2 HGz41
           have hcz41_3 := cellS47_3 HGz41
           have hcz41_4 := cellS47_4 HGz41
           have hcz41_5 := cellS47_5 HGz41
           have hfz41_0 := blk_frozen HGz41 0
           have hfz41_2 := blk_frozen HGz41 2
           have hfz41_3 := blk_frozen HGz41 3
           have hfz41_4 := blk_frozen HGz41 4
           have hfz41_5 := blk_frozen HGz41 5
           clear HGz41 hgz41
           go_enter Tryd.func37, Tryd.ntmps37
           go_wp2_with (first | (go_at_call 54; (with_reducible refine (strings_LastIndexByte.calls k s0_4 47 t375 _ A4.out).mono ?_); rintro e w' ⟨rfl, ⟨nd, rfl⟩⟩; (try first | exact ⟨rfl, _, World.drewN_drewN _ _ _⟩ | exact ⟨rfl, _, Eq.trans (World.drewN_drewN _ _ _) (congrArg (World.drewN _) (Nat.add_assoc _ _ _))⟩)) | (go_at_call 54; (with_reducible refine (strings_LastIndexByte.calls k s0_4 46 t376 _ A5.out).mono ?_); rintro e w' ⟨rfl, ⟨nd, rfl⟩⟩; (try first | exact ⟨rfl, _, World.drewN_drewN _ _ _⟩ | exact ⟨rfl, _, Eq.trans (World.drewN_drewN _ _ _) (congrArg (World.drewN _) (Nat.add_assoc _ _ _))⟩); have p9 : 0 ≤ ((ji6) : Int) := of_decide_eq_true (by first | (with_reducible assumption) | assumption); have q9 : (ji6) < (s0_2.size : Int) := of_decide_eq_true (by first | (with_reducible assumption) | assumption); have hx9 := bt_at s0_2 (ji6); replace p9 := eq_true p9; replace q9 := eq_true q9))
           repeat (go_quiet (first | (go_at_call 54; (with_reducible refine (strings_LastIndexByte.calls k s0_4 47 t375 _ A4.out).mono ?_); rintro e w' ⟨rfl, ⟨nd, rfl⟩⟩; (try first | exact ⟨rfl, _, World.drewN_drewN _ _ _⟩ | exact ⟨rfl, _, Eq.trans (World.drewN_drewN _ _ _) (congrArg (World.drewN _) (Nat.add_assoc _ _ _))⟩)) | (go_at_call 54; (with_reducible refine (strings_LastIndexByte.calls k s0_4 46 t376 _ A5.out).mono ?_); rintro e w' ⟨rfl, ⟨nd, rfl⟩⟩; (try first | exact ⟨rfl, _, World.drewN_drewN _ _ _⟩ | exact ⟨rfl, _, Eq.trans (World.drewN_drewN _ _ _) (congrArg (World.drewN _) (Nat.add_assoc _ _ _))⟩); have p9 : 0 ≤ ((ji6) : Int) := of_decide_eq_true (by first | (with_reducible assumption) | assumption); have q9 : (ji6) < (s0_2.size : Int) := of_decide_eq_true (by first | (with_reducible assumption) | assumption); have hx9 := bt_at s0_2 (ji6); replace p9 := eq_true p9; replace q9 := eq_true q9)); try go_wp2_with (first | (go_at_call 54; (with_reducible refine (strings_LastIndexByte.calls k s0_4 47 t375 _ A4.out).mono ?_); rintro e w' ⟨rfl, ⟨nd, rfl⟩⟩; (try first | exact ⟨rfl, _, World.drewN_drewN _ _ _⟩ | exact ⟨rfl, _, Eq.trans (World.drewN_drewN _ _ _) (congrArg (World.drewN _) (Nat.add_assoc _ _ _))⟩)) | (go_at_call 54; (with_reducible refine (strings_LastIndexByte.calls k s0_4 46 t376 _ A5.out).mono ?_); rintro e w' ⟨rfl, ⟨nd, rfl⟩⟩; (try first | exact ⟨rfl, _, World.drewN_drewN _ _ _⟩ | exact ⟨rfl, _, Eq.trans (World.drewN_drewN _ _ _) (congrArg (World.drewN _) (Nat.add_assoc _ _ _))⟩); have p9 : 0 ≤ ((ji6) : Int) := of_decide_eq_true (by first | (with_reducible assumption) | assumption); have q9 : (ji6) < (s0_2.size : Int) := of_decide_eq_true (by first | (with_reducible assumption) | assumption); have hx9 := bt_at s0_2 (ji6); replace p9 := eq_true p9; replace q9 := eq_true q9)))
           go_ret
           exact ⟨by first | rfl | (simp [errW_none, errW_some] <;> rfl) | (simp only [← hji6]; first | rfl | (simp [errW_none, errW_some] <;> rfl)) | (simp [*, errW_none, errW_some] <;> rfl), by (try rw [show s0_4.extract (s0_4.size : Int).toNat s0_4.size = ByteArray.empty from by apply ByteArray.ext; simp]); repeat (first | (with_reducible first | exact HI0.out | apply IsS47.alloc | apply IsS47.drewN | apply IsS47.drew | apply IsS47.set_0 | apply IsS47.set_2 | apply IsS47.set_3 | apply IsS47.set_4 | apply IsS47.set_5) | exact HI0.out), by repeat (first | (with_reducible first | exact HB.out | apply below_alloc | apply pw_below_drewN | apply below_drew1 | refine below_set ?_ (IsS47.ge HI0.out)) | exact HB.out), by repeat (first | (with_reducible first | exact HK.out | apply KeepBut.set_ | apply keep_drewN | apply keep_drew | apply keep_alloc) | exact HK.out)⟩
   ·rw [if_neg c8] at H
    exact absurd H (by simp)
  ·rw [if_neg c7] at H
   exact absurd H (by simp)

end Go.Proofs.YthoanbjklgoggaaDoor.PAll
-- emptytail_
