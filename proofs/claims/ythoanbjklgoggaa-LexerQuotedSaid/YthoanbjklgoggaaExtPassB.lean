/- The body of jobshellref07_Pass: printed by the session's run of the kit's print program. -/
import Derived.Test.YthoanbjklgoggaaPAllx0
import Derived.Test.YthoanbjklgoggaaPAllx4
import Derived.Test.YthoanbjklgoggaaPAllx5
namespace Go.Proofs.Ythoanbjklgoggaa.PAll
open Go.RowKit Go.Proofs.YthoanbjklgoggaaW.PrintWords Go.Proofs.YthoanbjklgoggaaW.PrintLast Go.Proofs.YthoanbjklgoggaaW.PrintMore
attribute [local go_sem] max2_int min2_int max_two min_two max_three min_three max_four min_four   -- for this text's walks alone
set_option linter.unusedVariables false
set_option linter.unusedSimpArgs false

/-! ### jobshellref07_Pass: function 39 -/
mutual
def jobshellref07_PassB.j0 [ScanC] : Nat → ByteArray → Int → Int → Int → Bool → Option (Int × Int)
 | 0, _, _, _, _, _ => none
 | k + 1, x0, x1, x2, x8, x12 => if x12 = true then (some (x1, 7)) else (if x8 = 92 then (some (wrap64 (x1 + 2), 0)) else (if x8 = 96 then ((jobshellref07_backquoted.f k x0 x1).bind fun bt184 => (some (bt184.1, bt184.2))) else ((jobshellref07_Expansion.f k x0 x1).bind fun t186 => (if t186 = true then ((jobshellref07_expansion.f k x0 x1 x2).bind fun bt187 => (some (bt187.1, bt187.2))) else (if x8 = 39 then (jobshellref07_PassB.j1 k x0 x1 x2 x8 (x2 == 0)) else (jobshellref07_PassB.j1 k x0 x1 x2 x8 false))))))
def jobshellref07_PassB.j1 [ScanC] : Nat → ByteArray → Int → Int → Int → Bool → Option (Int × Int)
 | 0, _, _, _, _, _ => none
 | k + 1, x0, x1, x2, x8, x46 => if x46 = true then ((jobshellref07_single.f k x0 x1).bind fun bt189 => (some (bt189.1, bt189.2))) else (if x8 = 34 then (if x2 = 0 then ((jobshellref07_double.f k x0 x1).bind fun bt191 => (some (bt191.1, bt191.2))) else (some (wrap64 (x1 + 1), 0))) else (some (wrap64 (x1 + 1), 0)))
end
def jobshellref07_PassB.f [ScanC] (k : Nat) (a0 : ByteArray) (a1 : Int) (a2 : Int) : Option (Int × Int) := if 0 ≤ a1 then (if a1 < (a0.size : Int) then (if (bt a0 a1) = 92 then (jobshellref07_PassB.j0 k a0 a1 a2 (bt a0 a1) ((wrap64 (a1 + 1)) == (a0.size : Int))) else (jobshellref07_PassB.j0 k a0 a1 a2 (bt a0 a1) false)) else (none)) else (none)
theorem jobshellref07_PassB.mono_l [ScanC] : ∀ k, (∀ y0 y1 y2 y3 y4, LeO (jobshellref07_PassB.j0 k y0 y1 y2 y3 y4) (jobshellref07_PassB.j0 (k + 1) y0 y1 y2 y3 y4)) ∧ (∀ y0 y1 y2 y3 y4, LeO (jobshellref07_PassB.j1 k y0 y1 y2 y3 y4) (jobshellref07_PassB.j1 (k + 1) y0 y1 y2 y3 y4))
 | 0 => ⟨fun _ _ _ _ _ r h => by simp [jobshellref07_PassB.j0] at h, fun _ _ _ _ _ r h => by simp [jobshellref07_PassB.j1] at h⟩
 | k + 1 => by
  obtain ⟨ih0, ih1⟩ := jobshellref07_PassB.mono_l k
  refine ⟨?_, ?_⟩
  ·intro y0 y1 y2 y3 y4
   unfold jobshellref07_PassB.j0
   repeat' first
   | (with_reducible exact ih0 _ _ _ _ _)
   | (with_reducible exact ih1 _ _ _ _ _)
   | (with_reducible exact jobshellref07_Expansion.mono _ _ _)
   | (with_reducible exact jobshellref07_backquoted.mono _ _ _)
   | (with_reducible exact jobshellref07_double.mono _ _ _)
   | (with_reducible exact jobshellref07_expansion.mono _ _ _ _)
   | (with_reducible exact jobshellref07_single.mono _ _ _)
   | (with_reducible exact LeO.refl _)
   | (with_reducible exact LeO.none _)
   | (with_reducible refine LeO.ite ?_ ?_)
   | (with_reducible refine LeO.bind ?_ (fun _ => ?_))
   | exact ih0 _ _ _ _ _
   | exact ih1 _ _ _ _ _
   | exact jobshellref07_Expansion.mono _ _ _
   | exact jobshellref07_backquoted.mono _ _ _
   | exact jobshellref07_double.mono _ _ _
   | exact jobshellref07_expansion.mono _ _ _ _
   | exact jobshellref07_single.mono _ _ _
   | exact LeO.none _
   | refine LeO.ite ?_ ?_
   | refine LeO.bind ?_ (fun _ => ?_)
  ·intro y0 y1 y2 y3 y4
   unfold jobshellref07_PassB.j1
   repeat' first
   | (with_reducible exact ih0 _ _ _ _ _)
   | (with_reducible exact ih1 _ _ _ _ _)
   | (with_reducible exact jobshellref07_Expansion.mono _ _ _)
   | (with_reducible exact jobshellref07_backquoted.mono _ _ _)
   | (with_reducible exact jobshellref07_double.mono _ _ _)
   | (with_reducible exact jobshellref07_expansion.mono _ _ _ _)
   | (with_reducible exact jobshellref07_single.mono _ _ _)
   | (with_reducible exact LeO.refl _)
   | (with_reducible exact LeO.none _)
   | (with_reducible refine LeO.ite ?_ ?_)
   | (with_reducible refine LeO.bind ?_ (fun _ => ?_))
   | exact ih0 _ _ _ _ _
   | exact ih1 _ _ _ _ _
   | exact jobshellref07_Expansion.mono _ _ _
   | exact jobshellref07_backquoted.mono _ _ _
   | exact jobshellref07_double.mono _ _ _
   | exact jobshellref07_expansion.mono _ _ _ _
   | exact jobshellref07_single.mono _ _ _
   | exact LeO.none _
   | refine LeO.ite ?_ ?_
   | refine LeO.bind ?_ (fun _ => ?_)
theorem jobshellref07_PassB.mono [ScanC] : ∀ a0 a1 a2 k, LeO (jobshellref07_PassB.f k a0 a1 a2) (jobshellref07_PassB.f (k + 1) a0 a1 a2) := by
 intro a0 a1 a2 k
 obtain ⟨ih0, ih1⟩ := jobshellref07_PassB.mono_l k
 unfold jobshellref07_PassB.f
 repeat' first
   | (with_reducible exact ih0 _ _ _ _ _)
   | (with_reducible exact ih1 _ _ _ _ _)
   | (with_reducible exact jobshellref07_Expansion.mono _ _ _)
   | (with_reducible exact jobshellref07_backquoted.mono _ _ _)
   | (with_reducible exact jobshellref07_double.mono _ _ _)
   | (with_reducible exact jobshellref07_expansion.mono _ _ _ _)
   | (with_reducible exact jobshellref07_single.mono _ _ _)
   | (with_reducible exact LeO.refl _)
   | (with_reducible exact LeO.none _)
   | (with_reducible refine LeO.ite ?_ ?_)
   | (with_reducible refine LeO.bind ?_ (fun _ => ?_))
   | exact ih0 _ _ _ _ _
   | exact ih1 _ _ _ _ _
   | exact jobshellref07_Expansion.mono _ _ _
   | exact jobshellref07_backquoted.mono _ _ _
   | exact jobshellref07_double.mono _ _ _
   | exact jobshellref07_expansion.mono _ _ _ _
   | exact jobshellref07_single.mono _ _ _
   | exact LeO.none _
   | refine LeO.ite ?_ ?_
   | refine LeO.bind ?_ (fun _ => ?_)
set_option maxHeartbeats 3000000 in
set_option maxRecDepth 100000 in
theorem jobshellref07_PassB.calls [ScanC] (k : Nat) (a0 : ByteArray) (a1 : Int) (a2 : Int) (r1 : Int) (r2 : Int) (w : World) (h : jobshellref07_PassB.f k a0 a1 a2 = some (r1, r2)) :
  Calls Try.prog 39 #[.string a0, .int .i64 a1, .int .i64 a2] w fun e w' => e = .returned (.tuple #[.int .i64 r1, .int .i64 r2]) ∧ Drawn0 w w' := by
 have H : (if 0 ≤ a1 then (if a1 < (a0.size : Int) then (if (bt a0 a1) = 92 then (jobshellref07_PassB.j0 k a0 a1 a2 (bt a0 a1) ((wrap64 (a1 + 1)) == (a0.size : Int))) else (jobshellref07_PassB.j0 k a0 a1 a2 (bt a0 a1) false)) else (none)) else (none)) = some (r1, r2) := h
 clear h
 by_cases c4 : 0 ≤ a1
 ·rw [if_pos c4] at H
  have c4b0 : decide (0 ≤ a1) = true := decide_eq_true c4
  clear c4
  by_cases c5 : a1 < (a0.size : Int)
  ·rw [if_pos c5] at H
   have c5b0 : decide (a1 < (a0.size : Int)) = true := decide_eq_true c5
   clear c5
   have HC7 := Aside0.mk H
   clear H
   have p6 : 0 ≤ (a1 : Int) := of_decide_eq_true (by first | (with_reducible assumption) | assumption)
   have q6 : a1 < (a0.size : Int) := of_decide_eq_true (by first | (with_reducible assumption) | assumption)
   have hx6 := bt_at a0 a1
   replace p6 := eq_true p6
   replace q6 := eq_true q6
   go_enter Try.func39, Try.ntmps39
   go_upto_region 2 with (fail)
   go_cut [12] (fun v12 wc => ∃ (kq : Nat) (x12_6 : Bool), v12 = .bool x12_6 ∧ Aside0 (jobshellref07_PassB.j0 kq a0 a1 a2 (bt a0 a1) x12_6 = some (r1, r2)) ∧ Aside0 (kq ≤ k) ∧ Drawn0 w wc)
   case first =>
    have H := HC7.out
    clear HC7
    by_cases c8 : (bt a0 a1) = 92
    ·rw [if_pos c8] at H
     have c8b0 : ((bt a0 a1) == 92) = true := beq_iff_eq.mpr c8
     have c8b1 : ((bt a0 a1) != 92) = false := bne_eq_false_iff_eq.mpr c8
     clear c8
     (first | rw [c8b0] | (simp only [i64_w, i32_w]; rw [c8b0]) | skip)
     have H' := Aside0.mk H
     clear H
     go_wp2
     go_meet
     case rel => exact ⟨_, (((wrap64 (a1 + 1)) == (a0.size : Int))), (by first | rfl | (simp; done) | (simp [*]; done)), H', ⟨by first | omega | exact Nat.le_refl _⟩, by repeat (first | exact Drawn0.refl _ | apply Drawn0.step)⟩
    ·rw [if_neg c8] at H
     have c8b0 : ((bt a0 a1) == 92) = false := beq_eq_false_iff_ne.mpr c8
     have c8b1 : ((bt a0 a1) != 92) = true := bne_iff_ne.mpr c8
     (first | rw [c8b0] | (simp only [i64_w, i32_w]; rw [c8b0]) | skip)
     have H' := Aside0.mk H
     clear H
     go_wp2
     go_meet
     case rel => exact ⟨_, (false), (by first | rfl | (simp; done) | (simp [*]; done)), H', ⟨by first | omega | exact Nat.le_refl _⟩, by repeat (first | exact Drawn0.refl _ | apply Drawn0.step)⟩
   case rest =>
    clear HC7
    try clear p2
    try clear c3
    try clear c4
    try clear c4b0
    try clear c5
    try clear c5b0
    try clear p6
    try clear q6
    try clear hx6
    try clear c8
    try clear c8b0
    try clear c8b1
    try clear p6
    try clear q6
    obtain ⟨kq, x12_6, rfl, HA, HJ6, ⟨mc6, rfl⟩⟩ := hcut
    cases kq with
    | zero => exact absurd HA.out (by simp [jobshellref07_PassB.j0])
    | succ kj6 =>
     have H := HA.out
     clear HA
     simp only [jobshellref07_PassB.j0] at H
     by_cases c9 : x12_6 = true
     ·subst c9
      have H1 : (some (a1, 7)) = some (r1, r2) := by rw [if_pos rfl] at H; exact H
      clear H
      have H := H1
      clear H1
      simp only [Option.some.injEq, Prod.mk.injEq] at H
      obtain ⟨rfl, rfl⟩ := H
      go_wp2
      go_ret2
      exact ⟨by first | rfl | (simp; done) | (simp [*]; done), by repeat (first | exact Drawn0.refl _ | apply Drawn0.step)⟩
     ·replace c9 := Bool.eq_false_iff.mpr c9
      subst c9
      have H1 : (if (bt a0 a1) = 92 then (some (wrap64 (a1 + 2), 0)) else (if (bt a0 a1) = 96 then ((jobshellref07_backquoted.f kj6 a0 a1).bind fun bt184 => (some (bt184.1, bt184.2))) else ((jobshellref07_Expansion.f kj6 a0 a1).bind fun t186 => (if t186 = true then ((jobshellref07_expansion.f kj6 a0 a1 a2).bind fun bt187 => (some (bt187.1, bt187.2))) else (if (bt a0 a1) = 39 then (jobshellref07_PassB.j1 kj6 a0 a1 a2 (bt a0 a1) (a2 == 0)) else (jobshellref07_PassB.j1 kj6 a0 a1 a2 (bt a0 a1) false)))))) = some (r1, r2) := by rw [if_neg (show ¬ (false = true) by decide)] at H; exact H
      clear H
      have H := H1
      clear H1
      by_cases c10 : (bt a0 a1) = 92
      ·rw [if_pos c10] at H
       have c10b0 : ((bt a0 a1) == 92) = true := beq_iff_eq.mpr c10
       have c10b1 : ((bt a0 a1) != 92) = false := bne_eq_false_iff_eq.mpr c10
       clear c10
       simp only [Option.some.injEq, Prod.mk.injEq] at H
       obtain ⟨rfl, rfl⟩ := H
       go_wp2
       go_ret2
       exact ⟨by first | rfl | (simp; done) | (simp [*]; done), by repeat (first | exact Drawn0.refl _ | apply Drawn0.step)⟩
      ·rw [if_neg c10] at H
       have c10b0 : ((bt a0 a1) == 92) = false := beq_eq_false_iff_ne.mpr c10
       have c10b1 : ((bt a0 a1) != 92) = true := bne_iff_ne.mpr c10
       by_cases c11 : (bt a0 a1) = 96
       ·rw [if_pos c11] at H
        have c11b0 : ((bt a0 a1) == 96) = true := beq_iff_eq.mpr c11
        have c11b1 : ((bt a0 a1) != 96) = false := bne_eq_false_iff_eq.mpr c11
        clear c11
        replace H := Option.bind_eq_some_iff.mp H
        obtain ⟨⟨t184, t185⟩, A120, H⟩ := H
        replace H : (some (t184, t185)) = some (r1, r2) := H
        have A12 := Aside0.mk A120
        clear A120
        simp only [Option.some.injEq, Prod.mk.injEq] at H
        obtain ⟨rfl, rfl⟩ := H
        go_wp2_with (first | ((with_reducible refine gate_callee (f := 58) rfl ?_); refine goesL_ (some 33) rfl rfl Try.func58 (by kernel_rfl) rfl #[.string a0, .int .i64 a1] rfl (by (try simp only [List.map_toArray, List.map_cons, List.map_nil]); first | done | rfl | (simp only [List.length_drop, List.length_take]; rfl)) ?_; (with_reducible refine (jobshellref07_backquoted.calls kj6 a0 a1 t184 t185 _ A12.out).mono ?_); rintro e w' ⟨rfl, ⟨nd, rfl⟩⟩; refine ⟨_, rfl, ?_⟩))
        go_ret2
        exact ⟨by first | rfl | (simp; done) | (simp [*]; done), by repeat (first | exact Drawn0.refl _ | apply Drawn0.step)⟩
       ·rw [if_neg c11] at H
        have c11b0 : ((bt a0 a1) == 96) = false := beq_eq_false_iff_ne.mpr c11
        have c11b1 : ((bt a0 a1) != 96) = true := bne_iff_ne.mpr c11
        replace H := Option.bind_eq_some_iff.mp H
        obtain ⟨t186, A130, H⟩ := H
        replace H : (if t186 = true then ((jobshellref07_expansion.f kj6 a0 a1 a2).bind fun bt187 => (some (bt187.1, bt187.2))) else (if (bt a0 a1) = 39 then (jobshellref07_PassB.j1 kj6 a0 a1 a2 (bt a0 a1) (a2 == 0)) else (jobshellref07_PassB.j1 kj6 a0 a1 a2 (bt a0 a1) false))) = some (r1, r2) := H
        have A13 := Aside0.mk A130
        clear A130
        by_cases c14 : t186 = true
        ·subst c14
         have H1 : ((jobshellref07_expansion.f kj6 a0 a1 a2).bind fun bt187 => (some (bt187.1, bt187.2))) = some (r1, r2) := by rw [if_pos rfl] at H; exact H
         clear H
         have H := H1
         clear H1
         replace H := Option.bind_eq_some_iff.mp H
         obtain ⟨⟨t187, t188⟩, A150, H⟩ := H
         replace H : (some (t187, t188)) = some (r1, r2) := H
         have A15 := Aside0.mk A150
         clear A150
         simp only [Option.some.injEq, Prod.mk.injEq] at H
         obtain ⟨rfl, rfl⟩ := H
         go_wp2_with (first | ((with_reducible refine gate_callee (f := 38) rfl ?_); refine goesL_ (some 39) rfl rfl Try.func38 (by kernel_rfl) rfl #[.string a0, .int .i64 a1] rfl (by (try simp only [List.map_toArray, List.map_cons, List.map_nil]); first | done | rfl | (simp only [List.length_drop, List.length_take]; rfl)) ?_; (with_reducible refine (jobshellref07_Expansion.calls kj6 a0 a1 true _ A13.out).mono ?_); rintro e w' ⟨rfl, ⟨nd, rfl⟩⟩; refine ⟨_, rfl, ?_⟩) | ((with_reducible refine gate_callee (f := 59) rfl ?_); refine goesL_ (some 43) rfl rfl Try.func59 (by kernel_rfl) rfl #[.string a0, .int .i64 a1, .int .i64 a2] rfl (by (try simp only [List.map_toArray, List.map_cons, List.map_nil]); first | done | rfl | (simp only [List.length_drop, List.length_take]; rfl)) ?_; (with_reducible refine (jobshellref07_expansion.calls kj6 a0 a1 a2 t187 t188 _ A15.out).mono ?_); rintro e w' ⟨rfl, ⟨nd, rfl⟩⟩; refine ⟨_, rfl, ?_⟩))
         go_ret2
         exact ⟨by first | rfl | (simp; done) | (simp [*]; done), by repeat (first | exact Drawn0.refl _ | apply Drawn0.step)⟩
        ·replace c14 := Bool.eq_false_iff.mpr c14
         subst c14
         have H1 : (if (bt a0 a1) = 39 then (jobshellref07_PassB.j1 kj6 a0 a1 a2 (bt a0 a1) (a2 == 0)) else (jobshellref07_PassB.j1 kj6 a0 a1 a2 (bt a0 a1) false)) = some (r1, r2) := by rw [if_neg (show ¬ (false = true) by decide)] at H; exact H
         clear H
         have H := H1
         clear H1
         have HC16 := Aside0.mk H
         clear H
         go_upto_region 10 with (first | ((with_reducible refine gate_callee (f := 38) rfl ?_); refine goesL_ (some 39) rfl rfl Try.func38 (by kernel_rfl) rfl #[.string a0, .int .i64 a1] rfl (by (try simp only [List.map_toArray, List.map_cons, List.map_nil]); first | done | rfl | (simp only [List.length_drop, List.length_take]; rfl)) ?_; (with_reducible refine (jobshellref07_Expansion.calls kj6 a0 a1 false _ A13.out).mono ?_); rintro e w' ⟨rfl, ⟨nd, rfl⟩⟩; refine ⟨_, rfl, ?_⟩))
         (try simp only [Act.put, List.setIfInBounds_toArray, List.set_cons_zero, List.set_cons_succ])
         go_cut [46] (fun v46 wc => ∃ (kq : Nat) (x46_15 : Bool), v46 = .bool x46_15 ∧ Aside0 (jobshellref07_PassB.j1 kq a0 a1 a2 (bt a0 a1) x46_15 = some (r1, r2)) ∧ Aside0 (kq ≤ kj6) ∧ Drawn0 w wc)
         case first =>
          have H := HC16.out
          clear HC16
          by_cases c17 : (bt a0 a1) = 39
          ·rw [if_pos c17] at H
           have c17b0 : ((bt a0 a1) == 39) = true := beq_iff_eq.mpr c17
           have c17b1 : ((bt a0 a1) != 39) = false := bne_eq_false_iff_eq.mpr c17
           clear c17
           (first | rw [c17b0] | (simp only [i64_w, i32_w]; rw [c17b0]) | skip)
           have H' := Aside0.mk H
           clear H
           go_wp2
           go_meet
           case rel => exact ⟨_, ((a2 == 0)), (by first | rfl | (simp; done) | (simp [*]; done)), H', ⟨by have := HJ6.out; first | omega | exact Nat.le_refl _⟩, by repeat (first | exact Drawn0.refl _ | apply Drawn0.step)⟩
          ·rw [if_neg c17] at H
           have c17b0 : ((bt a0 a1) == 39) = false := beq_eq_false_iff_ne.mpr c17
           have c17b1 : ((bt a0 a1) != 39) = true := bne_iff_ne.mpr c17
           (first | rw [c17b0] | (simp only [i64_w, i32_w]; rw [c17b0]) | skip)
           have H' := Aside0.mk H
           clear H
           go_wp2
           go_meet
           case rel => exact ⟨_, (false), (by first | rfl | (simp; done) | (simp [*]; done)), H', ⟨by have := HJ6.out; first | omega | exact Nat.le_refl _⟩, by repeat (first | exact Drawn0.refl _ | apply Drawn0.step)⟩
         case rest =>
          clear HC16
          try clear c1
          try clear p2
          try clear c3
          try clear c4
          try clear c4b0
          try clear c5
          try clear c5b0
          try clear c6
          try clear p6
          try clear q6
          try clear hx6
          try clear c8
          try clear c8b0
          try clear c8b1
          try clear c9
          try clear c10
          try clear c10b0
          try clear c10b1
          try clear c11
          try clear c11b0
          try clear c11b1
          try clear c14
          try clear c17
          try clear c17b0
          try clear c17b1
          try clear p2
          try clear p6
          try clear q6
          obtain ⟨kq, x46_15, rfl, HA, HJ15, ⟨mc15, rfl⟩⟩ := hcut
          cases kq with
          | zero => exact absurd HA.out (by simp [jobshellref07_PassB.j1])
          | succ kj15 =>
           have H := HA.out
           clear HA
           simp only [jobshellref07_PassB.j1] at H
           by_cases c18 : x46_15 = true
           ·subst c18
            have H1 : ((jobshellref07_single.f kj15 a0 a1).bind fun bt189 => (some (bt189.1, bt189.2))) = some (r1, r2) := by rw [if_pos rfl] at H; exact H
            clear H
            have H := H1
            clear H1
            replace H := Option.bind_eq_some_iff.mp H
            obtain ⟨⟨t189, t190⟩, A190, H⟩ := H
            replace H : (some (t189, t190)) = some (r1, r2) := H
            have A19 := Aside0.mk A190
            clear A190
            simp only [Option.some.injEq, Prod.mk.injEq] at H
            obtain ⟨rfl, rfl⟩ := H
            go_wp2_with (first | ((with_reducible refine gate_callee (f := 60) rfl ?_); refine goesL_ (some 55) rfl rfl Try.func60 (by kernel_rfl) rfl #[.string a0, .int .i64 a1] rfl (by (try simp only [List.map_toArray, List.map_cons, List.map_nil]); first | done | rfl | (simp only [List.length_drop, List.length_take]; rfl)) ?_; (with_reducible refine (jobshellref07_single.calls kj15 a0 a1 t189 t190 _ A19.out).mono ?_); rintro e w' ⟨rfl, ⟨nd, rfl⟩⟩; refine ⟨_, rfl, ?_⟩))
            go_ret2
            exact ⟨by first | rfl | (simp; done) | (simp [*]; done), by repeat (first | exact Drawn0.refl _ | apply Drawn0.step)⟩
           ·replace c18 := Bool.eq_false_iff.mpr c18
            subst c18
            have H1 : (if (bt a0 a1) = 34 then (if a2 = 0 then ((jobshellref07_double.f kj15 a0 a1).bind fun bt191 => (some (bt191.1, bt191.2))) else (some (wrap64 (a1 + 1), 0))) else (some (wrap64 (a1 + 1), 0))) = some (r1, r2) := by rw [if_neg (show ¬ (false = true) by decide)] at H; exact H
            clear H
            have H := H1
            clear H1
            by_cases c20 : (bt a0 a1) = 34
            ·rw [if_pos c20] at H
             have c20b0 : ((bt a0 a1) == 34) = true := beq_iff_eq.mpr c20
             have c20b1 : ((bt a0 a1) != 34) = false := bne_eq_false_iff_eq.mpr c20
             clear c20
             by_cases c21 : a2 = 0
             ·rw [if_pos c21] at H
              have c21b0 : (a2 == 0) = true := beq_iff_eq.mpr c21
              have c21b1 : (a2 != 0) = false := bne_eq_false_iff_eq.mpr c21
              clear c21
              replace H := Option.bind_eq_some_iff.mp H
              obtain ⟨⟨t191, t192⟩, A220, H⟩ := H
              replace H : (some (t191, t192)) = some (r1, r2) := H
              have A22 := Aside0.mk A220
              clear A220
              simp only [Option.some.injEq, Prod.mk.injEq] at H
              obtain ⟨rfl, rfl⟩ := H
              go_wp2_with (first | ((with_reducible refine gate_callee (f := 61) rfl ?_); refine goesL_ (some 67) rfl rfl Try.func61 (by kernel_rfl) rfl #[.string a0, .int .i64 a1] rfl (by (try simp only [List.map_toArray, List.map_cons, List.map_nil]); first | done | rfl | (simp only [List.length_drop, List.length_take]; rfl)) ?_; (with_reducible refine (jobshellref07_double.calls kj15 a0 a1 t191 t192 _ A22.out).mono ?_); rintro e w' ⟨rfl, ⟨nd, rfl⟩⟩; refine ⟨_, rfl, ?_⟩))
              go_ret2
              exact ⟨by first | rfl | (simp; done) | (simp [*]; done), by repeat (first | exact Drawn0.refl _ | apply Drawn0.step)⟩
             ·rw [if_neg c21] at H
              have c21b0 : (a2 == 0) = false := beq_eq_false_iff_ne.mpr c21
              have c21b1 : (a2 != 0) = true := bne_iff_ne.mpr c21
              simp only [Option.some.injEq, Prod.mk.injEq] at H
              obtain ⟨rfl, rfl⟩ := H
              go_wp2
              go_ret2
              exact ⟨by first | rfl | (simp; done) | (simp [*]; done), by repeat (first | exact Drawn0.refl _ | apply Drawn0.step)⟩
            ·rw [if_neg c20] at H
             have c20b0 : ((bt a0 a1) == 34) = false := beq_eq_false_iff_ne.mpr c20
             have c20b1 : ((bt a0 a1) != 34) = true := bne_iff_ne.mpr c20
             simp only [Option.some.injEq, Prod.mk.injEq] at H
             obtain ⟨rfl, rfl⟩ := H
             go_wp2
             go_ret2
             exact ⟨by first | rfl | (simp; done) | (simp [*]; done), by repeat (first | exact Drawn0.refl _ | apply Drawn0.step)⟩
  ·rw [if_neg c5] at H
   exact absurd H (by simp)
 ·rw [if_neg c4] at H
  exact absurd H (by simp)

end Go.Proofs.Ythoanbjklgoggaa.PAll
