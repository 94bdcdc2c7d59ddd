-- Written for this claim by a program of the session (wip/ext).
import Derived.Test.YthoanbjklgoggaaPAllx0
import Derived.Test.YthoanbjklgoggaaPAllx10
import Derived.Test.YthoanbjklgoggaaPAllx11
import Derived.Test.YthoanbjklgoggaaPAllx26
namespace Go.Proofs.Ythoanbjklgoggaa.PAll
open Go.RowKit Go.Proofs.YthoanbjklgoggaaW.PrintWords Go.Proofs.YthoanbjklgoggaaW.PrintLast Go.Proofs.YthoanbjklgoggaaW.PrintMore
attribute [local go_sem] max2_int min2_int max_two min_two max_three min_three max_four min_four   -- for this text's walks alone
set_option linter.unusedVariables false
set_option linter.unusedSimpArgs false

/-! ### jobshelllaw07_LexerLines: function 10 -/
mutual
def jobshelllaw07_LexerLines.j0 [ScanC] : Nat → ByteArray → ByteArray → Bool → Option (Bool)
 | 0, _, _, _ => none
 | k + 1, x0, x1, x24 => if x24 = true then ((jobshelllaw07_awake.f k).bind fun t387 => (some t387)) else ((lexer_All.f k x0).bind fun bt388 => ((lexer_All.f k x1).bind fun bt393 => (if bt388.2.2 = 0 then (if bt393.2.2 = 0 then (jobshelllaw07_LexerLines.j1 k x0 x1 bt388.1 bt388.2.2 bt393.1 bt393.2.2 ((bt388.1.length : Int) == 0)) else (jobshelllaw07_LexerLines.j1 k x0 x1 bt388.1 bt388.2.2 bt393.1 bt393.2.2 true)) else (jobshelllaw07_LexerLines.j1 k x0 x1 bt388.1 bt388.2.2 bt393.1 bt393.2.2 true))))
def jobshelllaw07_LexerLines.j1 [ScanC] : Nat → ByteArray → ByteArray → List (S32) → Int → List (S32) → Int → Bool → Option (Bool)
 | 0, _, _, _, _, _, _, _ => none
 | k + 1, x0, x1, x5, x7, x8, x10, x48 => if x48 = true then (if x7 = 0 then (if x10 = 0 then (some false) else ((jobshelllaw07_awake.f k).bind fun t398 => (some t398))) else ((jobshelllaw07_awake.f k).bind fun t399 => (some t399))) else (if x0.size + 1 ≤ 9223372036854775807 then (if x0.size + 1 + x1.size ≤ 9223372036854775807 then ((lexer_All.f k ((x0 ++ (⟨#[10]⟩ : ByteArray)) ++ x1)).bind fun bt400 => (if 0 ≤ (wrap64 ((x5.length : Int) - 1)) then (if (wrap64 ((x5.length : Int) - 1)) ≤ (x5.length : Int) then ((some (x5.take ((wrap64 ((x5.length : Int) - 1)) : Int).toNat : List (S32))).bind fun y405 => (if ([] : List (S32)).length + y405.length < 3518437208883 then ((some (([] : List (S32)) ++ y405 : List (S32))).bind fun y409 => (if y409.length < 3518437208883 then (jobshelllaw07_LexerLines.l0 k x0 x8 bt400.1 bt400.2.2 (y409 ++ [(⟨3, (x0.size : Int), wrap64 ((x0.size : Int) + 1), (⟨#[10]⟩ : ByteArray)⟩ : S32)]) 0) else (none))) else (none))) else (none)) else (none))) else (none)) else (none))
def jobshelllaw07_LexerLines.l0 [ScanC] : Nat → ByteArray → List (S32) → List (S32) → Int → List (S32) → Int → Option (Bool)
 | 0, _, _, _, _, _, _ => none
 | k + 1, x0, x8, x11, x13, x14, x15 => if x15 < (x8.length : Int) then (if 0 ≤ x15 then (if x14.length < 3518437208883 then (jobshelllaw07_LexerLines.l0 k x0 x8 x11 x13 (x14 ++ [(⟨(rd_T32 x8 x15).f0, wrap64 ((wrap64 (((rd_T32 x8 x15).f1) + (x0.size : Int))) + 1), wrap64 ((wrap64 (((rd_T32 x8 x15).f2) + (x0.size : Int))) + 1), (rd_T32 x8 x15).f3⟩ : S32)]) (wrap64 (x15 + 1))) else (none)) else (none)) else (if x13 = 0 then ((jobshellref07_Same.f k x11 x14).bind fun t420 => (if t420 = true then ((jobshelllaw07_awake.f k).bind fun t421 => (some t421)) else (some false))) else (some false))
end
def jobshelllaw07_LexerLines.f [ScanC] (k : Nat) (a0 : ByteArray) (a1 : ByteArray) : Option (Bool) := if (a0.size : Int) > 1000 then (jobshelllaw07_LexerLines.j0 k a0 a1 true) else (jobshelllaw07_LexerLines.j0 k a0 a1 (decide ((a1.size : Int) > 1000)))
theorem jobshelllaw07_LexerLines.mono_l [ScanC] : ∀ k, (∀ y0 y1 y2, LeO (jobshelllaw07_LexerLines.j0 k y0 y1 y2) (jobshelllaw07_LexerLines.j0 (k + 1) y0 y1 y2)) ∧ (∀ y0 y1 y2 y3 y4 y5 y6, LeO (jobshelllaw07_LexerLines.j1 k y0 y1 y2 y3 y4 y5 y6) (jobshelllaw07_LexerLines.j1 (k + 1) y0 y1 y2 y3 y4 y5 y6)) ∧ (∀ y0 y1 y2 y3 y4 y5, LeO (jobshelllaw07_LexerLines.l0 k y0 y1 y2 y3 y4 y5) (jobshelllaw07_LexerLines.l0 (k + 1) y0 y1 y2 y3 y4 y5))
 | 0 => ⟨fun _ _ _ r h => by simp [jobshelllaw07_LexerLines.j0] at h, fun _ _ _ _ _ _ _ r h => by simp [jobshelllaw07_LexerLines.j1] at h, fun _ _ _ _ _ _ r h => by simp [jobshelllaw07_LexerLines.l0] at h⟩
 | k + 1 => by
  obtain ⟨ih0, ih1, ih2⟩ := jobshelllaw07_LexerLines.mono_l k
  refine ⟨?_, ?_, ?_⟩
  ·intro y0 y1 y2
   unfold jobshelllaw07_LexerLines.j0
   repeat' first
   | (with_reducible exact ih0 _ _ _)
   | (with_reducible exact ih1 _ _ _ _ _ _ _)
   | (with_reducible exact ih2 _ _ _ _ _ _)
   | (with_reducible exact jobshelllaw07_awake.mono _)
   | (with_reducible exact jobshellref07_Same.mono _ _ _)
   | (with_reducible exact lexer_All.mono _ _)
   | (with_reducible exact LeO.refl _)
   | (with_reducible exact LeO.none _)
   | (with_reducible refine LeO.ite ?_ ?_)
   | (with_reducible refine LeO.bind ?_ (fun _ => ?_))
   | exact ih0 _ _ _
   | exact ih1 _ _ _ _ _ _ _
   | exact ih2 _ _ _ _ _ _
   | exact jobshelllaw07_awake.mono _
   | exact jobshellref07_Same.mono _ _ _
   | exact lexer_All.mono _ _
   | exact LeO.none _
   | refine LeO.ite ?_ ?_
   | refine LeO.bind ?_ (fun _ => ?_)
  ·intro y0 y1 y2 y3 y4 y5 y6
   unfold jobshelllaw07_LexerLines.j1
   repeat' first
   | (with_reducible exact ih0 _ _ _)
   | (with_reducible exact ih1 _ _ _ _ _ _ _)
   | (with_reducible exact ih2 _ _ _ _ _ _)
   | (with_reducible exact jobshelllaw07_awake.mono _)
   | (with_reducible exact jobshellref07_Same.mono _ _ _)
   | (with_reducible exact lexer_All.mono _ _)
   | (with_reducible exact LeO.refl _)
   | (with_reducible exact LeO.none _)
   | (with_reducible refine LeO.ite ?_ ?_)
   | (with_reducible refine LeO.bind ?_ (fun _ => ?_))
   | exact ih0 _ _ _
   | exact ih1 _ _ _ _ _ _ _
   | exact ih2 _ _ _ _ _ _
   | exact jobshelllaw07_awake.mono _
   | exact jobshellref07_Same.mono _ _ _
   | exact lexer_All.mono _ _
   | exact LeO.none _
   | refine LeO.ite ?_ ?_
   | refine LeO.bind ?_ (fun _ => ?_)
  ·intro y0 y1 y2 y3 y4 y5
   unfold jobshelllaw07_LexerLines.l0
   repeat' first
   | (with_reducible exact ih0 _ _ _)
   | (with_reducible exact ih1 _ _ _ _ _ _ _)
   | (with_reducible exact ih2 _ _ _ _ _ _)
   | (with_reducible exact jobshelllaw07_awake.mono _)
   | (with_reducible exact jobshellref07_Same.mono _ _ _)
   | (with_reducible exact lexer_All.mono _ _)
   | (with_reducible exact LeO.refl _)
   | (with_reducible exact LeO.none _)
   | (with_reducible refine LeO.ite ?_ ?_)
   | (with_reducible refine LeO.bind ?_ (fun _ => ?_))
   | exact ih0 _ _ _
   | exact ih1 _ _ _ _ _ _ _
   | exact ih2 _ _ _ _ _ _
   | exact jobshelllaw07_awake.mono _
   | exact jobshellref07_Same.mono _ _ _
   | exact lexer_All.mono _ _
   | exact LeO.none _
   | refine LeO.ite ?_ ?_
   | refine LeO.bind ?_ (fun _ => ?_)
theorem jobshelllaw07_LexerLines.mono [ScanC] : ∀ a0 a1 k, LeO (jobshelllaw07_LexerLines.f k a0 a1) (jobshelllaw07_LexerLines.f (k + 1) a0 a1) := by
 intro a0 a1 k
 obtain ⟨ih0, ih1, ih2⟩ := jobshelllaw07_LexerLines.mono_l k
 unfold jobshelllaw07_LexerLines.f
 repeat' first
   | (with_reducible exact ih0 _ _ _)
   | (with_reducible exact ih1 _ _ _ _ _ _ _)
   | (with_reducible exact ih2 _ _ _ _ _ _)
   | (with_reducible exact jobshelllaw07_awake.mono _)
   | (with_reducible exact jobshellref07_Same.mono _ _ _)
   | (with_reducible exact lexer_All.mono _ _)
   | (with_reducible exact LeO.refl _)
   | (with_reducible exact LeO.none _)
   | (with_reducible refine LeO.ite ?_ ?_)
   | (with_reducible refine LeO.bind ?_ (fun _ => ?_))
   | exact ih0 _ _ _
   | exact ih1 _ _ _ _ _ _ _
   | exact ih2 _ _ _ _ _ _
   | exact jobshelllaw07_awake.mono _
   | exact jobshellref07_Same.mono _ _ _
   | exact lexer_All.mono _ _
   | exact LeO.none _
   | refine LeO.ite ?_ ?_
   | refine LeO.bind ?_ (fun _ => ?_)
set_option maxHeartbeats 3000000 in
set_option maxRecDepth 100000 in
theorem jobshelllaw07_LexerLines.calls [ScanC] (k : Nat) (a0 : ByteArray) (a1 : ByteArray) (r : Bool) (w : World) (h : jobshelllaw07_LexerLines.f k a0 a1 = some r) :
  Calls Try.prog 10 #[.string a0, .string a1] w fun e w' => e = .returned (.bool r) ∧ Below w.heap.size w w' := by
 have hu32 := Try.underlying32
 have HB := Aside0.mk (Below.refl w.heap.size w)
 have H : (if (a0.size : Int) > 1000 then (jobshelllaw07_LexerLines.j0 k a0 a1 true) else (jobshelllaw07_LexerLines.j0 k a0 a1 (decide ((a1.size : Int) > 1000)))) = some r := h
 clear h
 have HC3 := Aside0.mk H
 clear H
 go_enter Try.func10, Try.ntmps10
 go_upto_region 1 with (fail)
 go_cut [24] (fun v24 wc => ∃ (kq : Nat) (x24_2 : Bool), v24 = .bool x24_2 ∧ Aside0 (jobshelllaw07_LexerLines.j0 kq a0 a1 x24_2 = some r) ∧ Aside0 (kq ≤ k) ∧ Aside0 (Below w.heap.size w wc))
 case first =>
  have H := HC3.out
  clear HC3
  by_cases c4 : (a0.size : Int) > 1000
  ·rw [if_pos c4] at H
   have c4b0 : decide (1000 < (a0.size : Int)) = true := decide_eq_true c4
   have c4b1 : decide (1000 < a0.size) = true := decide_eq_true (by omega)
   clear c4
   (first | rw [c4b0] | (simp only [i64_w, i32_w]; rw [c4b0]) | skip)
   have H' := Aside0.mk H
   clear H
   go_wp2
   go_meet
   case rel => exact ⟨_, (true), (by first | rfl | (simp; done) | (simp [*]; done)), H', ⟨by first | omega | exact Nat.le_refl _⟩, ⟨by repeat (first | (with_reducible first | exact HB.out | apply below_alloc | apply pw_below_drewN | apply below_drew1) | exact HB.out)⟩⟩
  ·rw [if_neg c4] at H
   have c4b0 : decide (1000 < (a0.size : Int)) = false := decide_eq_false c4
   have c4b1 : decide (1000 < a0.size) = false := decide_eq_false (by omega)
   clear c4
   (first | rw [c4b0] | (simp only [i64_w, i32_w]; rw [c4b0]) | skip)
   have H' := Aside0.mk H
   clear H
   go_wp2
   go_meet
   case rel => exact ⟨_, (decide ((a1.size : Int) > 1000)), (by first | rfl | (simp; done) | (simp [*]; done)), H', ⟨by first | omega | exact Nat.le_refl _⟩, ⟨by repeat (first | (with_reducible first | exact HB.out | apply below_alloc | apply pw_below_drewN | apply below_drew1) | exact HB.out)⟩⟩
 case rest =>
  clear HC3
  try clear c1
  try clear p2
  try clear c4
  try clear c4b0
  try clear c4b1
  obtain ⟨kq, x24_2, rfl, HA, HJ2, HB⟩ := hcut
  cases kq with
  | zero => exact absurd HA.out (by simp [jobshelllaw07_LexerLines.j0])
  | succ kj2 =>
   have H := HA.out
   clear HA
   simp only [jobshelllaw07_LexerLines.j0] at H
   by_cases c5 : x24_2 = true
   ·subst c5
    have H1 : ((jobshelllaw07_awake.f kj2).bind fun t387 => (some t387)) = some r := by rw [if_pos rfl] at H; exact H
    clear H
    have H := H1
    clear H1
    replace H := Option.bind_eq_some_iff.mp H
    obtain ⟨t387, A60, H⟩ := H
    replace H : (some t387) = some r := H
    have A6 := Aside0.mk A60
    clear A60
    obtain rfl := Option.some.inj H
    go_wp2_with (first | ((with_reducible refine gate_callee (f := 12) rfl ?_); refine goesL_ (some 25) rfl rfl Try.func12 (by kernel_rfl) rfl #[] rfl (by (try simp only [List.map_toArray, List.map_cons, List.map_nil]); first | done | rfl | (simp only [List.length_drop, List.length_take]; rfl)) ?_; (with_reducible refine (jobshelllaw07_awake.calls kj2  t387 _ A6.out).mono ?_); rintro e w7 ⟨rfl, hb⟩; refine ⟨_, rfl, ?_⟩; have n0_ := Aside0.mk (below_step (by repeat (first | (with_reducible first | exact HB.out | apply below_alloc | apply pw_below_drewN | apply below_drew1) | exact HB.out)) hb); clear HB; have HB := n0_; clear n0_; (try clear hb); (try clear hb2); (try clear hk); (try clear hi)))
    go_ret
    exact ⟨by first | rfl | (simp [errW_none, errW_some] <;> rfl) | (simp [*, errW_none, errW_some] <;> rfl), by repeat (first | (with_reducible first | exact HB.out | apply below_alloc | apply pw_below_drewN | apply below_drew1) | exact HB.out)⟩
   ·replace c5 := Bool.eq_false_iff.mpr c5
    subst c5
    have H1 : ((lexer_All.f kj2 a0).bind fun bt388 => ((lexer_All.f kj2 a1).bind fun bt393 => (if bt388.2.2 = 0 then (if bt393.2.2 = 0 then (jobshelllaw07_LexerLines.j1 kj2 a0 a1 bt388.1 bt388.2.2 bt393.1 bt393.2.2 ((bt388.1.length : Int) == 0)) else (jobshelllaw07_LexerLines.j1 kj2 a0 a1 bt388.1 bt388.2.2 bt393.1 bt393.2.2 true)) else (jobshelllaw07_LexerLines.j1 kj2 a0 a1 bt388.1 bt388.2.2 bt393.1 bt393.2.2 true)))) = some r := by rw [if_neg (show ¬ (false = true) by decide)] at H; exact H
    clear H
    have H := H1
    clear H1
    replace H := Option.bind_eq_some_iff.mp H
    obtain ⟨⟨t388, t389, t390⟩, A80, H⟩ := H
    replace H : ((lexer_All.f kj2 a1).bind fun bt393 => (if t390 = 0 then (if bt393.2.2 = 0 then (jobshelllaw07_LexerLines.j1 kj2 a0 a1 t388 t390 bt393.1 bt393.2.2 ((t388.length : Int) == 0)) else (jobshelllaw07_LexerLines.j1 kj2 a0 a1 t388 t390 bt393.1 bt393.2.2 true)) else (jobshelllaw07_LexerLines.j1 kj2 a0 a1 t388 t390 bt393.1 bt393.2.2 true))) = some r := H
    have A8 := Aside0.mk A80
    clear A80
    replace H := Option.bind_eq_some_iff.mp H
    obtain ⟨⟨t393, t394, t395⟩, A90, H⟩ := H
    replace H : (if t390 = 0 then (if t395 = 0 then (jobshelllaw07_LexerLines.j1 kj2 a0 a1 t388 t390 t393 t395 ((t388.length : Int) == 0)) else (jobshelllaw07_LexerLines.j1 kj2 a0 a1 t388 t390 t393 t395 true)) else (jobshelllaw07_LexerLines.j1 kj2 a0 a1 t388 t390 t393 t395 true)) = some r := H
    have A9 := Aside0.mk A90
    clear A90
    have HC10 := Aside0.mk H
    clear H
    go_upto_region 5 with (first | ((with_reducible refine gate_callee (f := 23) rfl ?_); refine goesL_ (some 28) rfl rfl Try.func23 (by kernel_rfl) rfl #[.string a0] rfl (by (try simp only [List.map_toArray, List.map_cons, List.map_nil]); first | done | rfl | (simp only [List.length_drop, List.length_take]; rfl)) ?_; (with_reducible refine (lexer_All.calls kj2 a0 t388 t389 t390 _ A8.out).mono ?_); rintro e w11 ⟨v391, rfl, ho0, hb⟩; refine ⟨_, rfl, ?_⟩; have n0_ := Aside0.mk (Kd.R_lower ho0 (below_size (by repeat (first | (with_reducible first | exact HB.out | apply below_alloc | apply pw_below_drewN | apply below_drew1) | exact HB.out)))); have n1_ := Aside0.mk (below_step (by repeat (first | (with_reducible first | exact HB.out | apply below_alloc | apply pw_below_drewN | apply below_drew1) | exact HB.out)) hb); clear HB; have HO392 := n0_; have HB := n1_; clear n0_ n1_; (try clear hb); (try clear hb2); (try clear hk); (try clear hi); (try clear ho0)) | ((with_reducible refine gate_callee (f := 23) rfl ?_); refine goesL_ (some 34) rfl rfl Try.func23 (by kernel_rfl) rfl #[.string a1] rfl (by (try simp only [List.map_toArray, List.map_cons, List.map_nil]); first | done | rfl | (simp only [List.length_drop, List.length_take]; rfl)) ?_; (with_reducible refine (lexer_All.calls kj2 a1 t393 t394 t395 _ A9.out).mono ?_); rintro e w12 ⟨v396, rfl, ho0, hb⟩; refine ⟨_, rfl, ?_⟩; have n0_ := Aside0.mk (Kd.R_elder' (by (with_reducible repeat (first | apply Kd.R_alloc | apply Kd.R_drewN | apply Kd.R_drew)); exact HO392.out) (Kd.R_base ho0) hb); have n1_ := Aside0.mk (Kd.R_lower (Kd.R_new' ho0 (Kd.R_lt (by (with_reducible repeat (first | apply Kd.R_alloc | apply Kd.R_drewN | apply Kd.R_drew)); exact HO392.out))) (below_size (by repeat (first | (with_reducible first | exact HB.out | apply below_alloc | apply pw_below_drewN | apply below_drew1) | exact HB.out)))); have n2_ := Aside0.mk (below_step (by repeat (first | (with_reducible first | exact HB.out | apply below_alloc | apply pw_below_drewN | apply below_drew1) | exact HB.out)) hb); clear HO392; clear HB; have HO392 := n0_; have HO397 := n1_; have HB := n2_; clear n0_ n1_ n2_; (try clear hb); (try clear hb2); (try clear hk); (try clear hi); (try clear ho0)))
    (try simp only [Act.put, List.setIfInBounds_toArray, List.set_cons_zero, List.set_cons_succ])
    go_cut [48] (fun v48 wc => ∃ (kq : Nat) (x48_9 : Bool), v48 = .bool x48_9 ∧ Aside0 (jobshelllaw07_LexerLines.j1 kq a0 a1 t388 t390 t393 t395 x48_9 = some r) ∧ Aside0 (kq ≤ kj2) ∧ Aside0 (Kd.R k32 32 wc w.heap.size (fun k_ => some k_ ≠ (v396 : Value).ownBlock) v391 t388) ∧ Aside0 (Kd.R k32 32 wc w.heap.size (fun k_ => some k_ ≠ (v391 : Value).ownBlock) v396 t393) ∧ Aside0 (Below w.heap.size w wc))
    case first =>
     have H := HC10.out
     clear HC10
     by_cases c13 : t390 = 0
     ·rw [if_pos c13] at H
      have c13b0 : (t390 == 0) = true := beq_iff_eq.mpr c13
      have c13b1 : (t390 != 0) = false := bne_eq_false_iff_eq.mpr c13
      clear c13
      (first | rw [c13b0] | (simp only [i64_w, i32_w]; rw [c13b0]) | skip)
      by_cases c14 : t395 = 0
      ·rw [if_pos c14] at H
       have c14b0 : (t395 == 0) = true := beq_iff_eq.mpr c14
       have c14b1 : (t395 != 0) = false := bne_eq_false_iff_eq.mpr c14
       clear c14
       have H' := Aside0.mk H
       clear H
       obtain ⟨Ao15, co15, eo15⟩ := Kd.R_slice HO392.out
       subst eo15
       go_wp2
       go_meet
       case rel => exact ⟨_, (((t388.length : Int) == 0)), (by first | rfl | (simp; done) | (simp [*]; done)), H', ⟨by have := HJ2.out; first | omega | exact Nat.le_refl _⟩, ⟨by (with_reducible repeat (first | apply Kd.R_alloc | apply Kd.R_drewN | apply Kd.R_drew)); exact Kd.R_mono HO392.out (fun _ hk => hk.2)⟩, ⟨by (with_reducible repeat (first | apply Kd.R_alloc | apply Kd.R_drewN | apply Kd.R_drew)); exact Kd.R_mono HO397.out (fun _ hk => hk.2)⟩, ⟨by repeat (first | (with_reducible first | exact HB.out | apply below_alloc | apply pw_below_drewN | apply below_drew1) | exact HB.out)⟩⟩
      ·rw [if_neg c14] at H
       have c14b0 : (t395 == 0) = false := beq_eq_false_iff_ne.mpr c14
       have c14b1 : (t395 != 0) = true := bne_iff_ne.mpr c14
       have H' := Aside0.mk H
       clear H
       go_wp2
       go_meet
       case rel => exact ⟨_, (true), (by first | rfl | (simp; done) | (simp [*]; done)), H', ⟨by have := HJ2.out; first | omega | exact Nat.le_refl _⟩, ⟨by (with_reducible repeat (first | apply Kd.R_alloc | apply Kd.R_drewN | apply Kd.R_drew)); exact Kd.R_mono HO392.out (fun _ hk => hk.2)⟩, ⟨by (with_reducible repeat (first | apply Kd.R_alloc | apply Kd.R_drewN | apply Kd.R_drew)); exact Kd.R_mono HO397.out (fun _ hk => hk.2)⟩, ⟨by repeat (first | (with_reducible first | exact HB.out | apply below_alloc | apply pw_below_drewN | apply below_drew1) | exact HB.out)⟩⟩
     ·rw [if_neg c13] at H
      have c13b0 : (t390 == 0) = false := beq_eq_false_iff_ne.mpr c13
      have c13b1 : (t390 != 0) = true := bne_iff_ne.mpr c13
      (first | rw [c13b0] | (simp only [i64_w, i32_w]; rw [c13b0]) | skip)
      have H' := Aside0.mk H
      clear H
      go_wp2
      go_meet
      case rel => exact ⟨_, (true), (by first | rfl | (simp; done) | (simp [*]; done)), H', ⟨by have := HJ2.out; first | omega | exact Nat.le_refl _⟩, ⟨by (with_reducible repeat (first | apply Kd.R_alloc | apply Kd.R_drewN | apply Kd.R_drew)); exact Kd.R_mono HO392.out (fun _ hk => hk.2)⟩, ⟨by (with_reducible repeat (first | apply Kd.R_alloc | apply Kd.R_drewN | apply Kd.R_drew)); exact Kd.R_mono HO397.out (fun _ hk => hk.2)⟩, ⟨by repeat (first | (with_reducible first | exact HB.out | apply below_alloc | apply pw_below_drewN | apply below_drew1) | exact HB.out)⟩⟩
    case rest =>
     clear HC10
     try clear c1
     try clear c2
     try clear p2
     try clear c4
     try clear c4b0
     try clear c4b1
     try clear c5
     try clear c10
     try clear c12
     try clear c13
     try clear c13b0
     try clear c13b1
     try clear c14
     try clear c14b0
     try clear c14b1
     try clear p2
     obtain ⟨kq, x48_9, rfl, HA, HJ9, HO_5, HO_8, HB⟩ := hcut
     cases kq with
     | zero => exact absurd HA.out (by simp [jobshelllaw07_LexerLines.j1])
     | succ kj9 =>
      have H := HA.out
      clear HA
      simp only [jobshelllaw07_LexerLines.j1] at H
      by_cases c16 : x48_9 = true
      ·subst c16
       have H1 : (if t390 = 0 then (if t395 = 0 then (some false) else ((jobshelllaw07_awake.f kj9).bind fun t398 => (some t398))) else ((jobshelllaw07_awake.f kj9).bind fun t399 => (some t399))) = some r := by rw [if_pos rfl] at H; exact H
       clear H
       have H := H1
       clear H1
       by_cases c17 : t390 = 0
       ·rw [if_pos c17] at H
        have c17b0 : (t390 == 0) = true := beq_iff_eq.mpr c17
        have c17b1 : (t390 != 0) = false := bne_eq_false_iff_eq.mpr c17
        clear c17
        by_cases c18 : t395 = 0
        ·rw [if_pos c18] at H
         have c18b0 : (t395 == 0) = true := beq_iff_eq.mpr c18
         have c18b1 : (t395 != 0) = false := bne_eq_false_iff_eq.mpr c18
         clear c18
         obtain rfl := Option.some.inj H
         go_wp2
         go_ret
         exact ⟨by first | rfl | (simp [errW_none, errW_some] <;> rfl) | (simp [*, errW_none, errW_some] <;> rfl), by repeat (first | (with_reducible first | exact HB.out | apply below_alloc | apply pw_below_drewN | apply below_drew1) | exact HB.out)⟩
        ·rw [if_neg c18] at H
         have c18b0 : (t395 == 0) = false := beq_eq_false_iff_ne.mpr c18
         have c18b1 : (t395 != 0) = true := bne_iff_ne.mpr c18
         replace H := Option.bind_eq_some_iff.mp H
         obtain ⟨t398, A190, H⟩ := H
         replace H : (some t398) = some r := H
         have A19 := Aside0.mk A190
         clear A190
         obtain rfl := Option.some.inj H
         go_wp2_with (first | (go_at_call 12; (with_reducible refine (jobshelllaw07_awake.calls kj9  t398 _ A19.out).mono ?_); rintro e w20 ⟨rfl, hb⟩; have n0_ := Aside0.mk (Kd.R_below (by (with_reducible repeat (first | apply Kd.R_alloc | apply Kd.R_drewN | apply Kd.R_drew)); exact HO_5.out) hb); have n1_ := Aside0.mk (Kd.R_below (by (with_reducible repeat (first | apply Kd.R_alloc | apply Kd.R_drewN | apply Kd.R_drew)); exact HO_8.out) hb); have n2_ := Aside0.mk (below_step (by repeat (first | (with_reducible first | exact HB.out | apply below_alloc | apply pw_below_drewN | apply below_drew1) | exact HB.out)) hb); clear HO_5; clear HO_8; clear HB; have HO_5 := n0_; have HO_8 := n1_; have HB := n2_; clear n0_ n1_ n2_; (try clear hb); (try clear hb2); (try clear hk); (try clear hi)))
         go_ret
         exact ⟨by first | rfl | (simp [errW_none, errW_some] <;> rfl) | (simp [*, errW_none, errW_some] <;> rfl), by repeat (first | (with_reducible first | exact HB.out | apply below_alloc | apply pw_below_drewN | apply below_drew1) | exact HB.out)⟩
       ·rw [if_neg c17] at H
        have c17b0 : (t390 == 0) = false := beq_eq_false_iff_ne.mpr c17
        have c17b1 : (t390 != 0) = true := bne_iff_ne.mpr c17
        replace H := Option.bind_eq_some_iff.mp H
        obtain ⟨t399, A210, H⟩ := H
        replace H : (some t399) = some r := H
        have A21 := Aside0.mk A210
        clear A210
        obtain rfl := Option.some.inj H
        go_wp2_with (first | (go_at_call 12; (with_reducible refine (jobshelllaw07_awake.calls kj9  t399 _ A21.out).mono ?_); rintro e w22 ⟨rfl, hb⟩; have n0_ := Aside0.mk (Kd.R_below (by (with_reducible repeat (first | apply Kd.R_alloc | apply Kd.R_drewN | apply Kd.R_drew)); exact HO_5.out) hb); have n1_ := Aside0.mk (Kd.R_below (by (with_reducible repeat (first | apply Kd.R_alloc | apply Kd.R_drewN | apply Kd.R_drew)); exact HO_8.out) hb); have n2_ := Aside0.mk (below_step (by repeat (first | (with_reducible first | exact HB.out | apply below_alloc | apply pw_below_drewN | apply below_drew1) | exact HB.out)) hb); clear HO_5; clear HO_8; clear HB; have HO_5 := n0_; have HO_8 := n1_; have HB := n2_; clear n0_ n1_ n2_; (try clear hb); (try clear hb2); (try clear hk); (try clear hi)))
        go_ret
        exact ⟨by first | rfl | (simp [errW_none, errW_some] <;> rfl) | (simp [*, errW_none, errW_some] <;> rfl), by repeat (first | (with_reducible first | exact HB.out | apply below_alloc | apply pw_below_drewN | apply below_drew1) | exact HB.out)⟩
      ·replace c16 := Bool.eq_false_iff.mpr c16
       subst c16
       have H1 : (if a0.size + 1 ≤ 9223372036854775807 then (if a0.size + 1 + a1.size ≤ 9223372036854775807 then ((lexer_All.f kj9 ((a0 ++ (⟨#[10]⟩ : ByteArray)) ++ a1)).bind fun bt400 => (if 0 ≤ (wrap64 ((t388.length : Int) - 1)) then (if (wrap64 ((t388.length : Int) - 1)) ≤ (t388.length : Int) then ((some (t388.take ((wrap64 ((t388.length : Int) - 1)) : Int).toNat : List (S32))).bind fun y405 => (if ([] : List (S32)).length + y405.length < 3518437208883 then ((some (([] : List (S32)) ++ y405 : List (S32))).bind fun y409 => (if y409.length < 3518437208883 then (jobshelllaw07_LexerLines.l0 kj9 a0 t393 bt400.1 bt400.2.2 (y409 ++ [(⟨3, (a0.size : Int), wrap64 ((a0.size : Int) + 1), (⟨#[10]⟩ : ByteArray)⟩ : S32)]) 0) else (none))) else (none))) else (none)) else (none))) else (none)) else (none)) = some r := by rw [if_neg (show ¬ (false = true) by decide)] at H; exact H
       clear H
       have H := H1
       clear H1
       by_cases c23 : a0.size + 1 ≤ 9223372036854775807
       ·rw [if_pos c23] at H
        have w_nl : wrap64 ((a0.size : Int) + 1) = ((a0.size : Int) + 1) := by { unfold wrap64; omega }
        rw [w_nl] at H
        clear w_nl
        have c23b0 := eq_true c23
        have c23b1 : decide (a0.size + 1 ≤ 9223372036854775807) = true := decide_eq_true c23
        try have c23b2 : (9223372036854775807 < a0.size + 1) = False := eq_false (Nat.not_lt.2 c23)
        by_cases c24 : a0.size + 1 + a1.size ≤ 9223372036854775807
        ·rw [if_pos c24] at H
         have c24b0 := eq_true c24
         have c24b1 : decide (a0.size + 1 + a1.size ≤ 9223372036854775807) = true := decide_eq_true c24
         try have c24b2 : (9223372036854775807 < a0.size + 1 + a1.size) = False := eq_false (Nat.not_lt.2 c24)
         replace H := Option.bind_eq_some_iff.mp H
         obtain ⟨⟨t400, t401, t402⟩, A250, H⟩ := H
         replace H : (if 0 ≤ (wrap64 ((t388.length : Int) - 1)) then (if (wrap64 ((t388.length : Int) - 1)) ≤ (t388.length : Int) then ((some (t388.take ((wrap64 ((t388.length : Int) - 1)) : Int).toNat : List (S32))).bind fun y405 => (if ([] : List (S32)).length + y405.length < 3518437208883 then ((some (([] : List (S32)) ++ y405 : List (S32))).bind fun y409 => (if y409.length < 3518437208883 then (jobshelllaw07_LexerLines.l0 kj9 a0 t393 t400 t402 (y409 ++ [(⟨3, (a0.size : Int), ((a0.size : Int) + 1), (⟨#[10]⟩ : ByteArray)⟩ : S32)]) 0) else (none))) else (none))) else (none)) else (none)) = some r := H
         have A25 := Aside0.mk A250
         clear A250
         obtain ⟨ji26, hji26⟩ : ∃ j_ : Int, (wrap64 ((t388.length : Int) - 1)) = j_ := ⟨_, rfl⟩
         replace H : (if 0 ≤ (ji26) then (if (ji26) ≤ (t388.length : Int) then ((some (t388.take ((ji26) : Int).toNat : List (S32))).bind fun y405 => (if ([] : List (S32)).length + y405.length < 3518437208883 then ((some (([] : List (S32)) ++ y405 : List (S32))).bind fun y409 => (if y409.length < 3518437208883 then (jobshelllaw07_LexerLines.l0 kj9 a0 t393 t400 t402 (y409 ++ [(⟨3, (a0.size : Int), ((a0.size : Int) + 1), (⟨#[10]⟩ : ByteArray)⟩ : S32)]) 0) else (none))) else (none))) else (none)) else (none)) = some r := by first | (rw [hji26] at H; exact H) | (simp only [hji26] at H ⊢; exact H)
         (try rw [hji26] at A25)
         have hji26w : (IntKind.i64.wrap ((t388.length : Int) - 1)) = ji26 := (i64_w _).trans hji26
         by_cases c27 : 0 ≤ (ji26)
         ·rw [if_pos c27] at H
          have c27b0 := eq_true c27
          have c27b1 : decide (0 ≤ (ji26)) = true := decide_eq_true c27
          clear c27
          by_cases c28 : (ji26) ≤ (t388.length : Int)
          ·rw [if_pos c28] at H
           have c28b0 := eq_true c28
           have c28b1 : decide ((ji26) ≤ (t388.length : Int)) = true := decide_eq_true c28
           clear c28
           obtain ⟨y405, hy405⟩ : ∃ y_ : List (S32), y_ = (t388.take ((ji26) : Int).toNat) := ⟨_, rfl⟩
           replace H : (if ([] : List (S32)).length + y405.length < 3518437208883 then ((some (([] : List (S32)) ++ y405 : List (S32))).bind fun y409 => (if y409.length < 3518437208883 then (jobshelllaw07_LexerLines.l0 kj9 a0 t393 t400 t402 (y409 ++ [(⟨3, (a0.size : Int), ((a0.size : Int) + 1), (⟨#[10]⟩ : ByteArray)⟩ : S32)]) 0) else (none))) else (none)) = some r := by first | (rw [hy405]; with_reducible exact H) | (have H2_ := (Option.bind_some _ _).symm.trans H; rw [hy405]; with_reducible exact H2_) | (have H2_ := (Option.bind_some _ _).symm.trans H; with_reducible exact H2_) | with_reducible exact H | (rw [hy405]; exact H) | exact H
           have Ny405 := Aside0.mk hy405
           clear hy405
           by_cases c29 : ([] : List (S32)).length + y405.length < 3518437208883
           ·rw [if_pos c29] at H
            have LMc29 := Aside0.mk c29
            clear c29
            obtain ⟨y409, hy409⟩ : ∃ y_ : List (S32), y_ = (([] : List (S32)) ++ y405) := ⟨_, rfl⟩
            replace H : (if y409.length < 3518437208883 then (jobshelllaw07_LexerLines.l0 kj9 a0 t393 t400 t402 (y409 ++ [(⟨3, (a0.size : Int), ((a0.size : Int) + 1), (⟨#[10]⟩ : ByteArray)⟩ : S32)]) 0) else (none)) = some r := by first | (rw [hy409]; with_reducible exact H) | (have H2_ := (Option.bind_some _ _).symm.trans H; rw [hy409]; with_reducible exact H2_) | (have H2_ := (Option.bind_some _ _).symm.trans H; with_reducible exact H2_) | with_reducible exact H | (rw [hy409]; exact H) | exact H
            have Ny409 := Aside0.mk hy409
            clear hy409
            by_cases c30 : y409.length < 3518437208883
            ·rw [if_pos c30] at H
             have LMc30 := Aside0.mk c30
             clear c30
             obtain ⟨y412, hy412⟩ : ∃ y_ : List (S32), y_ = (y409 ++ [(⟨3, (a0.size : Int), ((a0.size : Int) + 1), (⟨#[10]⟩ : ByteArray)⟩ : S32)]) := ⟨_, rfl⟩
             replace H : (jobshelllaw07_LexerLines.l0 kj9 a0 t393 t400 t402 y412 0) = some r := by first | (rw [hy412]; with_reducible exact H) | (have H2_ := (Option.bind_some _ _).symm.trans H; rw [hy412]; with_reducible exact H2_) | (have H2_ := (Option.bind_some _ _).symm.trans H; with_reducible exact H2_) | with_reducible exact H | (rw [hy412]; exact H) | exact H
             have Ny412 := Aside0.mk hy412
             clear hy412
             have H' := Aside0.mk H
             clear H
             go_wp2_with (first | ((with_reducible refine gate_callee (f := 23) rfl ?_); refine goesL_ (some 63) rfl rfl Try.func23 (by kernel_rfl) rfl #[.string ((a0 ++ (⟨#[10]⟩ : ByteArray)) ++ a1)] rfl (by (try simp only [List.map_toArray, List.map_cons, List.map_nil]); first | done | rfl | (simp only [List.length_drop, List.length_take]; rfl)) ?_; (with_reducible refine (lexer_All.calls kj9 ((a0 ++ (⟨#[10]⟩ : ByteArray)) ++ a1) t400 t401 t402 _ A25.out).mono ?_); rintro e w31 ⟨v403, rfl, ho0, hb⟩; refine ⟨_, rfl, ?_⟩; have n0_ := Aside0.mk (Kd.R_elder' (by (with_reducible repeat (first | apply Kd.R_alloc | apply Kd.R_drewN | apply Kd.R_drew)); exact HO_5.out) (Kd.R_base ho0) hb); have n1_ := Aside0.mk (Kd.R_elder' (by (with_reducible repeat (first | apply Kd.R_alloc | apply Kd.R_drewN | apply Kd.R_drew)); exact HO_8.out) (Kd.R_base ho0) hb); have n2_ := Aside0.mk (Kd.R_lower (Kd.R_new' (Kd.R_new' ho0 (Kd.R_lt (by (with_reducible repeat (first | apply Kd.R_alloc | apply Kd.R_drewN | apply Kd.R_drew)); exact HO_5.out))) (Kd.R_lt (by (with_reducible repeat (first | apply Kd.R_alloc | apply Kd.R_drewN | apply Kd.R_drew)); exact HO_8.out))) (below_size (by repeat (first | (with_reducible first | exact HB.out | apply below_alloc | apply pw_below_drewN | apply below_drew1) | exact HB.out)))); have n3_ := Aside0.mk (below_step (by repeat (first | (with_reducible first | exact HB.out | apply below_alloc | apply pw_below_drewN | apply below_drew1) | exact HB.out)) hb); clear HO_5; clear HO_8; clear HB; have HO_5 := n0_; have HO_8 := n1_; have HO404 := n2_; have HB := n3_; clear n0_ n1_ n2_ n3_; (try clear hb); (try clear hb2); (try clear hk); (try clear hi); (try clear ho0); obtain ⟨Ao32, co32, eo32⟩ := Kd.R_slice HO_5.out; subst eo32; have q33 : ((ji26) : Int) ≤ ((t388.length : Int) : Int) := of_decide_eq_true (by first | (with_reducible assumption) | assumption); obtain ⟨i033, hi033, _, hsz33, _⟩ := info_parts info32; have hroom33 : t388.length ≤ co32 := (Kd.R_reads' HO_5.out).2.1; have hC33 : Kd.C k32 _ Ao32 t388.length t388 := (Kd.R_reads' HO_5.out).2.2; have hcut33 := cut_to (P := Try.prog) 37 32 .i64 Try.underlying37 hi033 Ao32 t388.length co32 (ji26) (of_decide_eq_true (by first | (with_reducible assumption) | assumption)) q33 hroom33; have hr33 := Kd.C_take (m := ((ji26) : Int).toNat) hC33 (by omega); have hy33 : y405.length = ((ji26) : Int).toNat := (by rw [Ny405.out, List.length_take]; omega); rw [← Ny405.out] at hr33; rw [← hy33] at hcut33; have HR408 := Aside0.mk hr33; have HC408 := Aside0.mk (show y405.length ≤ co32 from by omega); clear hr33 hC33 hroom33 hi033 hsz33; have KY33 := Aside0.mk hy33; clear hy33; have KL33 := Aside0.mk (show ((ji26) : Int).toNat ≤ t388.length from by omega); replace q33 := eq_true q33) | ((with_reducible refine gate_builtin (b := .append) (xs := #[.tmp 67, .tmp 72]) rfl ?_); (try (refine gate_guard (by rfl) ?_; dsimp only)); at_builtin; refine Kd.R_append_rows k32 (w0 := w) w.heap.size rfl (.tmp 67) (.tmp 72) 37 32 (.agg #[(.int .i64 0), (.int .i64 0), (.int .i64 0), (.string ⟨#[]⟩)]) 40 rfl Try.underlying37 info32 rfl (by decide) (by omega) (.slice none 0 0) ([] : List (S32)) y405 _ _ _ (fun k_ => some k_ ≠ (.slice Ao32 t388.length co32 : Value).ownBlock ∧ some k_ ≠ (v396 : Value).ownBlock ∧ some k_ ≠ (v403 : Value).ownBlock) (fun _ => False) rfl rfl ?aO ?aR (fun _ _ h => h) (fun _ h => h.elim) ?aF ?aB ?aS ?aL ?_; (case aR => repeat (first | exact (by repeat (first | (with_reducible exact HR408.out) | (with_reducible refine Kd.C_alloc ?_ _) | (with_reducible refine Kd.C_drewN ?_ _) | (with_reducible refine Kd.C_drew ?_) | exact HR408.out)) | (with_reducible refine Kd.C_alloc ?_ _) | (with_reducible refine Kd.C_drewN ?_ _) | (with_reducible refine Kd.C_drew ?_))); (case aB => exact (by repeat (first | (with_reducible first | exact HB.out | apply below_alloc | apply pw_below_drewN | apply below_drew1) | exact HB.out))); (case aF => exact (fun k_ hk => ⟨Kd.fresh' (Kd.R_lt (by (with_reducible repeat (first | apply Kd.R_alloc | apply Kd.R_drewN | apply Kd.R_drew)); exact HO_5.out)) k_ hk, Kd.fresh' (Kd.R_lt (by (with_reducible repeat (first | apply Kd.R_alloc | apply Kd.R_drewN | apply Kd.R_drew)); exact HO_8.out)) k_ hk, Kd.fresh' (Kd.R_lt (by (with_reducible repeat (first | apply Kd.R_alloc | apply Kd.R_drewN | apply Kd.R_drew)); exact HO404.out)) k_ hk⟩)); (case aO => exact ((Kd.R_nil _ _ _ _ (fun k_ => some k_ ≠ (.slice Ao32 t388.length co32 : Value).ownBlock ∧ some k_ ≠ (v396 : Value).ownBlock ∧ some k_ ≠ (v403 : Value).ownBlock)))); (case aS => exact (below_size (by repeat (first | (with_reducible first | exact HB.out | apply below_alloc | apply pw_below_drewN | apply below_drew1) | exact HB.out)))); (case aL => have := LMc29.out; omega); intro v410 w34 ho hb hg hat; rw [← Ny409.out] at ho; have n0_ := Aside0.mk (Kd.R_after (Kd.R_apart_nil (by (with_reducible repeat (first | apply Kd.R_alloc | apply Kd.R_drewN | apply Kd.R_drew)); exact HO_5.out)) hg hat); have n1_ := Aside0.mk (Kd.R_after (Kd.R_apart_nil (by (with_reducible repeat (first | apply Kd.R_alloc | apply Kd.R_drewN | apply Kd.R_drew)); exact HO_8.out)) hg hat); have n2_ := Aside0.mk (Kd.R_after (Kd.R_apart_nil (by (with_reducible repeat (first | apply Kd.R_alloc | apply Kd.R_drewN | apply Kd.R_drew)); exact HO404.out)) hg hat); have n3_ := Aside0.mk (hb); have n4_ := Aside0.mk ((show Kd.C k32 w34 Ao32 y405.length y405 from by rw [Ny405.out]; exact Kd.C_take (m := ((ji26) : Int).toNat) ((Kd.R_reads' (Kd.R_after (Kd.R_apart_nil (by (with_reducible repeat (first | apply Kd.R_alloc | apply Kd.R_drewN | apply Kd.R_drew)); exact HO_5.out)) hg hat)).2.2) KL33.out)); have n5_ := Aside0.mk (ho); clear HO_5; clear HO_8; clear HO404; clear HB; clear HR408; have HO_5 := n0_; have HO_8 := n1_; have HO404 := n2_; have HB := n3_; have HR408 := n4_; have HO411 := n5_; clear n0_ n1_ n2_ n3_ n4_ n5_; clear ho hb hg hat) | ((with_reducible refine gate_builtin (b := .append) (xs := #[.tmp 74, .tmp 81]) rfl ?_); (try (refine gate_guard (by rfl) ?_; dsimp only)); at_builtin; refine Kd.R_append k32 (w0 := w) w.heap.size rfl (.tmp 74) (.tmp 81) 37 32 (.agg #[(.int .i64 0), (.int .i64 0), (.int .i64 0), (.string ⟨#[]⟩)]) 40 rfl Try.underlying37 info32 rfl (by decide) (by omega) v410 y409 (⟨3, (a0.size : Int), ((a0.size : Int) + 1), (⟨#[10]⟩ : ByteArray)⟩ : S32) [.int .i64 3, .int .i64 (a0.size : Int), .int .i64 (((a0.size : Int) + 1)), .string (⟨#[10]⟩ : ByteArray)] (fun k_ => some k_ ≠ (.slice Ao32 t388.length co32 : Value).ownBlock ∧ some k_ ≠ (v396 : Value).ownBlock ∧ some k_ ≠ (v403 : Value).ownBlock) (fun _ => False) rfl rfl ?aP (fun _ hk => hk.elim) ?aF ?aO ?aB ?aS ?aL ?_; (case aP => exact k32_mkM _ _ _ (⟨3, (a0.size : Int), ((a0.size : Int) + 1), (⟨#[10]⟩ : ByteArray)⟩ : S32)); (case aB => exact (by repeat (first | (with_reducible first | exact HB.out | apply below_alloc | apply pw_below_drewN | apply below_drew1) | exact HB.out))); (case aF => exact (fun k_ hk => ⟨Kd.fresh' (Kd.R_lt (by (with_reducible repeat (first | apply Kd.R_alloc | apply Kd.R_drewN | apply Kd.R_drew)); exact HO_5.out)) k_ hk, Kd.fresh' (Kd.R_lt (by (with_reducible repeat (first | apply Kd.R_alloc | apply Kd.R_drewN | apply Kd.R_drew)); exact HO_8.out)) k_ hk, Kd.fresh' (Kd.R_lt (by (with_reducible repeat (first | apply Kd.R_alloc | apply Kd.R_drewN | apply Kd.R_drew)); exact HO404.out)) k_ hk⟩)); (case aO => exact (by (with_reducible repeat (first | apply Kd.R_alloc | apply Kd.R_drewN | apply Kd.R_drew)); exact HO411.out)); (case aS => exact (below_size (by repeat (first | (with_reducible first | exact HB.out | apply below_alloc | apply pw_below_drewN | apply below_drew1) | exact HB.out)))); (case aL => have := LMc30.out; omega); intro v413 w35 ho hb hg hat; rw [← Ny412.out] at ho; have n0_ := Aside0.mk (Kd.R_after (ok := (fun k_ => some k_ ≠ (v396 : Value).ownBlock ∧ some k_ ≠ (v403 : Value).ownBlock)) (by (with_reducible repeat (first | apply Kd.R_alloc | apply Kd.R_drewN | apply Kd.R_drew)); exact HO_5.out) hg hat); have n1_ := Aside0.mk (Kd.R_after (ok := (fun k_ => some k_ ≠ (.slice Ao32 t388.length co32 : Value).ownBlock ∧ some k_ ≠ (v403 : Value).ownBlock)) (by (with_reducible repeat (first | apply Kd.R_alloc | apply Kd.R_drewN | apply Kd.R_drew)); exact HO_8.out) hg hat); have n2_ := Aside0.mk (Kd.R_after (ok := (fun k_ => some k_ ≠ (.slice Ao32 t388.length co32 : Value).ownBlock ∧ some k_ ≠ (v396 : Value).ownBlock)) (by (with_reducible repeat (first | apply Kd.R_alloc | apply Kd.R_drewN | apply Kd.R_drew)); exact Kd.R_mono HO404.out (fun _ hk => ⟨⟨hk.1.1.2, hk.1.2⟩, hk.2⟩)) hg hat); have n3_ := Aside0.mk (hb); have n4_ := Aside0.mk ((show Kd.C k32 w35 Ao32 y405.length y405 from by rw [Ny405.out]; exact Kd.C_take (m := ((ji26) : Int).toNat) ((Kd.R_reads' (Kd.R_after (ok := (fun k_ => some k_ ≠ (v396 : Value).ownBlock ∧ some k_ ≠ (v403 : Value).ownBlock)) (by (with_reducible repeat (first | apply Kd.R_alloc | apply Kd.R_drewN | apply Kd.R_drew)); exact HO_5.out) hg hat)).2.2) KL33.out)); have n5_ := Aside0.mk (ho); clear HO_5; clear HO_8; clear HO404; clear HB; clear HR408; clear HO411; have HO_5 := n0_; have HO_8 := n1_; have HO404 := n2_; have HB := n3_; have HR408 := n4_; have HO414 := n5_; clear n0_ n1_ n2_ n3_ n4_ n5_; clear ho hb hg hat))
             go_loopg [14, 15] kj9 (fun kq v14 v15 w' => ∃ (x14_3 : List (S32)) (x15_3 : Int), v15 = .int .i64 x15_3 ∧ Aside0 (jobshelllaw07_LexerLines.l0 kq a0 t393 t400 t402 x14_3 x15_3 = some r) ∧ Aside0 (kq ≤ kj9) ∧ Aside0 (Kd.R k32 32 w' w.heap.size (fun k_ => some k_ ≠ (v403 : Value).ownBlock ∧ some k_ ≠ (v14 : Value).ownBlock) v396 t393) ∧ Aside0 (Kd.R k32 32 w' w.heap.size (fun k_ => some k_ ≠ (v396 : Value).ownBlock ∧ some k_ ≠ (v14 : Value).ownBlock) v403 t400) ∧ Aside0 (Kd.R k32 32 w' w.heap.size (fun k_ => some k_ ≠ (v396 : Value).ownBlock ∧ some k_ ≠ (v403 : Value).ownBlock) v14 x14_3) ∧ Aside0 (Below w.heap.size w w'))
             case atStart => exact ⟨(y412), (0), (by first | rfl | (simp; done) | (simp [*]; done)), H', ⟨Nat.le_refl _⟩, ⟨by (with_reducible repeat (first | apply Kd.R_alloc | apply Kd.R_drewN | apply Kd.R_drew)); exact Kd.R_mono HO_8.out (fun _ hk => ⟨hk.1.2, hk.2⟩)⟩, ⟨by (with_reducible repeat (first | apply Kd.R_alloc | apply Kd.R_drewN | apply Kd.R_drew)); exact Kd.R_mono HO404.out (fun _ hk => ⟨hk.1.2, hk.2⟩)⟩, ⟨by (with_reducible repeat (first | apply Kd.R_alloc | apply Kd.R_drewN | apply Kd.R_drew)); exact Kd.R_mono HO414.out (fun _ hk => ⟨hk.2.1, hk.2.2⟩)⟩, ⟨by repeat (first | (with_reducible first | exact HB.out | apply below_alloc | apply pw_below_drewN | apply below_drew1) | exact HB.out)⟩⟩
             case round =>
              clear H'
              try clear c1
              try clear c2
              try clear p2
              try clear c3
              try clear q3
              try clear c4
              try clear c4b0
              try clear c4b1
              try clear c5
              try clear p6
              try clear c10
              try clear c12
              try clear c13
              try clear c13b0
              try clear c13b1
              try clear c14
              try clear c14b0
              try clear c14b1
              try clear c16
              try clear c17
              try clear c17b0
              try clear c17b1
              try clear c18
              try clear c18b0
              try clear c18b1
              try clear c23
              try clear c23b0
              try clear c23b1
              try clear c23b2
              try clear c24
              try clear c24b0
              try clear c24b1
              try clear c24b2
              try clear c27
              try clear c27b0
              try clear c27b1
              try clear c28
              try clear c28b0
              try clear c28b1
              try clear c29
              try clear c30
              try clear q33
              try clear p2
              try clear q33
              obtain ⟨x14_3, x15_3, rfl, HA, HK3, HO_8, HO_11, HO_14, HB⟩ := hrel
              cases gk with
              | zero => exact absurd HA.out (by simp [jobshelllaw07_LexerLines.l0])
              | succ k3 =>
               have H := HA.out
               clear HA
               simp only [jobshelllaw07_LexerLines.l0] at H
               by_cases c36 : x15_3 < (t393.length : Int)
               ·rw [if_pos c36] at H
                have c36b0 : decide (x15_3 < (t393.length : Int)) = true := decide_eq_true c36
                clear c36
                by_cases c37 : 0 ≤ x15_3
                ·rw [if_pos c37] at H
                 have c37b0 : decide (0 ≤ x15_3) = true := decide_eq_true c37
                 clear c37
                 by_cases c38 : x14_3.length < 3518437208883
                 ·rw [if_pos c38] at H
                  have LMc38 := Aside0.mk c38
                  clear c38
                  obtain ⟨y417, hy417⟩ : ∃ y_ : List (S32), y_ = (x14_3 ++ [(⟨(rd_T32 t393 x15_3).f0, wrap64 ((wrap64 (((rd_T32 t393 x15_3).f1) + (a0.size : Int))) + 1), wrap64 ((wrap64 (((rd_T32 t393 x15_3).f2) + (a0.size : Int))) + 1), (rd_T32 t393 x15_3).f3⟩ : S32)]) := ⟨_, rfl⟩
                  replace H : (jobshelllaw07_LexerLines.l0 k3 a0 t393 t400 t402 y417 (wrap64 (x15_3 + 1))) = some r := by first | (rw [hy417]; with_reducible exact H) | (have H2_ := (Option.bind_some _ _).symm.trans H; rw [hy417]; with_reducible exact H2_) | (have H2_ := (Option.bind_some _ _).symm.trans H; with_reducible exact H2_) | with_reducible exact H | (rw [hy417]; exact H) | exact H
                  have Ny417 := Aside0.mk hy417
                  clear hy417
                  have H' := Aside0.mk H
                  clear H
                  obtain ⟨Ao39, co39, eo39⟩ := Kd.R_slice HO_8.out
                  subst eo39
                  have p415 : 0 ≤ (x15_3 : Int) := of_decide_eq_true (by first | (with_reducible assumption) | assumption)
                  have q415 : x15_3 < (t393.length : Int) := of_decide_eq_true (by first | (with_reducible assumption) | assumption)
                  obtain ⟨ad415, e415, hx415_0, hx415_1, hx415_2, hx415_3⟩ := at_T32 (Kd.R_reads' HO_8.out).2.2 x15_3 p415 q415
                  cases e415
                  replace p415 := eq_true p415
                  replace q415 := eq_true q415
                  go_upto_region 15 with (first | ((with_reducible refine gate_dst (N := 16) rfl ?_); (try (refine gate_guard (by rfl) ?_; dsimp only)); refine box_event ?hg (N := 16) ?hd (cs := #[.int .i64 0, .int .i64 0, .int .i64 0, .string (⟨#[]⟩ : ByteArray)]) (t := 32) ?hr ?_; (case hd => rfl); (case hg => rfl); (case hr => first | (go_simp; done) | (go_simp; rfl)); intro gb416 hg w40 hbox hb; have n0_ := Aside0.mk (Kd.R_below (Kd.R_elderB (by (with_reducible repeat (first | apply Kd.R_alloc | apply Kd.R_drewN | apply Kd.R_drew)); exact HO_8.out) gb416 (Nat.le_of_eq hg.symm)) hb); have n1_ := Aside0.mk (Kd.R_below (Kd.R_elderB (by (with_reducible repeat (first | apply Kd.R_alloc | apply Kd.R_drewN | apply Kd.R_drew)); exact HO_11.out) gb416 (Nat.le_of_eq hg.symm)) hb); have n2_ := Aside0.mk (Kd.R_below (Kd.R_elderB (by (with_reducible repeat (first | apply Kd.R_alloc | apply Kd.R_drewN | apply Kd.R_drew)); exact HO_14.out) gb416 (Nat.le_of_eq hg.symm)) hb); have n3_ := Aside0.mk (below_step (by repeat (first | (with_reducible first | exact HB.out | apply below_alloc | apply pw_below_drewN | apply below_drew1) | exact HB.out)) hb); have n4_ := Aside0.mk (hbox); have n5_ := Aside0.mk ((by rw [hg]; exact (below_size (by repeat (first | (with_reducible first | exact HB.out | apply below_alloc | apply pw_below_drewN | apply below_drew1) | exact HB.out))) : w.heap.size ≤ gb416)); have n6_ := Aside0.mk ((by rw [hg]; exact (below_size (by repeat (first | (with_reducible first | exact HB.out | apply below_alloc | apply pw_below_drewN | apply below_drew1) | exact HB.out))) : w.heap.size ≤ gb416)); clear HO_8; clear HO_11; clear HO_14; clear HB; have HO_8 := n0_; have HO_11 := n1_; have HO_14 := n2_; have HB := n3_; have BK416 := n4_; have GW416 := n5_; have GE416 := n6_; clear n0_ n1_ n2_ n3_ n4_ n5_ n6_; clear hb hbox hg; have hcz41_0 : w40.cell? ⟨gb416, 0, none⟩ = some (.int .i64 0) := (blk_cell BK416.out 0).trans rfl; have hcz41_1 : w40.cell? ⟨gb416, 1, none⟩ = some (.int .i64 0) := (blk_cell BK416.out 1).trans rfl; have hcz41_2 : w40.cell? ⟨gb416, 2, none⟩ = some (.int .i64 0) := (blk_cell BK416.out 2).trans rfl; have hcz41_3 : w40.cell? ⟨gb416, 3, none⟩ = some (.string (⟨#[]⟩ : ByteArray)) := (blk_cell BK416.out 3).trans rfl; have hfz41_0 := blk_frozen BK416.out 0; have hfz41_1 := blk_frozen BK416.out 1; have hfz41_2 := blk_frozen BK416.out 2; have hfz41_3 := blk_frozen BK416.out 3))
                  go_upto_region 16 with (fail)
                  go_upto_region 17 with (fail)
                  have n0_ := Aside0.mk (Kd.R_mono (Kd.R_far (p := ⟨gb416, 2, none⟩) (Kd.R_far (p := ⟨gb416, 1, none⟩) (Kd.R_far (p := ⟨gb416, 3, none⟩) (Kd.R_far (p := ⟨gb416, 2, none⟩) (Kd.R_far (p := ⟨gb416, 1, none⟩) (Kd.R_far (p := ⟨gb416, 0, none⟩) (Kd.R_mono HO_8.out (fun k_ hk => (⟨hk, hk.2⟩ : _ ∧ k_ ≠ gb416))) (fun _ hk => hk.2) (.int .i64 ((rd_T32 t393 x15_3).f0))) (fun _ hk => hk.2) (.int .i64 ((rd_T32 t393 x15_3).f1))) (fun _ hk => hk.2) (.int .i64 ((rd_T32 t393 x15_3).f2))) (fun _ hk => hk.2) (.string ((rd_T32 t393 x15_3).f3))) (fun _ hk => hk.2) (.int .i64 (wrap64 ((wrap64 (((rd_T32 t393 x15_3).f1) + (a0.size : Int))) + 1)))) (fun _ hk => hk.2) (.int .i64 (wrap64 ((wrap64 (((rd_T32 t393 x15_3).f2) + (a0.size : Int))) + 1)))) (fun _ hk => hk.1))
                  have n1_ := Aside0.mk (Kd.R_mono (Kd.R_far (p := ⟨gb416, 2, none⟩) (Kd.R_far (p := ⟨gb416, 1, none⟩) (Kd.R_far (p := ⟨gb416, 3, none⟩) (Kd.R_far (p := ⟨gb416, 2, none⟩) (Kd.R_far (p := ⟨gb416, 1, none⟩) (Kd.R_far (p := ⟨gb416, 0, none⟩) (Kd.R_mono HO_11.out (fun k_ hk => (⟨hk, hk.2⟩ : _ ∧ k_ ≠ gb416))) (fun _ hk => hk.2) (.int .i64 ((rd_T32 t393 x15_3).f0))) (fun _ hk => hk.2) (.int .i64 ((rd_T32 t393 x15_3).f1))) (fun _ hk => hk.2) (.int .i64 ((rd_T32 t393 x15_3).f2))) (fun _ hk => hk.2) (.string ((rd_T32 t393 x15_3).f3))) (fun _ hk => hk.2) (.int .i64 (wrap64 ((wrap64 (((rd_T32 t393 x15_3).f1) + (a0.size : Int))) + 1)))) (fun _ hk => hk.2) (.int .i64 (wrap64 ((wrap64 (((rd_T32 t393 x15_3).f2) + (a0.size : Int))) + 1)))) (fun _ hk => hk.1))
                  have n2_ := Aside0.mk (Kd.R_mono (Kd.R_far (p := ⟨gb416, 2, none⟩) (Kd.R_far (p := ⟨gb416, 1, none⟩) (Kd.R_far (p := ⟨gb416, 3, none⟩) (Kd.R_far (p := ⟨gb416, 2, none⟩) (Kd.R_far (p := ⟨gb416, 1, none⟩) (Kd.R_far (p := ⟨gb416, 0, none⟩) (Kd.R_mono HO_14.out (fun k_ hk => (⟨hk, hk.2⟩ : _ ∧ k_ ≠ gb416))) (fun _ hk => hk.2) (.int .i64 ((rd_T32 t393 x15_3).f0))) (fun _ hk => hk.2) (.int .i64 ((rd_T32 t393 x15_3).f1))) (fun _ hk => hk.2) (.int .i64 ((rd_T32 t393 x15_3).f2))) (fun _ hk => hk.2) (.string ((rd_T32 t393 x15_3).f3))) (fun _ hk => hk.2) (.int .i64 (wrap64 ((wrap64 (((rd_T32 t393 x15_3).f1) + (a0.size : Int))) + 1)))) (fun _ hk => hk.2) (.int .i64 (wrap64 ((wrap64 (((rd_T32 t393 x15_3).f2) + (a0.size : Int))) + 1)))) (fun _ hk => hk.1))
                  have n3_ : Aside0 (((((((w40.setCell ⟨gb416, 0, none⟩ (.int .i64 ((rd_T32 t393 x15_3).f0))).setCell ⟨gb416, 1, none⟩ (.int .i64 ((rd_T32 t393 x15_3).f1))).setCell ⟨gb416, 2, none⟩ (.int .i64 ((rd_T32 t393 x15_3).f2))).setCell ⟨gb416, 3, none⟩ (.string ((rd_T32 t393 x15_3).f3))).setCell ⟨gb416, 1, none⟩ (.int .i64 (wrap64 ((wrap64 (((rd_T32 t393 x15_3).f1) + (a0.size : Int))) + 1)))).setCell ⟨gb416, 2, none⟩ (.int .i64 (wrap64 ((wrap64 (((rd_T32 t393 x15_3).f2) + (a0.size : Int))) + 1)))).heap[gb416]? = some (.cells #[.int .i64 ((rd_T32 t393 x15_3).f0), .int .i64 (wrap64 ((wrap64 (((rd_T32 t393 x15_3).f1) + (a0.size : Int))) + 1)), .int .i64 (wrap64 ((wrap64 (((rd_T32 t393 x15_3).f2) + (a0.size : Int))) + 1)), .string ((rd_T32 t393 x15_3).f3)] 32 (0, 0))) := ⟨by refine blk_put (cs := #[.int .i64 ((rd_T32 t393 x15_3).f0), .int .i64 (wrap64 ((wrap64 (((rd_T32 t393 x15_3).f1) + (a0.size : Int))) + 1)), .int .i64 ((rd_T32 t393 x15_3).f2), .string ((rd_T32 t393 x15_3).f3)]) ?_ 2 _ rfl; (with_reducible repeat (first | refine blk_drewN ?_ _ | refine blk_drew ?_ | refine blk_alloc ?_ _)); refine blk_put (cs := #[.int .i64 ((rd_T32 t393 x15_3).f0), .int .i64 ((rd_T32 t393 x15_3).f1), .int .i64 ((rd_T32 t393 x15_3).f2), .string ((rd_T32 t393 x15_3).f3)]) ?_ 1 _ rfl; (with_reducible repeat (first | refine blk_drewN ?_ _ | refine blk_drew ?_ | refine blk_alloc ?_ _)); refine blk_put (cs := #[.int .i64 ((rd_T32 t393 x15_3).f0), .int .i64 ((rd_T32 t393 x15_3).f1), .int .i64 ((rd_T32 t393 x15_3).f2), .string (⟨#[]⟩ : ByteArray)]) ?_ 3 _ rfl; (with_reducible repeat (first | refine blk_drewN ?_ _ | refine blk_drew ?_ | refine blk_alloc ?_ _)); refine blk_put (cs := #[.int .i64 ((rd_T32 t393 x15_3).f0), .int .i64 ((rd_T32 t393 x15_3).f1), .int .i64 0, .string (⟨#[]⟩ : ByteArray)]) ?_ 2 _ rfl; (with_reducible repeat (first | refine blk_drewN ?_ _ | refine blk_drew ?_ | refine blk_alloc ?_ _)); refine blk_put (cs := #[.int .i64 ((rd_T32 t393 x15_3).f0), .int .i64 0, .int .i64 0, .string (⟨#[]⟩ : ByteArray)]) ?_ 1 _ rfl; (with_reducible repeat (first | refine blk_drewN ?_ _ | refine blk_drew ?_ | refine blk_alloc ?_ _)); refine blk_put (cs := #[.int .i64 0, .int .i64 0, .int .i64 0, .string (⟨#[]⟩ : ByteArray)]) ?_ 0 _ rfl; (with_reducible repeat (first | refine blk_drewN ?_ _ | refine blk_drew ?_ | refine blk_alloc ?_ _)); exact BK416.out⟩
                  have n4_ : Aside0 (Below w.heap.size w ((((((w40.setCell ⟨gb416, 0, none⟩ (.int .i64 ((rd_T32 t393 x15_3).f0))).setCell ⟨gb416, 1, none⟩ (.int .i64 ((rd_T32 t393 x15_3).f1))).setCell ⟨gb416, 2, none⟩ (.int .i64 ((rd_T32 t393 x15_3).f2))).setCell ⟨gb416, 3, none⟩ (.string ((rd_T32 t393 x15_3).f3))).setCell ⟨gb416, 1, none⟩ (.int .i64 (wrap64 ((wrap64 (((rd_T32 t393 x15_3).f1) + (a0.size : Int))) + 1)))).setCell ⟨gb416, 2, none⟩ (.int .i64 (wrap64 ((wrap64 (((rd_T32 t393 x15_3).f2) + (a0.size : Int))) + 1))))) := ⟨by repeat (first | (with_reducible first | exact HB.out | apply below_alloc | apply pw_below_drewN | apply below_drew1 | refine below_set ?_ GE416.out) | exact HB.out)⟩
                  clear HO_8 HO_11 HO_14 BK416 HB hcz41_0 hfz41_0 hcz41_1 hfz41_1 hcz41_2 hfz41_2 hcz41_3 hfz41_3
                  generalize ((((((w40.setCell ⟨gb416, 0, none⟩ (.int .i64 ((rd_T32 t393 x15_3).f0))).setCell ⟨gb416, 1, none⟩ (.int .i64 ((rd_T32 t393 x15_3).f1))).setCell ⟨gb416, 2, none⟩ (.int .i64 ((rd_T32 t393 x15_3).f2))).setCell ⟨gb416, 3, none⟩ (.string ((rd_T32 t393 x15_3).f3))).setCell ⟨gb416, 1, none⟩ (.int .i64 (wrap64 ((wrap64 (((rd_T32 t393 x15_3).f1) + (a0.size : Int))) + 1)))).setCell ⟨gb416, 2, none⟩ (.int .i64 (wrap64 ((wrap64 (((rd_T32 t393 x15_3).f2) + (a0.size : Int))) + 1)))) = w41 at n0_ n1_ n2_ n3_ n4_ ⊢
                  have HO_8 := n0_
                  have HO_11 := n1_
                  have HO_14 := n2_
                  have BK416 := n3_
                  have HB := n4_
                  clear n0_ n1_ n2_ n3_ n4_
                  have hcz41_0 : w41.cell? ⟨gb416, 0, none⟩ = some (.int .i64 ((rd_T32 t393 x15_3).f0)) := (blk_cell BK416.out 0).trans rfl
                  have hcz41_1 : w41.cell? ⟨gb416, 1, none⟩ = some (.int .i64 (wrap64 ((wrap64 (((rd_T32 t393 x15_3).f1) + (a0.size : Int))) + 1))) := (blk_cell BK416.out 1).trans rfl
                  have hcz41_2 : w41.cell? ⟨gb416, 2, none⟩ = some (.int .i64 (wrap64 ((wrap64 (((rd_T32 t393 x15_3).f2) + (a0.size : Int))) + 1))) := (blk_cell BK416.out 2).trans rfl
                  have hcz41_3 : w41.cell? ⟨gb416, 3, none⟩ = some (.string ((rd_T32 t393 x15_3).f3)) := (blk_cell BK416.out 3).trans rfl
                  have hfz41_0 := blk_frozen BK416.out 0
                  have hfz41_1 := blk_frozen BK416.out 1
                  have hfz41_2 := blk_frozen BK416.out 2
                  have hfz41_3 := blk_frozen BK416.out 3
                  go_wp2_with (first | ((with_reducible refine gate_builtin (b := .append) (xs := #[.tmp 107, .tmp 109]) rfl ?_); (try (refine gate_guard (by rfl) ?_; dsimp only)); at_builtin; refine Kd.R_append k32 (w0 := w) w.heap.size rfl (.tmp 107) (.tmp 109) 37 32 (.agg #[(.int .i64 0), (.int .i64 0), (.int .i64 0), (.string ⟨#[]⟩)]) 40 rfl Try.underlying37 info32 rfl (by decide) (by omega) u14 x14_3 (⟨(rd_T32 t393 x15_3).f0, wrap64 ((wrap64 (((rd_T32 t393 x15_3).f1) + (a0.size : Int))) + 1), wrap64 ((wrap64 (((rd_T32 t393 x15_3).f2) + (a0.size : Int))) + 1), (rd_T32 t393 x15_3).f3⟩ : S32) [.int .i64 ((rd_T32 t393 x15_3).f0), .int .i64 (wrap64 ((wrap64 (((rd_T32 t393 x15_3).f1) + (a0.size : Int))) + 1)), .int .i64 (wrap64 ((wrap64 (((rd_T32 t393 x15_3).f2) + (a0.size : Int))) + 1)), .string ((rd_T32 t393 x15_3).f3)] (fun k_ => some k_ ≠ (.slice (some ad415) t393.length co39 : Value).ownBlock ∧ some k_ ≠ (v403 : Value).ownBlock ∧ k_ ≠ gb416) (fun _ => False) rfl (by first | (go_simp; done) | (go_simp; rfl)) ?aP (fun _ hk => hk.elim) ?aF ?aO ?aB ?aS ?aL ?_; (case aP => exact k32_mkM _ _ _ (⟨(rd_T32 t393 x15_3).f0, wrap64 ((wrap64 (((rd_T32 t393 x15_3).f1) + (a0.size : Int))) + 1), wrap64 ((wrap64 (((rd_T32 t393 x15_3).f2) + (a0.size : Int))) + 1), (rd_T32 t393 x15_3).f3⟩ : S32)); (case aB => exact (by repeat (first | (with_reducible first | exact HB.out | apply below_alloc | apply pw_below_drewN | apply below_drew1 | refine below_set ?_ GE416.out) | exact HB.out))); (case aF => exact (fun k_ hk => ⟨Kd.fresh' (Kd.R_lt (by (with_reducible repeat (first | apply Kd.R_alloc | apply Kd.R_drewN | apply Kd.R_drew)); exact (Kd.R_mono HO_8.out (fun _ h_ => h_)))) k_ hk, Kd.fresh' (Kd.R_lt (by (with_reducible repeat (first | apply Kd.R_alloc | apply Kd.R_drewN | apply Kd.R_drew)); exact (Kd.R_mono HO_11.out (fun _ h_ => h_)))) k_ hk, Kd.freshB (g := gb416) (o := .cells #[.int .i64 ((rd_T32 t393 x15_3).f0), .int .i64 (wrap64 ((wrap64 (((rd_T32 t393 x15_3).f1) + (a0.size : Int))) + 1)), .int .i64 (wrap64 ((wrap64 (((rd_T32 t393 x15_3).f2) + (a0.size : Int))) + 1)), .string ((rd_T32 t393 x15_3).f3)] 32 (0, 0)) (by (with_reducible repeat (first | refine blk_drewN ?_ _ | refine blk_drew ?_ | refine blk_alloc ?_ _)); exact BK416.out) k_ hk⟩)); (case aO => exact (by (with_reducible repeat (first | apply Kd.R_alloc | apply Kd.R_drewN | apply Kd.R_drew)); exact Kd.R_mono HO_14.out (fun _ hk => ⟨hk.1.1, ⟨hk.1.2, hk.2⟩⟩))); (case aS => exact (below_size (by repeat (first | (with_reducible first | exact HB.out | apply below_alloc | apply pw_below_drewN | apply below_drew1 | refine below_set ?_ GE416.out) | exact HB.out)))); (case aL => have := LMc38.out; omega); intro v418 w42 ho hb hg hat; rw [← Ny417.out] at ho; have n0_ := Aside0.mk (Kd.R_after (ok := (fun k_ => some k_ ≠ (v403 : Value).ownBlock ∧ k_ ≠ gb416)) (by (with_reducible repeat (first | apply Kd.R_alloc | apply Kd.R_drewN | apply Kd.R_drew)); exact Kd.R_mono HO_8.out (fun _ hk => ⟨⟨hk.1.1, hk.2⟩, hk.1.2⟩)) hg hat); have n1_ := Aside0.mk (Kd.R_after (ok := (fun k_ => some k_ ≠ (.slice (some ad415) t393.length co39 : Value).ownBlock ∧ k_ ≠ gb416)) (by (with_reducible repeat (first | apply Kd.R_alloc | apply Kd.R_drewN | apply Kd.R_drew)); exact Kd.R_mono HO_11.out (fun _ hk => ⟨⟨hk.1.1, hk.2⟩, hk.1.2⟩)) hg hat); have n2_ := Aside0.mk (blk_grown (g := gb416) (o := .cells #[.int .i64 ((rd_T32 t393 x15_3).f0), .int .i64 (wrap64 ((wrap64 (((rd_T32 t393 x15_3).f1) + (a0.size : Int))) + 1)), .int .i64 (wrap64 ((wrap64 (((rd_T32 t393 x15_3).f2) + (a0.size : Int))) + 1)), .string ((rd_T32 t393 x15_3).f3)] 32 (0, 0)) (by (with_reducible repeat (first | refine blk_drewN ?_ _ | refine blk_drew ?_ | refine blk_alloc ?_ _)); exact BK416.out) hg (Kd.R_away HO_14.out (fun _ hk => hk.2))); have n3_ := Aside0.mk (hb); have n4_ := Aside0.mk (ho); clear HO_8; clear HO_11; clear BK416; clear HB; clear HO_14; have HO_8 := n0_; have HO_11 := n1_; have BK416 := n2_; have HB := n3_; have HO419 := n4_; clear n0_ n1_ n2_ n3_ n4_; clear ho hb hg hat))
                  go_roundg k3
                  case measure => have := HJ2.out; have := HJ9.out; have := HK3.out; omega
                  case rel => exact ⟨(y417), (wrap64 (x15_3 + 1)), (by first | rfl | (simp; done) | (simp [*]; done)), H', ⟨by have := HJ2.out; have := HJ9.out; have := HK3.out; omega⟩, ⟨by (with_reducible repeat (first | apply Kd.R_alloc | apply Kd.R_drewN | apply Kd.R_drew)); exact Kd.R_mono HO_8.out (fun _ hk => ⟨hk.1.1, hk.2⟩)⟩, ⟨by (with_reducible repeat (first | apply Kd.R_alloc | apply Kd.R_drewN | apply Kd.R_drew)); exact Kd.R_mono HO_11.out (fun _ hk => ⟨hk.1.1, hk.2⟩)⟩, ⟨by (with_reducible repeat (first | apply Kd.R_alloc | apply Kd.R_drewN | apply Kd.R_drew)); exact Kd.R_mono HO419.out (fun _ hk => ⟨hk.1, hk.2.1⟩)⟩, ⟨by repeat (first | (with_reducible first | exact HB.out | apply below_alloc | apply pw_below_drewN | apply below_drew1 | refine below_set ?_ GE416.out) | exact HB.out)⟩⟩
                 ·rw [if_neg c38] at H
                  exact absurd H (by simp)
                ·rw [if_neg c37] at H
                 exact absurd H (by simp)
               ·rw [if_neg c36] at H
                have c36b0 : decide (x15_3 < (t393.length : Int)) = false := decide_eq_false c36
                clear c36
                by_cases c43 : t402 = 0
                ·rw [if_pos c43] at H
                 have c43b0 : (t402 == 0) = true := beq_iff_eq.mpr c43
                 have c43b1 : (t402 != 0) = false := bne_eq_false_iff_eq.mpr c43
                 clear c43
                 replace H := Option.bind_eq_some_iff.mp H
                 obtain ⟨t420, A440, H⟩ := H
                 replace H : (if t420 = true then ((jobshelllaw07_awake.f k3).bind fun t421 => (some t421)) else (some false)) = some r := H
                 have A44 := Aside0.mk A440
                 clear A440
                 by_cases c45 : t420 = true
                 ·subst c45
                  have H1 : ((jobshelllaw07_awake.f k3).bind fun t421 => (some t421)) = some r := by rw [if_pos rfl] at H; exact H
                  clear H
                  have H := H1
                  clear H1
                  replace H := Option.bind_eq_some_iff.mp H
                  obtain ⟨t421, A460, H⟩ := H
                  replace H : (some t421) = some r := H
                  have A46 := Aside0.mk A460
                  clear A460
                  obtain rfl := Option.some.inj H
                  obtain ⟨Ao47, co47, eo47⟩ := Kd.R_slice HO_8.out
                  subst eo47
                  obtain ⟨Ao48, co48, eo48⟩ := Kd.R_slice HO_11.out
                  subst eo48
                  obtain ⟨Ao49, co49, eo49⟩ := Kd.R_slice HO_14.out
                  subst eo49
                  go_wp2_with (first | (go_at_call 25; (with_reducible refine (jobshellref07_Same.calls k3 _ _ t400 _ _ x14_3 true _ ?side1 ?side2 ?side3 ?side4 A44.out).mono ?_); (case side1 => repeat (first | exact (Kd.R_reads' HO_11.out).2.2 | (with_reducible refine Kd.C_alloc ?_ _) | (with_reducible refine Kd.C_drewN ?_ _) | (with_reducible refine Kd.C_drew ?_))); (case side2 => exact (Kd.R_reads' HO_11.out).2.1); (case side3 => repeat (first | exact (Kd.R_reads' HO_14.out).2.2 | (with_reducible refine Kd.C_alloc ?_ _) | (with_reducible refine Kd.C_drewN ?_ _) | (with_reducible refine Kd.C_drew ?_))); (case side4 => exact (Kd.R_reads' HO_14.out).2.1); rintro e w' ⟨rfl, ⟨nd, rfl⟩⟩) | (go_at_call 12; (with_reducible refine (jobshelllaw07_awake.calls k3  t421 _ A46.out).mono ?_); rintro e w50 ⟨rfl, hb⟩; have n0_ := Aside0.mk (Kd.R_below (by (with_reducible repeat (first | apply Kd.R_alloc | apply Kd.R_drewN | apply Kd.R_drew)); exact HO_8.out) hb); have n1_ := Aside0.mk (Kd.R_below (by (with_reducible repeat (first | apply Kd.R_alloc | apply Kd.R_drewN | apply Kd.R_drew)); exact HO_11.out) hb); have n2_ := Aside0.mk (Kd.R_below (by (with_reducible repeat (first | apply Kd.R_alloc | apply Kd.R_drewN | apply Kd.R_drew)); exact HO_14.out) hb); have n3_ := Aside0.mk (below_step (by repeat (first | (with_reducible first | exact HB.out | apply below_alloc | apply pw_below_drewN | apply below_drew1) | exact HB.out)) hb); clear HO_8; clear HO_11; clear HO_14; clear HB; have HO_8 := n0_; have HO_11 := n1_; have HO_14 := n2_; have HB := n3_; clear n0_ n1_ n2_ n3_; (try clear hb); (try clear hb2); (try clear hk); (try clear hi)))
                  go_ret
                  exact ⟨by first | rfl | (simp [errW_none, errW_some] <;> rfl) | (simp only [← hji26]; first | rfl | (simp [errW_none, errW_some] <;> rfl)) | (simp [*, errW_none, errW_some] <;> rfl), by repeat (first | (with_reducible first | exact HB.out | apply below_alloc | apply pw_below_drewN | apply below_drew1) | exact HB.out)⟩
                 ·replace c45 := Bool.eq_false_iff.mpr c45
                  subst c45
                  have H1 : (some false) = some r := by rw [if_neg (show ¬ (false = true) by decide)] at H; exact H
                  clear H
                  have H := H1
                  clear H1
                  obtain rfl := Option.some.inj H
                  obtain ⟨Ao51, co51, eo51⟩ := Kd.R_slice HO_8.out
                  subst eo51
                  obtain ⟨Ao52, co52, eo52⟩ := Kd.R_slice HO_11.out
                  subst eo52
                  obtain ⟨Ao53, co53, eo53⟩ := Kd.R_slice HO_14.out
                  subst eo53
                  go_wp2_with (first | (go_at_call 25; (with_reducible refine (jobshellref07_Same.calls k3 _ _ t400 _ _ x14_3 false _ ?side1 ?side2 ?side3 ?side4 A44.out).mono ?_); (case side1 => repeat (first | exact (Kd.R_reads' HO_11.out).2.2 | (with_reducible refine Kd.C_alloc ?_ _) | (with_reducible refine Kd.C_drewN ?_ _) | (with_reducible refine Kd.C_drew ?_))); (case side2 => exact (Kd.R_reads' HO_11.out).2.1); (case side3 => repeat (first | exact (Kd.R_reads' HO_14.out).2.2 | (with_reducible refine Kd.C_alloc ?_ _) | (with_reducible refine Kd.C_drewN ?_ _) | (with_reducible refine Kd.C_drew ?_))); (case side4 => exact (Kd.R_reads' HO_14.out).2.1); rintro e w' ⟨rfl, ⟨nd, rfl⟩⟩))
                  go_ret
                  exact ⟨by first | rfl | (simp [errW_none, errW_some] <;> rfl) | (simp only [← hji26]; first | rfl | (simp [errW_none, errW_some] <;> rfl)) | (simp [*, errW_none, errW_some] <;> rfl), by repeat (first | (with_reducible first | exact HB.out | apply below_alloc | apply pw_below_drewN | apply below_drew1) | exact HB.out)⟩
                ·rw [if_neg c43] at H
                 have c43b0 : (t402 == 0) = false := beq_eq_false_iff_ne.mpr c43
                 have c43b1 : (t402 != 0) = true := bne_iff_ne.mpr c43
                 obtain rfl := Option.some.inj H
                 obtain ⟨Ao54, co54, eo54⟩ := Kd.R_slice HO_8.out
                 subst eo54
                 go_wp2
                 go_ret
                 exact ⟨by first | rfl | (simp [errW_none, errW_some] <;> rfl) | (simp only [← hji26]; first | rfl | (simp [errW_none, errW_some] <;> rfl)) | (simp [*, errW_none, errW_some] <;> rfl), by repeat (first | (with_reducible first | exact HB.out | apply below_alloc | apply pw_below_drewN | apply below_drew1) | exact HB.out)⟩
            ·rw [if_neg c30] at H
             exact absurd H (by simp)
           ·rw [if_neg c29] at H
            exact absurd H (by simp)
          ·rw [if_neg c28] at H
           exact absurd H (by simp)
         ·rw [if_neg c27] at H
          exact absurd H (by simp)
        ·rw [if_neg c24] at H
         exact absurd H (by simp)
       ·rw [if_neg c23] at H
        exact absurd H (by simp)

/-- THE ONE PURE STATEMENT of jobshelllaw07_LexerLines: yours. -/
def jobshelllaw07_LexerLines.Pure [ScanC] : Prop := ∀ (a0 : ByteArray) (a1 : ByteArray), a0.size ≤ 140737488351232 → a1.size ≤ 140737488351232 → ∃ k, jobshelllaw07_LexerLines.f k a0 a1 = some true
theorem jobshelllaw07_LexerLines.walk [ScanC] (P : jobshelllaw07_LexerLines.Pure) (a0 : ByteArray) (a1 : ByteArray) (w : World) (w0 : a0.size ≤ 140737488351232) (w1 : a1.size ≤ 140737488351232) :
  Calls Try.prog 10 #[.string a0, .string a1] w fun e w' => e = .returned (.bool true) ∧ Below w.heap.size w w' := by
 obtain ⟨k, h⟩ := P a0 a1 w0 w1
 refine (jobshelllaw07_LexerLines.calls k a0 a1 true w h).mono ?_
 rintro e w' ⟨rfl, hd⟩
 exact ⟨rfl, hd⟩

end Go.Proofs.Ythoanbjklgoggaa.PAll
