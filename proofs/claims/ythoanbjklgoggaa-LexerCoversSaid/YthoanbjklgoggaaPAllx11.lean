-- Written for this claim by a program of the session (wip/ext).
import Derived.Test.YthoanbjklgoggaaPAllx0
import Derived.Test.YthoanbjklgoggaaPAllx1
import Derived.Test.YthoanbjklgoggaaPAllx2
import Derived.Test.YthoanbjklgoggaaPAllx6
import Derived.Test.YthoanbjklgoggaaPAllx9
import Derived.Test.YthoanbjklgoggaaPAllx10
namespace Go.Proofs.Ythoanbjklgoggaa.PAll
open Go.RowKit Go.Proofs.YthoanbjklgoggaaW.PrintWords Go.Proofs.YthoanbjklgoggaaW.PrintLast Go.Proofs.YthoanbjklgoggaaW.PrintMore
attribute [local go_sem] max2_int min2_int max_two min_two max_three min_three max_four min_four   -- for this text's walks alone
set_option linter.unusedVariables false
set_option linter.unusedSimpArgs false

attribute [local go_sem high] eqA32
/-! ### jobshelllaw07_awake: function 12 -/
def jobshelllaw07_awake.j0 : Nat → List (S32) → Bool → Option (Bool)
 | 0, _, _ => none
 | k + 1, x1, x47 => if x47 = true then (some false) else (if 3 < (x1.length : Int) then (if (((rd_T32 x1 3).f0) == 4 && (((rd_T32 x1 3).f1) == 4 && (((rd_T32 x1 3).f2) == 5 && ((((rd_T32 x1 3).f3).toList) == ([50] : List UInt8))))) = true then (if 4 < (x1.length : Int) then (if ((rd_T32 x1 4).f3).toList = ([62, 38] : List UInt8) then (if 6 < (x1.length : Int) then (if (((rd_T32 x1 6).f0) == 5 && (((rd_T32 x1 6).f1) == 11 && (((rd_T32 x1 6).f2) == 11 && ((((rd_T32 x1 6).f3).toList) == ([] : List UInt8))))) = true then ((lexer_Skip.f k (⟨#[32, 9, 35, 120, 10, 121]⟩ : ByteArray) 0).bind fun t281 => (if t281 = 4 then ((lexer_Operator.f k (⟨#[60, 60, 45]⟩ : ByteArray)).bind fun t282 => (if t282 = true then ((lexer_Reserved.f (⟨#[101, 108, 105, 102]⟩ : ByteArray)).bind fun t283 => (some t283)) else (some false))) else (some false))) else (some false)) else (none)) else (some false)) else (none)) else (some false)) else (none))
def jobshelllaw07_awake.f [ScanC] (k : Nat)  : Option (Bool) := (lexer_All.f k (⟨#[97, 62, 98, 32, 50, 62, 38, 49, 32, 35, 99]⟩ : ByteArray)).bind fun bt269 => ((lexer_Close.f k (⟨#[36, 40, 40, 49, 43, 40, 50, 41, 41, 41]⟩ : ByteArray) 0).bind fun bt274 => ((lexer_Close.f k (⟨#[34, 36, 40, 97]⟩ : ByteArray) 0).bind fun bt276 => (if bt269.2.2 = 0 then (if bt269.2.1 = 0 then (if (bt269.1.length : Int) = 7 then (if bt274.2 = 0 then (if bt274.1 = 10 then (if bt276.2 = 7 then (jobshelllaw07_awake.j0 k bt269.1 (bt276.1 != 1)) else (jobshelllaw07_awake.j0 k bt269.1 true)) else (jobshelllaw07_awake.j0 k bt269.1 true)) else (jobshelllaw07_awake.j0 k bt269.1 true)) else (jobshelllaw07_awake.j0 k bt269.1 true)) else (jobshelllaw07_awake.j0 k bt269.1 true)) else (jobshelllaw07_awake.j0 k bt269.1 true))))
theorem jobshelllaw07_awake.mono_l [ScanC] : ∀ k, (∀ y0 y1, LeO (jobshelllaw07_awake.j0 k y0 y1) (jobshelllaw07_awake.j0 (k + 1) y0 y1))
 | 0 => fun _ _ r h => by simp [jobshelllaw07_awake.j0] at h
 | k + 1 => by
  have ih0 := jobshelllaw07_awake.mono_l k
  ·intro y0 y1
   unfold jobshelllaw07_awake.j0
   repeat' first
   | (with_reducible exact ih0 _ _)
   | (with_reducible exact lexer_All.mono _ _)
   | (with_reducible exact lexer_Close.mono _ _ _)
   | (with_reducible exact lexer_Operator.mono _ _)
   | (with_reducible exact lexer_Skip.mono _ _ _)
   | (with_reducible exact LeO.refl _)
   | (with_reducible exact LeO.none _)
   | (with_reducible refine LeO.ite ?_ ?_)
   | (with_reducible refine LeO.bind ?_ (fun _ => ?_))
   | exact ih0 _ _
   | exact lexer_All.mono _ _
   | exact lexer_Close.mono _ _ _
   | exact lexer_Operator.mono _ _
   | exact lexer_Skip.mono _ _ _
   | exact LeO.none _
   | refine LeO.ite ?_ ?_
   | refine LeO.bind ?_ (fun _ => ?_)
theorem jobshelllaw07_awake.mono [ScanC] : ∀ k, LeO (jobshelllaw07_awake.f k ) (jobshelllaw07_awake.f (k + 1) ) := by
 intro  k
 have ih0 := jobshelllaw07_awake.mono_l k
 unfold jobshelllaw07_awake.f
 repeat' first
   | (with_reducible exact ih0 _ _)
   | (with_reducible exact lexer_All.mono _ _)
   | (with_reducible exact lexer_Close.mono _ _ _)
   | (with_reducible exact lexer_Operator.mono _ _)
   | (with_reducible exact lexer_Skip.mono _ _ _)
   | (with_reducible exact LeO.refl _)
   | (with_reducible exact LeO.none _)
   | (with_reducible refine LeO.ite ?_ ?_)
   | (with_reducible refine LeO.bind ?_ (fun _ => ?_))
   | exact ih0 _ _
   | exact lexer_All.mono _ _
   | exact lexer_Close.mono _ _ _
   | exact lexer_Operator.mono _ _
   | exact lexer_Skip.mono _ _ _
   | exact LeO.none _
   | refine LeO.ite ?_ ?_
   | refine LeO.bind ?_ (fun _ => ?_)
set_option maxHeartbeats 3000000 in
set_option maxRecDepth 100000 in
theorem jobshelllaw07_awake.calls [ScanC] (k : Nat)  (r : Bool) (w : World) (h : jobshelllaw07_awake.f k  = some r) :
  Calls Try.prog 12 #[] w fun e w' => e = .returned (.bool r) ∧ Below w.heap.size w w' := by
 have hu32 := Try.underlying32
 have HB := Aside0.mk (Below.refl w.heap.size w)
 have H : ((lexer_All.f k (⟨#[97, 62, 98, 32, 50, 62, 38, 49, 32, 35, 99]⟩ : ByteArray)).bind fun bt269 => ((lexer_Close.f k (⟨#[36, 40, 40, 49, 43, 40, 50, 41, 41, 41]⟩ : ByteArray) 0).bind fun bt274 => ((lexer_Close.f k (⟨#[34, 36, 40, 97]⟩ : ByteArray) 0).bind fun bt276 => (if bt269.2.2 = 0 then (if bt269.2.1 = 0 then (if (bt269.1.length : Int) = 7 then (if bt274.2 = 0 then (if bt274.1 = 10 then (if bt276.2 = 7 then (jobshelllaw07_awake.j0 k bt269.1 (bt276.1 != 1)) else (jobshelllaw07_awake.j0 k bt269.1 true)) else (jobshelllaw07_awake.j0 k bt269.1 true)) else (jobshelllaw07_awake.j0 k bt269.1 true)) else (jobshelllaw07_awake.j0 k bt269.1 true)) else (jobshelllaw07_awake.j0 k bt269.1 true)) else (jobshelllaw07_awake.j0 k bt269.1 true))))) = some r := h
 clear h
 replace H := Option.bind_eq_some_iff.mp H
 obtain ⟨⟨t269, t270, t271⟩, A10, H⟩ := H
 replace H : ((lexer_Close.f k (⟨#[36, 40, 40, 49, 43, 40, 50, 41, 41, 41]⟩ : ByteArray) 0).bind fun bt274 => ((lexer_Close.f k (⟨#[34, 36, 40, 97]⟩ : ByteArray) 0).bind fun bt276 => (if t271 = 0 then (if t270 = 0 then (if (t269.length : Int) = 7 then (if bt274.2 = 0 then (if bt274.1 = 10 then (if bt276.2 = 7 then (jobshelllaw07_awake.j0 k t269 (bt276.1 != 1)) else (jobshelllaw07_awake.j0 k t269 true)) else (jobshelllaw07_awake.j0 k t269 true)) else (jobshelllaw07_awake.j0 k t269 true)) else (jobshelllaw07_awake.j0 k t269 true)) else (jobshelllaw07_awake.j0 k t269 true)) else (jobshelllaw07_awake.j0 k t269 true)))) = some r := H
 have A1 := Aside0.mk A10
 clear A10
 replace H := Option.bind_eq_some_iff.mp H
 obtain ⟨⟨t274, t275⟩, A20, H⟩ := H
 replace H : ((lexer_Close.f k (⟨#[34, 36, 40, 97]⟩ : ByteArray) 0).bind fun bt276 => (if t271 = 0 then (if t270 = 0 then (if (t269.length : Int) = 7 then (if t275 = 0 then (if t274 = 10 then (if bt276.2 = 7 then (jobshelllaw07_awake.j0 k t269 (bt276.1 != 1)) else (jobshelllaw07_awake.j0 k t269 true)) else (jobshelllaw07_awake.j0 k t269 true)) else (jobshelllaw07_awake.j0 k t269 true)) else (jobshelllaw07_awake.j0 k t269 true)) else (jobshelllaw07_awake.j0 k t269 true)) else (jobshelllaw07_awake.j0 k t269 true))) = some r := H
 have A2 := Aside0.mk A20
 clear A20
 replace H := Option.bind_eq_some_iff.mp H
 obtain ⟨⟨t276, t277⟩, A30, H⟩ := H
 replace H : (if t271 = 0 then (if t270 = 0 then (if (t269.length : Int) = 7 then (if t275 = 0 then (if t274 = 10 then (if t277 = 7 then (jobshelllaw07_awake.j0 k t269 (t276 != 1)) else (jobshelllaw07_awake.j0 k t269 true)) else (jobshelllaw07_awake.j0 k t269 true)) else (jobshelllaw07_awake.j0 k t269 true)) else (jobshelllaw07_awake.j0 k t269 true)) else (jobshelllaw07_awake.j0 k t269 true)) else (jobshelllaw07_awake.j0 k t269 true)) = some r := H
 have A3 := Aside0.mk A30
 clear A30
 have HC4 := Aside0.mk H
 clear H
 go_enter Try.func12, Try.ntmps12
 go_upto_region 4 with (first | ((with_reducible refine gate_callee (f := 23) rfl ?_); refine goesL_ (some 9) rfl rfl Try.func23 (by kernel_rfl) rfl #[.string (⟨#[97, 62, 98, 32, 50, 62, 38, 49, 32, 35, 99]⟩ : ByteArray)] rfl (by (try simp only [List.map_toArray, List.map_cons, List.map_nil]); first | done | rfl | (simp only [List.length_drop, List.length_take]; rfl)) ?_; (with_reducible refine (lexer_All.calls k (⟨#[97, 62, 98, 32, 50, 62, 38, 49, 32, 35, 99]⟩ : ByteArray) t269 t270 t271 _ A1.out).mono ?_); rintro e w5 ⟨v272, rfl, ho0, hb⟩; refine ⟨_, rfl, ?_⟩; have n0_ := Aside0.mk (Kd.R_lower ho0 (below_size (by repeat (first | (with_reducible first | exact HB.out | apply below_alloc | apply pw_below_drewN | apply below_drew1) | exact HB.out)))); have n1_ := Aside0.mk (below_step (by repeat (first | (with_reducible first | exact HB.out | apply below_alloc | apply pw_below_drewN | apply below_drew1) | exact HB.out)) hb); clear HB; have HO273 := n0_; have HB := n1_; clear n0_ n1_; (try clear hb); (try clear hb2); (try clear hk); (try clear hi); (try clear ho0)) | ((with_reducible refine gate_callee (f := 19) rfl ?_); refine goesL_ (some 14) rfl rfl Try.func19 (by kernel_rfl) rfl #[.string (⟨#[36, 40, 40, 49, 43, 40, 50, 41, 41, 41]⟩ : ByteArray), .int .i64 0] rfl (by (try simp only [List.map_toArray, List.map_cons, List.map_nil]); first | done | rfl | (simp only [List.length_drop, List.length_take]; rfl)) ?_; (with_reducible refine (lexer_Close.calls k (⟨#[36, 40, 40, 49, 43, 40, 50, 41, 41, 41]⟩ : ByteArray) 0 t274 t275 _ A2.out).mono ?_); rintro e w6 ⟨rfl, hb⟩; refine ⟨_, rfl, ?_⟩; have n0_ := Aside0.mk (Kd.R_below (by (with_reducible repeat (first | apply Kd.R_alloc | apply Kd.R_drewN | apply Kd.R_drew)); exact HO273.out) hb); have n1_ := Aside0.mk (below_step (by repeat (first | (with_reducible first | exact HB.out | apply below_alloc | apply pw_below_drewN | apply below_drew1) | exact HB.out)) hb); clear HO273; clear HB; have HO273 := n0_; have HB := n1_; clear n0_ n1_; (try clear hb); (try clear hb2); (try clear hk); (try clear hi)) | ((with_reducible refine gate_callee (f := 19) rfl ?_); refine goesL_ (some 18) rfl rfl Try.func19 (by kernel_rfl) rfl #[.string (⟨#[34, 36, 40, 97]⟩ : ByteArray), .int .i64 0] rfl (by (try simp only [List.map_toArray, List.map_cons, List.map_nil]); first | done | rfl | (simp only [List.length_drop, List.length_take]; rfl)) ?_; (with_reducible refine (lexer_Close.calls k (⟨#[34, 36, 40, 97]⟩ : ByteArray) 0 t276 t277 _ A3.out).mono ?_); rintro e w7 ⟨rfl, hb⟩; refine ⟨_, rfl, ?_⟩; have n0_ := Aside0.mk (Kd.R_below (by (with_reducible repeat (first | apply Kd.R_alloc | apply Kd.R_drewN | apply Kd.R_drew)); exact HO273.out) hb); have n1_ := Aside0.mk (below_step (by repeat (first | (with_reducible first | exact HB.out | apply below_alloc | apply pw_below_drewN | apply below_drew1) | exact HB.out)) hb); clear HO273; clear HB; have HO273 := n0_; have HB := n1_; clear n0_ n1_; (try clear hb); (try clear hb2); (try clear hk); (try clear hi)))
 (try simp only [Act.put, List.setIfInBounds_toArray, List.set_cons_zero, List.set_cons_succ])
 go_cut [47] (fun v47 wc => ∃ (kq : Nat) (x47_3 : Bool), v47 = .bool x47_3 ∧ Aside0 (jobshelllaw07_awake.j0 kq t269 x47_3 = some r) ∧ Aside0 (kq ≤ k) ∧ Aside0 (Kd.R k32 32 wc w.heap.size (fun _ => True) v272 t269) ∧ Aside0 (Below w.heap.size w wc))
 case first =>
  have H := HC4.out
  clear HC4
  by_cases c8 : t271 = 0
  ·rw [if_pos c8] at H
   have c8b0 : (t271 == 0) = true := beq_iff_eq.mpr c8
   have c8b1 : (t271 != 0) = false := bne_eq_false_iff_eq.mpr c8
   clear c8
   (first | rw [c8b0] | (simp only [i64_w, i32_w]; rw [c8b0]) | skip)
   by_cases c9 : t270 = 0
   ·rw [if_pos c9] at H
    have c9b0 : (t270 == 0) = true := beq_iff_eq.mpr c9
    have c9b1 : (t270 != 0) = false := bne_eq_false_iff_eq.mpr c9
    clear c9
    by_cases c10 : (t269.length : Int) = 7
    ·rw [if_pos c10] at H
     have c10b0 : ((t269.length : Int) == 7) = true := beq_iff_eq.mpr c10
     have c10b1 : ((t269.length : Int) != 7) = false := bne_eq_false_iff_eq.mpr c10
     clear c10
     by_cases c11 : t275 = 0
     ·rw [if_pos c11] at H
      have c11b0 : (t275 == 0) = true := beq_iff_eq.mpr c11
      have c11b1 : (t275 != 0) = false := bne_eq_false_iff_eq.mpr c11
      clear c11
      by_cases c12 : t274 = 10
      ·rw [if_pos c12] at H
       have c12b0 : (t274 == 10) = true := beq_iff_eq.mpr c12
       have c12b1 : (t274 != 10) = false := bne_eq_false_iff_eq.mpr c12
       clear c12
       by_cases c13 : t277 = 7
       ·rw [if_pos c13] at H
        have c13b0 : (t277 == 7) = true := beq_iff_eq.mpr c13
        have c13b1 : (t277 != 7) = false := bne_eq_false_iff_eq.mpr c13
        clear c13
        have H' := Aside0.mk H
        clear H
        obtain ⟨Ao14, co14, eo14⟩ := Kd.R_slice HO273.out
        subst eo14
        go_wp2
        go_meet
        case rel => exact ⟨_, ((t276 != 1)), (by first | rfl | (simp; done) | (simp [*]; done)), H', ⟨by first | omega | exact Nat.le_refl _⟩, ⟨by (with_reducible repeat (first | apply Kd.R_alloc | apply Kd.R_drewN | apply Kd.R_drew)); exact HO273.out⟩, ⟨by repeat (first | (with_reducible first | exact HB.out | apply below_alloc | apply pw_below_drewN | apply below_drew1) | exact HB.out)⟩⟩
       ·rw [if_neg c13] at H
        have c13b0 : (t277 == 7) = false := beq_eq_false_iff_ne.mpr c13
        have c13b1 : (t277 != 7) = true := bne_iff_ne.mpr c13
        have H' := Aside0.mk H
        clear H
        obtain ⟨Ao15, co15, eo15⟩ := Kd.R_slice HO273.out
        subst eo15
        go_wp2
        go_meet
        case rel => exact ⟨_, (true), (by first | rfl | (simp; done) | (simp [*]; done)), H', ⟨by first | omega | exact Nat.le_refl _⟩, ⟨by (with_reducible repeat (first | apply Kd.R_alloc | apply Kd.R_drewN | apply Kd.R_drew)); exact HO273.out⟩, ⟨by repeat (first | (with_reducible first | exact HB.out | apply below_alloc | apply pw_below_drewN | apply below_drew1) | exact HB.out)⟩⟩
      ·rw [if_neg c12] at H
       have c12b0 : (t274 == 10) = false := beq_eq_false_iff_ne.mpr c12
       have c12b1 : (t274 != 10) = true := bne_iff_ne.mpr c12
       have H' := Aside0.mk H
       clear H
       obtain ⟨Ao16, co16, eo16⟩ := Kd.R_slice HO273.out
       subst eo16
       go_wp2
       go_meet
       case rel => exact ⟨_, (true), (by first | rfl | (simp; done) | (simp [*]; done)), H', ⟨by first | omega | exact Nat.le_refl _⟩, ⟨by (with_reducible repeat (first | apply Kd.R_alloc | apply Kd.R_drewN | apply Kd.R_drew)); exact HO273.out⟩, ⟨by repeat (first | (with_reducible first | exact HB.out | apply below_alloc | apply pw_below_drewN | apply below_drew1) | exact HB.out)⟩⟩
     ·rw [if_neg c11] at H
      have c11b0 : (t275 == 0) = false := beq_eq_false_iff_ne.mpr c11
      have c11b1 : (t275 != 0) = true := bne_iff_ne.mpr c11
      have H' := Aside0.mk H
      clear H
      obtain ⟨Ao17, co17, eo17⟩ := Kd.R_slice HO273.out
      subst eo17
      go_wp2
      go_meet
      case rel => exact ⟨_, (true), (by first | rfl | (simp; done) | (simp [*]; done)), H', ⟨by first | omega | exact Nat.le_refl _⟩, ⟨by (with_reducible repeat (first | apply Kd.R_alloc | apply Kd.R_drewN | apply Kd.R_drew)); exact HO273.out⟩, ⟨by repeat (first | (with_reducible first | exact HB.out | apply below_alloc | apply pw_below_drewN | apply below_drew1) | exact HB.out)⟩⟩
    ·rw [if_neg c10] at H
     have c10b0 : ((t269.length : Int) == 7) = false := beq_eq_false_iff_ne.mpr c10
     have c10b1 : ((t269.length : Int) != 7) = true := bne_iff_ne.mpr c10
     have H' := Aside0.mk H
     clear H
     obtain ⟨Ao18, co18, eo18⟩ := Kd.R_slice HO273.out
     subst eo18
     go_wp2
     go_meet
     case rel => exact ⟨_, (true), (by first | rfl | (simp; done) | (simp [*]; done)), H', ⟨by first | omega | exact Nat.le_refl _⟩, ⟨by (with_reducible repeat (first | apply Kd.R_alloc | apply Kd.R_drewN | apply Kd.R_drew)); exact HO273.out⟩, ⟨by repeat (first | (with_reducible first | exact HB.out | apply below_alloc | apply pw_below_drewN | apply below_drew1) | exact HB.out)⟩⟩
   ·rw [if_neg c9] at H
    have c9b0 : (t270 == 0) = false := beq_eq_false_iff_ne.mpr c9
    have c9b1 : (t270 != 0) = true := bne_iff_ne.mpr c9
    have H' := Aside0.mk H
    clear H
    go_wp2
    go_meet
    case rel => exact ⟨_, (true), (by first | rfl | (simp; done) | (simp [*]; done)), H', ⟨by first | omega | exact Nat.le_refl _⟩, ⟨by (with_reducible repeat (first | apply Kd.R_alloc | apply Kd.R_drewN | apply Kd.R_drew)); exact HO273.out⟩, ⟨by repeat (first | (with_reducible first | exact HB.out | apply below_alloc | apply pw_below_drewN | apply below_drew1) | exact HB.out)⟩⟩
  ·rw [if_neg c8] at H
   have c8b0 : (t271 == 0) = false := beq_eq_false_iff_ne.mpr c8
   have c8b1 : (t271 != 0) = true := bne_iff_ne.mpr c8
   (first | rw [c8b0] | (simp only [i64_w, i32_w]; rw [c8b0]) | skip)
   have H' := Aside0.mk H
   clear H
   go_wp2
   go_meet
   case rel => exact ⟨_, (true), (by first | rfl | (simp; done) | (simp [*]; done)), H', ⟨by first | omega | exact Nat.le_refl _⟩, ⟨by (with_reducible repeat (first | apply Kd.R_alloc | apply Kd.R_drewN | apply Kd.R_drew)); exact HO273.out⟩, ⟨by repeat (first | (with_reducible first | exact HB.out | apply below_alloc | apply pw_below_drewN | apply below_drew1) | exact HB.out)⟩⟩
 case rest =>
  clear HC4
  try clear c1
  try clear c2
  try clear p2
  try clear c8
  try clear c8b0
  try clear c8b1
  try clear c9
  try clear c9b0
  try clear c9b1
  try clear c10
  try clear c10b0
  try clear c10b1
  try clear c11
  try clear c11b0
  try clear c11b1
  try clear c12
  try clear c12b0
  try clear c12b1
  try clear c13
  try clear c13b0
  try clear c13b1
  obtain ⟨kq, x47_3, rfl, HA, HJ3, HO_1, HB⟩ := hcut
  cases kq with
  | zero => exact absurd HA.out (by simp [jobshelllaw07_awake.j0])
  | succ kj3 =>
   have H := HA.out
   clear HA
   simp only [jobshelllaw07_awake.j0] at H
   by_cases c19 : x47_3 = true
   ·subst c19
    have H1 : (some false) = some r := by rw [if_pos rfl] at H; exact H
    clear H
    have H := H1
    clear H1
    obtain rfl := Option.some.inj H
    go_wp2
    go_ret
    exact ⟨by first | rfl | (simp [errW_none, errW_some] <;> rfl) | (simp [*, errW_none, errW_some] <;> rfl), by repeat (first | (with_reducible first | exact HB.out | apply below_alloc | apply pw_below_drewN | apply below_drew1) | exact HB.out)⟩
   ·replace c19 := Bool.eq_false_iff.mpr c19
    subst c19
    have H1 : (if 3 < (t269.length : Int) then (if (((rd_T32 t269 3).f0) == 4 && (((rd_T32 t269 3).f1) == 4 && (((rd_T32 t269 3).f2) == 5 && ((((rd_T32 t269 3).f3).toList) == ([50] : List UInt8))))) = true then (if 4 < (t269.length : Int) then (if ((rd_T32 t269 4).f3).toList = ([62, 38] : List UInt8) then (if 6 < (t269.length : Int) then (if (((rd_T32 t269 6).f0) == 5 && (((rd_T32 t269 6).f1) == 11 && (((rd_T32 t269 6).f2) == 11 && ((((rd_T32 t269 6).f3).toList) == ([] : List UInt8))))) = true then ((lexer_Skip.f kj3 (⟨#[32, 9, 35, 120, 10, 121]⟩ : ByteArray) 0).bind fun t281 => (if t281 = 4 then ((lexer_Operator.f kj3 (⟨#[60, 60, 45]⟩ : ByteArray)).bind fun t282 => (if t282 = true then ((lexer_Reserved.f (⟨#[101, 108, 105, 102]⟩ : ByteArray)).bind fun t283 => (some t283)) else (some false))) else (some false))) else (some false)) else (none)) else (some false)) else (none)) else (some false)) else (none)) = some r := by rw [if_neg (show ¬ (false = true) by decide)] at H; exact H
    clear H
    have H := H1
    clear H1
    by_cases c20 : 3 < (t269.length : Int)
    ·rw [if_pos c20] at H
     have c20b0 : decide (3 < (t269.length : Int)) = true := decide_eq_true c20
     have c20b1 : decide (3 < t269.length) = true := decide_eq_true (by omega)
     clear c20
     by_cases c21 : (((rd_T32 t269 3).f0) == 4 && (((rd_T32 t269 3).f1) == 4 && (((rd_T32 t269 3).f2) == 5 && ((((rd_T32 t269 3).f3).toList) == ([50] : List UInt8))))) = true
     ·rw [if_pos c21] at H
      have c21b0 : (((rd_T32 t269 3).f0) == 4 && (((rd_T32 t269 3).f1) == 4 && (((rd_T32 t269 3).f2) == 5 && ((((rd_T32 t269 3).f3).toList) == ([50] : List UInt8))))) = true := c21
      (try (have c21b1 : decide (((rd_T32 t269 3).f0) = 4 && (((rd_T32 t269 3).f1) == 4 && (((rd_T32 t269 3).f2) == 5 && ((((rd_T32 t269 3).f3).toList) == ([50] : List UInt8))))) = true := by simpa using c21))
      (try (have c21b2 : (((rd_T32 t269 3).f0) == 4 && (((rd_T32 t269 3).f1) == 4 && (((rd_T32 t269 3).f2) == 5 && ((((rd_T32 t269 3).f3).toList) == ([50] : List UInt8))))) = true := by simpa using c21))
      clear c21
      by_cases c22 : 4 < (t269.length : Int)
      ·rw [if_pos c22] at H
       have c22b0 : decide (4 < (t269.length : Int)) = true := decide_eq_true c22
       have c22b1 : decide (4 < t269.length) = true := decide_eq_true (by omega)
       clear c22
       by_cases c23 : ((rd_T32 t269 4).f3).toList = ([62, 38] : List UInt8)
       ·rw [if_pos c23] at H
        have c23b0 : (((rd_T32 t269 4).f3).toList == ([62, 38] : List UInt8)) = true := beq_iff_eq.mpr c23
        have c23b1 : (((rd_T32 t269 4).f3).toList != ([62, 38] : List UInt8)) = false := bne_eq_false_iff_eq.mpr c23
        clear c23
        by_cases c24 : 6 < (t269.length : Int)
        ·rw [if_pos c24] at H
         have c24b0 : decide (6 < (t269.length : Int)) = true := decide_eq_true c24
         have c24b1 : decide (6 < t269.length) = true := decide_eq_true (by omega)
         clear c24
         by_cases c25 : (((rd_T32 t269 6).f0) == 5 && (((rd_T32 t269 6).f1) == 11 && (((rd_T32 t269 6).f2) == 11 && ((((rd_T32 t269 6).f3).toList) == ([] : List UInt8))))) = true
         ·rw [if_pos c25] at H
          have c25b0 : (((rd_T32 t269 6).f0) == 5 && (((rd_T32 t269 6).f1) == 11 && (((rd_T32 t269 6).f2) == 11 && ((((rd_T32 t269 6).f3).toList) == ([] : List UInt8))))) = true := c25
          have c25b7 : (((rd_T32 t269 6).f0) == 5 && (((rd_T32 t269 6).f1) == 11 && (((rd_T32 t269 6).f2) == 11 && (((rd_T32 t269 6).f3).toList).isEmpty))) = true := by simpa using c25
          (try (have c25b1 : decide (((rd_T32 t269 6).f0) = 5 && (((rd_T32 t269 6).f1) == 11 && (((rd_T32 t269 6).f2) == 11 && ((((rd_T32 t269 6).f3).toList) == ([] : List UInt8))))) = true := by simpa using c25))
          (try (have c25b2 : (((rd_T32 t269 6).f0) == 5 && (((rd_T32 t269 6).f1) == 11 && (((rd_T32 t269 6).f2) == 11 && ((((rd_T32 t269 6).f3).toList) == ([] : List UInt8))))) = true := by simpa using c25))
          clear c25
          replace H := Option.bind_eq_some_iff.mp H
          obtain ⟨t281, A260, H⟩ := H
          replace H : (if t281 = 4 then ((lexer_Operator.f kj3 (⟨#[60, 60, 45]⟩ : ByteArray)).bind fun t282 => (if t282 = true then ((lexer_Reserved.f (⟨#[101, 108, 105, 102]⟩ : ByteArray)).bind fun t283 => (some t283)) else (some false))) else (some false)) = some r := H
          have A26 := Aside0.mk A260
          clear A260
          by_cases c27 : t281 = 4
          ·rw [if_pos c27] at H
           have c27b0 : (t281 == 4) = true := beq_iff_eq.mpr c27
           have c27b1 : (t281 != 4) = false := bne_eq_false_iff_eq.mpr c27
           clear c27
           replace H := Option.bind_eq_some_iff.mp H
           obtain ⟨t282, A280, H⟩ := H
           replace H : (if t282 = true then ((lexer_Reserved.f (⟨#[101, 108, 105, 102]⟩ : ByteArray)).bind fun t283 => (some t283)) else (some false)) = some r := H
           have A28 := Aside0.mk A280
           clear A280
           by_cases c29 : t282 = true
           ·subst c29
            have H1 : ((lexer_Reserved.f (⟨#[101, 108, 105, 102]⟩ : ByteArray)).bind fun t283 => (some t283)) = some r := by rw [if_pos rfl] at H; exact H
            clear H
            have H := H1
            clear H1
            replace H := Option.bind_eq_some_iff.mp H
            obtain ⟨t283, A300, H⟩ := H
            replace H : (some t283) = some r := H
            have A30 := Aside0.mk A300
            clear A300
            obtain rfl := Option.some.inj H
            obtain ⟨Ao31, co31, eo31⟩ := Kd.R_slice HO_1.out
            subst eo31
            have p278 : 0 ≤ (3 : Int) := (by omega)
            have q278 : 3 < (t269.length : Int) := of_decide_eq_true (by first | (with_reducible assumption) | assumption)
            obtain ⟨ad278, e278, hx278_0, hx278_1, hx278_2, hx278_3⟩ := at_T32 (Kd.R_reads' HO_1.out).2.2 3 p278 q278
            cases e278
            (try simp only [show (3 : Int).toNat = 3 from rfl, Nat.reduceMul, Nat.reduceEqDiff, Go.Addr.add, ↓reduceIte] at hx278_0)
            (try simp only [show (3 : Int).toNat = 3 from rfl, Nat.reduceMul, Nat.reduceEqDiff, Go.Addr.add, ↓reduceIte] at hx278_1)
            (try simp only [show (3 : Int).toNat = 3 from rfl, Nat.reduceMul, Nat.reduceEqDiff, Go.Addr.add, ↓reduceIte] at hx278_2)
            (try simp only [show (3 : Int).toNat = 3 from rfl, Nat.reduceMul, Nat.reduceEqDiff, Go.Addr.add, ↓reduceIte] at hx278_3)
            have qi278 : (3 < t269.length) = True := eq_true (by omega)
            (try rw [show ((3 : Int)).toNat = 3 from rfl] at hx278_0)
            (try rw [show 3 * 4 = 12 from rfl] at hx278_0)
            (try rw [show ((3 : Int)).toNat = 3 from rfl] at hx278_1)
            (try rw [show 3 * 4 = 12 from rfl] at hx278_1)
            (try rw [show ((3 : Int)).toNat = 3 from rfl] at hx278_2)
            (try rw [show 3 * 4 = 12 from rfl] at hx278_2)
            (try rw [show ((3 : Int)).toNat = 3 from rfl] at hx278_3)
            (try rw [show 3 * 4 = 12 from rfl] at hx278_3)
            replace p278 := eq_true p278
            replace q278 := eq_true q278
            have p279 : 0 ≤ (4 : Int) := (by omega)
            have q279 : 4 < (t269.length : Int) := of_decide_eq_true (by first | (with_reducible assumption) | assumption)
            obtain ⟨ad279, e279, hx279_0, hx279_1, hx279_2, hx279_3⟩ := at_T32 (Kd.R_reads' HO_1.out).2.2 4 p279 q279
            obtain rfl : ad278 = ad279 := (by injection e279)
            (try simp only [show (4 : Int).toNat = 4 from rfl, Nat.reduceMul, Nat.reduceEqDiff, Go.Addr.add, ↓reduceIte] at hx279_0)
            (try simp only [show (4 : Int).toNat = 4 from rfl, Nat.reduceMul, Nat.reduceEqDiff, Go.Addr.add, ↓reduceIte] at hx279_1)
            (try simp only [show (4 : Int).toNat = 4 from rfl, Nat.reduceMul, Nat.reduceEqDiff, Go.Addr.add, ↓reduceIte] at hx279_2)
            (try simp only [show (4 : Int).toNat = 4 from rfl, Nat.reduceMul, Nat.reduceEqDiff, Go.Addr.add, ↓reduceIte] at hx279_3)
            have qi279 : (4 < t269.length) = True := eq_true (by omega)
            (try rw [show ((4 : Int)).toNat = 4 from rfl] at hx279_0)
            (try rw [show 4 * 4 = 16 from rfl] at hx279_0)
            (try rw [show ((4 : Int)).toNat = 4 from rfl] at hx279_1)
            (try rw [show 4 * 4 = 16 from rfl] at hx279_1)
            (try rw [show ((4 : Int)).toNat = 4 from rfl] at hx279_2)
            (try rw [show 4 * 4 = 16 from rfl] at hx279_2)
            (try rw [show ((4 : Int)).toNat = 4 from rfl] at hx279_3)
            (try rw [show 4 * 4 = 16 from rfl] at hx279_3)
            replace p279 := eq_true p279
            replace q279 := eq_true q279
            have p280 : 0 ≤ (6 : Int) := (by omega)
            have q280 : 6 < (t269.length : Int) := of_decide_eq_true (by first | (with_reducible assumption) | assumption)
            obtain ⟨ad280, e280, hx280_0, hx280_1, hx280_2, hx280_3⟩ := at_T32 (Kd.R_reads' HO_1.out).2.2 6 p280 q280
            obtain rfl : ad278 = ad280 := (by injection e280)
            (try simp only [show (6 : Int).toNat = 6 from rfl, Nat.reduceMul, Nat.reduceEqDiff, Go.Addr.add, ↓reduceIte] at hx280_0)
            (try simp only [show (6 : Int).toNat = 6 from rfl, Nat.reduceMul, Nat.reduceEqDiff, Go.Addr.add, ↓reduceIte] at hx280_1)
            (try simp only [show (6 : Int).toNat = 6 from rfl, Nat.reduceMul, Nat.reduceEqDiff, Go.Addr.add, ↓reduceIte] at hx280_2)
            (try simp only [show (6 : Int).toNat = 6 from rfl, Nat.reduceMul, Nat.reduceEqDiff, Go.Addr.add, ↓reduceIte] at hx280_3)
            have qi280 : (6 < t269.length) = True := eq_true (by omega)
            (try rw [show ((6 : Int)).toNat = 6 from rfl] at hx280_0)
            (try rw [show 6 * 4 = 24 from rfl] at hx280_0)
            (try rw [show ((6 : Int)).toNat = 6 from rfl] at hx280_1)
            (try rw [show 6 * 4 = 24 from rfl] at hx280_1)
            (try rw [show ((6 : Int)).toNat = 6 from rfl] at hx280_2)
            (try rw [show 6 * 4 = 24 from rfl] at hx280_2)
            (try rw [show ((6 : Int)).toNat = 6 from rfl] at hx280_3)
            (try rw [show 6 * 4 = 24 from rfl] at hx280_3)
            replace p280 := eq_true p280
            replace q280 := eq_true q280
            go_wp2_with (first | (go_at_call 17; (with_reducible refine (lexer_Skip.calls kj3 (⟨#[32, 9, 35, 120, 10, 121]⟩ : ByteArray) 0 t281 _ A26.out).mono ?_); rintro e w32 ⟨rfl, hb⟩; have n0_ := Aside0.mk (Kd.R_below (by (with_reducible repeat (first | apply Kd.R_alloc | apply Kd.R_drewN | apply Kd.R_drew)); exact HO_1.out) hb); have n1_ := Aside0.mk (below_step (by repeat (first | (with_reducible first | exact HB.out | apply below_alloc | apply pw_below_drewN | apply below_drew1) | exact HB.out)) hb); clear HO_1; clear HB; have HO_1 := n0_; have HB := n1_; clear n0_ n1_; (try clear hb); (try clear hb2); (try clear hk); (try clear hi)) | (go_at_call 13; (with_reducible refine (lexer_Operator.calls kj3 (⟨#[60, 60, 45]⟩ : ByteArray) true _ A28.out).mono ?_); rintro e w33 ⟨rfl, hb⟩; have n0_ := Aside0.mk (Kd.R_below (by (with_reducible repeat (first | apply Kd.R_alloc | apply Kd.R_drewN | apply Kd.R_drew)); exact HO_1.out) hb); have n1_ := Aside0.mk (below_step (by repeat (first | (with_reducible first | exact HB.out | apply below_alloc | apply pw_below_drewN | apply below_drew1) | exact HB.out)) hb); clear HO_1; clear HB; have HO_1 := n0_; have HB := n1_; clear n0_ n1_; (try clear hb); (try clear hb2); (try clear hk); (try clear hi)) | (go_at_call 15; (with_reducible refine (lexer_Reserved.calls (⟨#[101, 108, 105, 102]⟩ : ByteArray) t283 _ A30.out).mono ?_); rintro e w' ⟨rfl, ⟨nd, rfl⟩⟩))
            go_ret
            exact ⟨by first | rfl | (simp [errW_none, errW_some] <;> rfl) | (simp [*, errW_none, errW_some] <;> rfl), by repeat (first | (with_reducible first | exact HB.out | apply below_alloc | apply pw_below_drewN | apply below_drew1) | exact HB.out)⟩
           ·replace c29 := Bool.eq_false_iff.mpr c29
            subst c29
            have H1 : (some false) = some r := by rw [if_neg (show ¬ (false = true) by decide)] at H; exact H
            clear H
            have H := H1
            clear H1
            obtain rfl := Option.some.inj H
            obtain ⟨Ao34, co34, eo34⟩ := Kd.R_slice HO_1.out
            subst eo34
            have p278 : 0 ≤ (3 : Int) := (by omega)
            have q278 : 3 < (t269.length : Int) := of_decide_eq_true (by first | (with_reducible assumption) | assumption)
            obtain ⟨ad278, e278, hx278_0, hx278_1, hx278_2, hx278_3⟩ := at_T32 (Kd.R_reads' HO_1.out).2.2 3 p278 q278
            cases e278
            (try simp only [show (3 : Int).toNat = 3 from rfl, Nat.reduceMul, Nat.reduceEqDiff, Go.Addr.add, ↓reduceIte] at hx278_0)
            (try simp only [show (3 : Int).toNat = 3 from rfl, Nat.reduceMul, Nat.reduceEqDiff, Go.Addr.add, ↓reduceIte] at hx278_1)
            (try simp only [show (3 : Int).toNat = 3 from rfl, Nat.reduceMul, Nat.reduceEqDiff, Go.Addr.add, ↓reduceIte] at hx278_2)
            (try simp only [show (3 : Int).toNat = 3 from rfl, Nat.reduceMul, Nat.reduceEqDiff, Go.Addr.add, ↓reduceIte] at hx278_3)
            have qi278 : (3 < t269.length) = True := eq_true (by omega)
            (try rw [show ((3 : Int)).toNat = 3 from rfl] at hx278_0)
            (try rw [show 3 * 4 = 12 from rfl] at hx278_0)
            (try rw [show ((3 : Int)).toNat = 3 from rfl] at hx278_1)
            (try rw [show 3 * 4 = 12 from rfl] at hx278_1)
            (try rw [show ((3 : Int)).toNat = 3 from rfl] at hx278_2)
            (try rw [show 3 * 4 = 12 from rfl] at hx278_2)
            (try rw [show ((3 : Int)).toNat = 3 from rfl] at hx278_3)
            (try rw [show 3 * 4 = 12 from rfl] at hx278_3)
            replace p278 := eq_true p278
            replace q278 := eq_true q278
            have p279 : 0 ≤ (4 : Int) := (by omega)
            have q279 : 4 < (t269.length : Int) := of_decide_eq_true (by first | (with_reducible assumption) | assumption)
            obtain ⟨ad279, e279, hx279_0, hx279_1, hx279_2, hx279_3⟩ := at_T32 (Kd.R_reads' HO_1.out).2.2 4 p279 q279
            obtain rfl : ad278 = ad279 := (by injection e279)
            (try simp only [show (4 : Int).toNat = 4 from rfl, Nat.reduceMul, Nat.reduceEqDiff, Go.Addr.add, ↓reduceIte] at hx279_0)
            (try simp only [show (4 : Int).toNat = 4 from rfl, Nat.reduceMul, Nat.reduceEqDiff, Go.Addr.add, ↓reduceIte] at hx279_1)
            (try simp only [show (4 : Int).toNat = 4 from rfl, Nat.reduceMul, Nat.reduceEqDiff, Go.Addr.add, ↓reduceIte] at hx279_2)
            (try simp only [show (4 : Int).toNat = 4 from rfl, Nat.reduceMul, Nat.reduceEqDiff, Go.Addr.add, ↓reduceIte] at hx279_3)
            have qi279 : (4 < t269.length) = True := eq_true (by omega)
            (try rw [show ((4 : Int)).toNat = 4 from rfl] at hx279_0)
            (try rw [show 4 * 4 = 16 from rfl] at hx279_0)
            (try rw [show ((4 : Int)).toNat = 4 from rfl] at hx279_1)
            (try rw [show 4 * 4 = 16 from rfl] at hx279_1)
            (try rw [show ((4 : Int)).toNat = 4 from rfl] at hx279_2)
            (try rw [show 4 * 4 = 16 from rfl] at hx279_2)
            (try rw [show ((4 : Int)).toNat = 4 from rfl] at hx279_3)
            (try rw [show 4 * 4 = 16 from rfl] at hx279_3)
            replace p279 := eq_true p279
            replace q279 := eq_true q279
            have p280 : 0 ≤ (6 : Int) := (by omega)
            have q280 : 6 < (t269.length : Int) := of_decide_eq_true (by first | (with_reducible assumption) | assumption)
            obtain ⟨ad280, e280, hx280_0, hx280_1, hx280_2, hx280_3⟩ := at_T32 (Kd.R_reads' HO_1.out).2.2 6 p280 q280
            obtain rfl : ad278 = ad280 := (by injection e280)
            (try simp only [show (6 : Int).toNat = 6 from rfl, Nat.reduceMul, Nat.reduceEqDiff, Go.Addr.add, ↓reduceIte] at hx280_0)
            (try simp only [show (6 : Int).toNat = 6 from rfl, Nat.reduceMul, Nat.reduceEqDiff, Go.Addr.add, ↓reduceIte] at hx280_1)
            (try simp only [show (6 : Int).toNat = 6 from rfl, Nat.reduceMul, Nat.reduceEqDiff, Go.Addr.add, ↓reduceIte] at hx280_2)
            (try simp only [show (6 : Int).toNat = 6 from rfl, Nat.reduceMul, Nat.reduceEqDiff, Go.Addr.add, ↓reduceIte] at hx280_3)
            have qi280 : (6 < t269.length) = True := eq_true (by omega)
            (try rw [show ((6 : Int)).toNat = 6 from rfl] at hx280_0)
            (try rw [show 6 * 4 = 24 from rfl] at hx280_0)
            (try rw [show ((6 : Int)).toNat = 6 from rfl] at hx280_1)
            (try rw [show 6 * 4 = 24 from rfl] at hx280_1)
            (try rw [show ((6 : Int)).toNat = 6 from rfl] at hx280_2)
            (try rw [show 6 * 4 = 24 from rfl] at hx280_2)
            (try rw [show ((6 : Int)).toNat = 6 from rfl] at hx280_3)
            (try rw [show 6 * 4 = 24 from rfl] at hx280_3)
            replace p280 := eq_true p280
            replace q280 := eq_true q280
            go_wp2_with (first | (go_at_call 17; (with_reducible refine (lexer_Skip.calls kj3 (⟨#[32, 9, 35, 120, 10, 121]⟩ : ByteArray) 0 t281 _ A26.out).mono ?_); rintro e w35 ⟨rfl, hb⟩; have n0_ := Aside0.mk (Kd.R_below (by (with_reducible repeat (first | apply Kd.R_alloc | apply Kd.R_drewN | apply Kd.R_drew)); exact HO_1.out) hb); have n1_ := Aside0.mk (below_step (by repeat (first | (with_reducible first | exact HB.out | apply below_alloc | apply pw_below_drewN | apply below_drew1) | exact HB.out)) hb); clear HO_1; clear HB; have HO_1 := n0_; have HB := n1_; clear n0_ n1_; (try clear hb); (try clear hb2); (try clear hk); (try clear hi)) | (go_at_call 13; (with_reducible refine (lexer_Operator.calls kj3 (⟨#[60, 60, 45]⟩ : ByteArray) false _ A28.out).mono ?_); rintro e w36 ⟨rfl, hb⟩; have n0_ := Aside0.mk (Kd.R_below (by (with_reducible repeat (first | apply Kd.R_alloc | apply Kd.R_drewN | apply Kd.R_drew)); exact HO_1.out) hb); have n1_ := Aside0.mk (below_step (by repeat (first | (with_reducible first | exact HB.out | apply below_alloc | apply pw_below_drewN | apply below_drew1) | exact HB.out)) hb); clear HO_1; clear HB; have HO_1 := n0_; have HB := n1_; clear n0_ n1_; (try clear hb); (try clear hb2); (try clear hk); (try clear hi)))
            go_ret
            exact ⟨by first | rfl | (simp [errW_none, errW_some] <;> rfl) | (simp [*, errW_none, errW_some] <;> rfl), by repeat (first | (with_reducible first | exact HB.out | apply below_alloc | apply pw_below_drewN | apply below_drew1) | exact HB.out)⟩
          ·rw [if_neg c27] at H
           have c27b0 : (t281 == 4) = false := beq_eq_false_iff_ne.mpr c27
           have c27b1 : (t281 != 4) = true := bne_iff_ne.mpr c27
           obtain rfl := Option.some.inj H
           obtain ⟨Ao37, co37, eo37⟩ := Kd.R_slice HO_1.out
           subst eo37
           have p278 : 0 ≤ (3 : Int) := (by omega)
           have q278 : 3 < (t269.length : Int) := of_decide_eq_true (by first | (with_reducible assumption) | assumption)
           obtain ⟨ad278, e278, hx278_0, hx278_1, hx278_2, hx278_3⟩ := at_T32 (Kd.R_reads' HO_1.out).2.2 3 p278 q278
           cases e278
           (try simp only [show (3 : Int).toNat = 3 from rfl, Nat.reduceMul, Nat.reduceEqDiff, Go.Addr.add, ↓reduceIte] at hx278_0)
           (try simp only [show (3 : Int).toNat = 3 from rfl, Nat.reduceMul, Nat.reduceEqDiff, Go.Addr.add, ↓reduceIte] at hx278_1)
           (try simp only [show (3 : Int).toNat = 3 from rfl, Nat.reduceMul, Nat.reduceEqDiff, Go.Addr.add, ↓reduceIte] at hx278_2)
           (try simp only [show (3 : Int).toNat = 3 from rfl, Nat.reduceMul, Nat.reduceEqDiff, Go.Addr.add, ↓reduceIte] at hx278_3)
           have qi278 : (3 < t269.length) = True := eq_true (by omega)
           (try rw [show ((3 : Int)).toNat = 3 from rfl] at hx278_0)
           (try rw [show 3 * 4 = 12 from rfl] at hx278_0)
           (try rw [show ((3 : Int)).toNat = 3 from rfl] at hx278_1)
           (try rw [show 3 * 4 = 12 from rfl] at hx278_1)
           (try rw [show ((3 : Int)).toNat = 3 from rfl] at hx278_2)
           (try rw [show 3 * 4 = 12 from rfl] at hx278_2)
           (try rw [show ((3 : Int)).toNat = 3 from rfl] at hx278_3)
           (try rw [show 3 * 4 = 12 from rfl] at hx278_3)
           replace p278 := eq_true p278
           replace q278 := eq_true q278
           have p279 : 0 ≤ (4 : Int) := (by omega)
           have q279 : 4 < (t269.length : Int) := of_decide_eq_true (by first | (with_reducible assumption) | assumption)
           obtain ⟨ad279, e279, hx279_0, hx279_1, hx279_2, hx279_3⟩ := at_T32 (Kd.R_reads' HO_1.out).2.2 4 p279 q279
           obtain rfl : ad278 = ad279 := (by injection e279)
           (try simp only [show (4 : Int).toNat = 4 from rfl, Nat.reduceMul, Nat.reduceEqDiff, Go.Addr.add, ↓reduceIte] at hx279_0)
           (try simp only [show (4 : Int).toNat = 4 from rfl, Nat.reduceMul, Nat.reduceEqDiff, Go.Addr.add, ↓reduceIte] at hx279_1)
           (try simp only [show (4 : Int).toNat = 4 from rfl, Nat.reduceMul, Nat.reduceEqDiff, Go.Addr.add, ↓reduceIte] at hx279_2)
           (try simp only [show (4 : Int).toNat = 4 from rfl, Nat.reduceMul, Nat.reduceEqDiff, Go.Addr.add, ↓reduceIte] at hx279_3)
           have qi279 : (4 < t269.length) = True := eq_true (by omega)
           (try rw [show ((4 : Int)).toNat = 4 from rfl] at hx279_0)
           (try rw [show 4 * 4 = 16 from rfl] at hx279_0)
           (try rw [show ((4 : Int)).toNat = 4 from rfl] at hx279_1)
           (try rw [show 4 * 4 = 16 from rfl] at hx279_1)
           (try rw [show ((4 : Int)).toNat = 4 from rfl] at hx279_2)
           (try rw [show 4 * 4 = 16 from rfl] at hx279_2)
           (try rw [show ((4 : Int)).toNat = 4 from rfl] at hx279_3)
           (try rw [show 4 * 4 = 16 from rfl] at hx279_3)
           replace p279 := eq_true p279
           replace q279 := eq_true q279
           have p280 : 0 ≤ (6 : Int) := (by omega)
           have q280 : 6 < (t269.length : Int) := of_decide_eq_true (by first | (with_reducible assumption) | assumption)
           obtain ⟨ad280, e280, hx280_0, hx280_1, hx280_2, hx280_3⟩ := at_T32 (Kd.R_reads' HO_1.out).2.2 6 p280 q280
           obtain rfl : ad278 = ad280 := (by injection e280)
           (try simp only [show (6 : Int).toNat = 6 from rfl, Nat.reduceMul, Nat.reduceEqDiff, Go.Addr.add, ↓reduceIte] at hx280_0)
           (try simp only [show (6 : Int).toNat = 6 from rfl, Nat.reduceMul, Nat.reduceEqDiff, Go.Addr.add, ↓reduceIte] at hx280_1)
           (try simp only [show (6 : Int).toNat = 6 from rfl, Nat.reduceMul, Nat.reduceEqDiff, Go.Addr.add, ↓reduceIte] at hx280_2)
           (try simp only [show (6 : Int).toNat = 6 from rfl, Nat.reduceMul, Nat.reduceEqDiff, Go.Addr.add, ↓reduceIte] at hx280_3)
           have qi280 : (6 < t269.length) = True := eq_true (by omega)
           (try rw [show ((6 : Int)).toNat = 6 from rfl] at hx280_0)
           (try rw [show 6 * 4 = 24 from rfl] at hx280_0)
           (try rw [show ((6 : Int)).toNat = 6 from rfl] at hx280_1)
           (try rw [show 6 * 4 = 24 from rfl] at hx280_1)
           (try rw [show ((6 : Int)).toNat = 6 from rfl] at hx280_2)
           (try rw [show 6 * 4 = 24 from rfl] at hx280_2)
           (try rw [show ((6 : Int)).toNat = 6 from rfl] at hx280_3)
           (try rw [show 6 * 4 = 24 from rfl] at hx280_3)
           replace p280 := eq_true p280
           replace q280 := eq_true q280
           go_wp2_with (first | (go_at_call 17; (with_reducible refine (lexer_Skip.calls kj3 (⟨#[32, 9, 35, 120, 10, 121]⟩ : ByteArray) 0 t281 _ A26.out).mono ?_); rintro e w38 ⟨rfl, hb⟩; have n0_ := Aside0.mk (Kd.R_below (by (with_reducible repeat (first | apply Kd.R_alloc | apply Kd.R_drewN | apply Kd.R_drew)); exact HO_1.out) hb); have n1_ := Aside0.mk (below_step (by repeat (first | (with_reducible first | exact HB.out | apply below_alloc | apply pw_below_drewN | apply below_drew1) | exact HB.out)) hb); clear HO_1; clear HB; have HO_1 := n0_; have HB := n1_; clear n0_ n1_; (try clear hb); (try clear hb2); (try clear hk); (try clear hi)))
           go_ret
           exact ⟨by first | rfl | (simp [errW_none, errW_some] <;> rfl) | (simp [*, errW_none, errW_some] <;> rfl), by repeat (first | (with_reducible first | exact HB.out | apply below_alloc | apply pw_below_drewN | apply below_drew1) | exact HB.out)⟩
         ·rw [if_neg c25] at H
          have c25b0 : (((rd_T32 t269 6).f0) == 5 && (((rd_T32 t269 6).f1) == 11 && (((rd_T32 t269 6).f2) == 11 && ((((rd_T32 t269 6).f3).toList) == ([] : List UInt8))))) = false := by simpa using c25
          have c25b7 : (((rd_T32 t269 6).f0) == 5 && (((rd_T32 t269 6).f1) == 11 && (((rd_T32 t269 6).f2) == 11 && (((rd_T32 t269 6).f3).toList).isEmpty))) = false := by simpa using c25
          (try (have c25b1 : decide (((rd_T32 t269 6).f0) = 5 && (((rd_T32 t269 6).f1) == 11 && (((rd_T32 t269 6).f2) == 11 && ((((rd_T32 t269 6).f3).toList) == ([] : List UInt8))))) = false := by simpa using c25))
          (try (have c25b2 : (((rd_T32 t269 6).f0) == 5 && (((rd_T32 t269 6).f1) == 11 && (((rd_T32 t269 6).f2) == 11 && ((((rd_T32 t269 6).f3).toList) == ([] : List UInt8))))) = false := by simpa using c25))
          (try (have c25b3 : ¬ (((rd_T32 t269 6).f0) = 5 && (((rd_T32 t269 6).f1) == 11 && (((rd_T32 t269 6).f2) == 11 && ((((rd_T32 t269 6).f3).toList) == ([] : List UInt8))))) := by simpa using c25))
          clear c25
          obtain rfl := Option.some.inj H
          obtain ⟨Ao39, co39, eo39⟩ := Kd.R_slice HO_1.out
          subst eo39
          have p278 : 0 ≤ (3 : Int) := (by omega)
          have q278 : 3 < (t269.length : Int) := of_decide_eq_true (by first | (with_reducible assumption) | assumption)
          obtain ⟨ad278, e278, hx278_0, hx278_1, hx278_2, hx278_3⟩ := at_T32 (Kd.R_reads' HO_1.out).2.2 3 p278 q278
          cases e278
          (try simp only [show (3 : Int).toNat = 3 from rfl, Nat.reduceMul, Nat.reduceEqDiff, Go.Addr.add, ↓reduceIte] at hx278_0)
          (try simp only [show (3 : Int).toNat = 3 from rfl, Nat.reduceMul, Nat.reduceEqDiff, Go.Addr.add, ↓reduceIte] at hx278_1)
          (try simp only [show (3 : Int).toNat = 3 from rfl, Nat.reduceMul, Nat.reduceEqDiff, Go.Addr.add, ↓reduceIte] at hx278_2)
          (try simp only [show (3 : Int).toNat = 3 from rfl, Nat.reduceMul, Nat.reduceEqDiff, Go.Addr.add, ↓reduceIte] at hx278_3)
          have qi278 : (3 < t269.length) = True := eq_true (by omega)
          (try rw [show ((3 : Int)).toNat = 3 from rfl] at hx278_0)
          (try rw [show 3 * 4 = 12 from rfl] at hx278_0)
          (try rw [show ((3 : Int)).toNat = 3 from rfl] at hx278_1)
          (try rw [show 3 * 4 = 12 from rfl] at hx278_1)
          (try rw [show ((3 : Int)).toNat = 3 from rfl] at hx278_2)
          (try rw [show 3 * 4 = 12 from rfl] at hx278_2)
          (try rw [show ((3 : Int)).toNat = 3 from rfl] at hx278_3)
          (try rw [show 3 * 4 = 12 from rfl] at hx278_3)
          replace p278 := eq_true p278
          replace q278 := eq_true q278
          have p279 : 0 ≤ (4 : Int) := (by omega)
          have q279 : 4 < (t269.length : Int) := of_decide_eq_true (by first | (with_reducible assumption) | assumption)
          obtain ⟨ad279, e279, hx279_0, hx279_1, hx279_2, hx279_3⟩ := at_T32 (Kd.R_reads' HO_1.out).2.2 4 p279 q279
          obtain rfl : ad278 = ad279 := (by injection e279)
          (try simp only [show (4 : Int).toNat = 4 from rfl, Nat.reduceMul, Nat.reduceEqDiff, Go.Addr.add, ↓reduceIte] at hx279_0)
          (try simp only [show (4 : Int).toNat = 4 from rfl, Nat.reduceMul, Nat.reduceEqDiff, Go.Addr.add, ↓reduceIte] at hx279_1)
          (try simp only [show (4 : Int).toNat = 4 from rfl, Nat.reduceMul, Nat.reduceEqDiff, Go.Addr.add, ↓reduceIte] at hx279_2)
          (try simp only [show (4 : Int).toNat = 4 from rfl, Nat.reduceMul, Nat.reduceEqDiff, Go.Addr.add, ↓reduceIte] at hx279_3)
          have qi279 : (4 < t269.length) = True := eq_true (by omega)
          (try rw [show ((4 : Int)).toNat = 4 from rfl] at hx279_0)
          (try rw [show 4 * 4 = 16 from rfl] at hx279_0)
          (try rw [show ((4 : Int)).toNat = 4 from rfl] at hx279_1)
          (try rw [show 4 * 4 = 16 from rfl] at hx279_1)
          (try rw [show ((4 : Int)).toNat = 4 from rfl] at hx279_2)
          (try rw [show 4 * 4 = 16 from rfl] at hx279_2)
          (try rw [show ((4 : Int)).toNat = 4 from rfl] at hx279_3)
          (try rw [show 4 * 4 = 16 from rfl] at hx279_3)
          replace p279 := eq_true p279
          replace q279 := eq_true q279
          have p280 : 0 ≤ (6 : Int) := (by omega)
          have q280 : 6 < (t269.length : Int) := of_decide_eq_true (by first | (with_reducible assumption) | assumption)
          obtain ⟨ad280, e280, hx280_0, hx280_1, hx280_2, hx280_3⟩ := at_T32 (Kd.R_reads' HO_1.out).2.2 6 p280 q280
          obtain rfl : ad278 = ad280 := (by injection e280)
          (try simp only [show (6 : Int).toNat = 6 from rfl, Nat.reduceMul, Nat.reduceEqDiff, Go.Addr.add, ↓reduceIte] at hx280_0)
          (try simp only [show (6 : Int).toNat = 6 from rfl, Nat.reduceMul, Nat.reduceEqDiff, Go.Addr.add, ↓reduceIte] at hx280_1)
          (try simp only [show (6 : Int).toNat = 6 from rfl, Nat.reduceMul, Nat.reduceEqDiff, Go.Addr.add, ↓reduceIte] at hx280_2)
          (try simp only [show (6 : Int).toNat = 6 from rfl, Nat.reduceMul, Nat.reduceEqDiff, Go.Addr.add, ↓reduceIte] at hx280_3)
          have qi280 : (6 < t269.length) = True := eq_true (by omega)
          (try rw [show ((6 : Int)).toNat = 6 from rfl] at hx280_0)
          (try rw [show 6 * 4 = 24 from rfl] at hx280_0)
          (try rw [show ((6 : Int)).toNat = 6 from rfl] at hx280_1)
          (try rw [show 6 * 4 = 24 from rfl] at hx280_1)
          (try rw [show ((6 : Int)).toNat = 6 from rfl] at hx280_2)
          (try rw [show 6 * 4 = 24 from rfl] at hx280_2)
          (try rw [show ((6 : Int)).toNat = 6 from rfl] at hx280_3)
          (try rw [show 6 * 4 = 24 from rfl] at hx280_3)
          replace p280 := eq_true p280
          replace q280 := eq_true q280
          go_wp2
          go_ret
          exact ⟨by first | rfl | (simp [errW_none, errW_some] <;> rfl) | (simp [*, errW_none, errW_some] <;> rfl), by repeat (first | (with_reducible first | exact HB.out | apply below_alloc | apply pw_below_drewN | apply below_drew1) | exact HB.out)⟩
        ·rw [if_neg c24] at H
         exact absurd H (by simp)
       ·rw [if_neg c23] at H
        have c23b0 : (((rd_T32 t269 4).f3).toList == ([62, 38] : List UInt8)) = false := beq_eq_false_iff_ne.mpr c23
        have c23b1 : (((rd_T32 t269 4).f3).toList != ([62, 38] : List UInt8)) = true := bne_iff_ne.mpr c23
        obtain rfl := Option.some.inj H
        obtain ⟨Ao40, co40, eo40⟩ := Kd.R_slice HO_1.out
        subst eo40
        have p278 : 0 ≤ (3 : Int) := (by omega)
        have q278 : 3 < (t269.length : Int) := of_decide_eq_true (by first | (with_reducible assumption) | assumption)
        obtain ⟨ad278, e278, hx278_0, hx278_1, hx278_2, hx278_3⟩ := at_T32 (Kd.R_reads' HO_1.out).2.2 3 p278 q278
        cases e278
        (try simp only [show (3 : Int).toNat = 3 from rfl, Nat.reduceMul, Nat.reduceEqDiff, Go.Addr.add, ↓reduceIte] at hx278_0)
        (try simp only [show (3 : Int).toNat = 3 from rfl, Nat.reduceMul, Nat.reduceEqDiff, Go.Addr.add, ↓reduceIte] at hx278_1)
        (try simp only [show (3 : Int).toNat = 3 from rfl, Nat.reduceMul, Nat.reduceEqDiff, Go.Addr.add, ↓reduceIte] at hx278_2)
        (try simp only [show (3 : Int).toNat = 3 from rfl, Nat.reduceMul, Nat.reduceEqDiff, Go.Addr.add, ↓reduceIte] at hx278_3)
        have qi278 : (3 < t269.length) = True := eq_true (by omega)
        (try rw [show ((3 : Int)).toNat = 3 from rfl] at hx278_0)
        (try rw [show 3 * 4 = 12 from rfl] at hx278_0)
        (try rw [show ((3 : Int)).toNat = 3 from rfl] at hx278_1)
        (try rw [show 3 * 4 = 12 from rfl] at hx278_1)
        (try rw [show ((3 : Int)).toNat = 3 from rfl] at hx278_2)
        (try rw [show 3 * 4 = 12 from rfl] at hx278_2)
        (try rw [show ((3 : Int)).toNat = 3 from rfl] at hx278_3)
        (try rw [show 3 * 4 = 12 from rfl] at hx278_3)
        replace p278 := eq_true p278
        replace q278 := eq_true q278
        have p279 : 0 ≤ (4 : Int) := (by omega)
        have q279 : 4 < (t269.length : Int) := of_decide_eq_true (by first | (with_reducible assumption) | assumption)
        obtain ⟨ad279, e279, hx279_0, hx279_1, hx279_2, hx279_3⟩ := at_T32 (Kd.R_reads' HO_1.out).2.2 4 p279 q279
        obtain rfl : ad278 = ad279 := (by injection e279)
        (try simp only [show (4 : Int).toNat = 4 from rfl, Nat.reduceMul, Nat.reduceEqDiff, Go.Addr.add, ↓reduceIte] at hx279_0)
        (try simp only [show (4 : Int).toNat = 4 from rfl, Nat.reduceMul, Nat.reduceEqDiff, Go.Addr.add, ↓reduceIte] at hx279_1)
        (try simp only [show (4 : Int).toNat = 4 from rfl, Nat.reduceMul, Nat.reduceEqDiff, Go.Addr.add, ↓reduceIte] at hx279_2)
        (try simp only [show (4 : Int).toNat = 4 from rfl, Nat.reduceMul, Nat.reduceEqDiff, Go.Addr.add, ↓reduceIte] at hx279_3)
        have qi279 : (4 < t269.length) = True := eq_true (by omega)
        (try rw [show ((4 : Int)).toNat = 4 from rfl] at hx279_0)
        (try rw [show 4 * 4 = 16 from rfl] at hx279_0)
        (try rw [show ((4 : Int)).toNat = 4 from rfl] at hx279_1)
        (try rw [show 4 * 4 = 16 from rfl] at hx279_1)
        (try rw [show ((4 : Int)).toNat = 4 from rfl] at hx279_2)
        (try rw [show 4 * 4 = 16 from rfl] at hx279_2)
        (try rw [show ((4 : Int)).toNat = 4 from rfl] at hx279_3)
        (try rw [show 4 * 4 = 16 from rfl] at hx279_3)
        replace p279 := eq_true p279
        replace q279 := eq_true q279
        go_wp2
        go_ret
        exact ⟨by first | rfl | (simp [errW_none, errW_some] <;> rfl) | (simp [*, errW_none, errW_some] <;> rfl), by repeat (first | (with_reducible first | exact HB.out | apply below_alloc | apply pw_below_drewN | apply below_drew1) | exact HB.out)⟩
      ·rw [if_neg c22] at H
       exact absurd H (by simp)
     ·rw [if_neg c21] at H
      have c21b0 : (((rd_T32 t269 3).f0) == 4 && (((rd_T32 t269 3).f1) == 4 && (((rd_T32 t269 3).f2) == 5 && ((((rd_T32 t269 3).f3).toList) == ([50] : List UInt8))))) = false := by simpa using c21
      (try (have c21b1 : decide (((rd_T32 t269 3).f0) = 4 && (((rd_T32 t269 3).f1) == 4 && (((rd_T32 t269 3).f2) == 5 && ((((rd_T32 t269 3).f3).toList) == ([50] : List UInt8))))) = false := by simpa using c21))
      (try (have c21b2 : (((rd_T32 t269 3).f0) == 4 && (((rd_T32 t269 3).f1) == 4 && (((rd_T32 t269 3).f2) == 5 && ((((rd_T32 t269 3).f3).toList) == ([50] : List UInt8))))) = false := by simpa using c21))
      (try (have c21b3 : ¬ (((rd_T32 t269 3).f0) = 4 && (((rd_T32 t269 3).f1) == 4 && (((rd_T32 t269 3).f2) == 5 && ((((rd_T32 t269 3).f3).toList) == ([50] : List UInt8))))) := by simpa using c21))
      clear c21
      obtain rfl := Option.some.inj H
      obtain ⟨Ao41, co41, eo41⟩ := Kd.R_slice HO_1.out
      subst eo41
      have p278 : 0 ≤ (3 : Int) := (by omega)
      have q278 : 3 < (t269.length : Int) := of_decide_eq_true (by first | (with_reducible assumption) | assumption)
      obtain ⟨ad278, e278, hx278_0, hx278_1, hx278_2, hx278_3⟩ := at_T32 (Kd.R_reads' HO_1.out).2.2 3 p278 q278
      cases e278
      (try simp only [show (3 : Int).toNat = 3 from rfl, Nat.reduceMul, Nat.reduceEqDiff, Go.Addr.add, ↓reduceIte] at hx278_0)
      (try simp only [show (3 : Int).toNat = 3 from rfl, Nat.reduceMul, Nat.reduceEqDiff, Go.Addr.add, ↓reduceIte] at hx278_1)
      (try simp only [show (3 : Int).toNat = 3 from rfl, Nat.reduceMul, Nat.reduceEqDiff, Go.Addr.add, ↓reduceIte] at hx278_2)
      (try simp only [show (3 : Int).toNat = 3 from rfl, Nat.reduceMul, Nat.reduceEqDiff, Go.Addr.add, ↓reduceIte] at hx278_3)
      have qi278 : (3 < t269.length) = True := eq_true (by omega)
      (try rw [show ((3 : Int)).toNat = 3 from rfl] at hx278_0)
      (try rw [show 3 * 4 = 12 from rfl] at hx278_0)
      (try rw [show ((3 : Int)).toNat = 3 from rfl] at hx278_1)
      (try rw [show 3 * 4 = 12 from rfl] at hx278_1)
      (try rw [show ((3 : Int)).toNat = 3 from rfl] at hx278_2)
      (try rw [show 3 * 4 = 12 from rfl] at hx278_2)
      (try rw [show ((3 : Int)).toNat = 3 from rfl] at hx278_3)
      (try rw [show 3 * 4 = 12 from rfl] at hx278_3)
      replace p278 := eq_true p278
      replace q278 := eq_true q278
      go_wp2
      go_ret
      exact ⟨by first | rfl | (simp [errW_none, errW_some] <;> rfl) | (simp [*, errW_none, errW_some] <;> rfl), by repeat (first | (with_reducible first | exact HB.out | apply below_alloc | apply pw_below_drewN | apply below_drew1) | exact HB.out)⟩
    ·rw [if_neg c20] at H
     exact absurd H (by simp)

end Go.Proofs.Ythoanbjklgoggaa.PAll
