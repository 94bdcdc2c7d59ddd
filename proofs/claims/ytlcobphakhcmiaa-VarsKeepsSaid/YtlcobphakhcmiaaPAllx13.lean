-- Written for this claim by a program of the session (wip/ext).
import Derived.Test.YtlcobphakhcmiaaPAllx0
import Derived.Test.YtlcobphakhcmiaaPAllx1
import Derived.Test.YtlcobphakhcmiaaPAllx2
import Derived.Test.YtlcobphakhcmiaaPAllx4
import Derived.Test.YtlcobphakhcmiaaPAllx6
import Derived.Test.YtlcobphakhcmiaaExtawake
namespace Go.Proofs.Ytlcobphakhcmiaa.PAll
open Go.RowKit Go.Proofs.YtlcobphakhcmiaaW.PrintWords Go.Proofs.YtlcobphakhcmiaaW.PrintLast Go.Proofs.YtlcobphakhcmiaaW.PrintMore
attribute [local go_sem] max2_int min2_int max_two min_two max_three min_three max_four min_four   -- for this text's walks alone
set_option linter.unusedVariables false
set_option linter.unusedSimpArgs false

attribute [local go_sem high] eqA26
/-! ### jobshelllaw15_VarsKeeps: function 7 -/
mutual
def jobshelllaw15_VarsKeeps.j0 : Nat → List (S26) → ByteArray → Bool → ByteArray → ByteArray → Option (Bool)
  | 0, _, _, _, _, _ => none
  | k + 1, x0, x2, x29, x330000, x330001 => if x29 = true then ((jobshelllaw15_awake.f).bind fun t333 => (some t333)) else ((vars_Get.f k x0 x330001).bind fun bt334 => ((vars_Get.f k x0 x330000).bind fun bt341 => ((vars_Set.f k x0 x330000 x2).bind fun bt348 => ((vars_Get.f k bt348.1 x330001).bind fun bt352 => ((vars_Get.f k bt348.1 x330000).bind fun bt359 => (if x330000.toList = x330001.toList then (if bt341.2.2.2.2.1 = true then (jobshelllaw15_VarsKeeps.j1 k x2 bt348.2 bt359.2.2.2.2.2 (!(bt359.1.toList == bt341.1.toList) || (!(bt359.2.1.toList == bt341.2.1.toList) || (!(bt359.2.2.1 == bt341.2.2.1) || (!(bt359.2.2.2.1 == bt341.2.2.2.1) || (!(bt359.2.2.2.2.1 == bt341.2.2.2.2.1)))))) x330000 x330001 bt341.1 bt341.2.1 bt341.2.2.1 bt341.2.2.2.1 bt341.2.2.2.2.1 bt359.1 bt359.2.1 bt359.2.2.1 bt359.2.2.2.1 bt359.2.2.2.2.1) else (jobshelllaw15_VarsKeeps.j1 k x2 bt348.2 bt359.2.2.2.2.2 false x330000 x330001 bt341.1 bt341.2.1 bt341.2.2.1 bt341.2.2.2.1 bt341.2.2.2.2.1 bt359.1 bt359.2.1 bt359.2.2.1 bt359.2.2.2.1 bt359.2.2.2.2.1)) else (if (!(bt352.1.toList == bt334.1.toList) || (!(bt352.2.1.toList == bt334.2.1.toList) || (!(bt352.2.2.1 == bt334.2.2.1) || (!(bt352.2.2.2.1 == bt334.2.2.2.1) || (!(bt352.2.2.2.2.1 == bt334.2.2.2.2.1)))))) = true then (jobshelllaw15_VarsKeeps.j1 k x2 bt348.2 bt359.2.2.2.2.2 true x330000 x330001 bt341.1 bt341.2.1 bt341.2.2.1 bt341.2.2.2.1 bt341.2.2.2.2.1 bt359.1 bt359.2.1 bt359.2.2.1 bt359.2.2.2.1 bt359.2.2.2.2.1) else (if (bt352.2.2.2.2.2 != bt334.2.2.2.2.2) = true then (jobshelllaw15_VarsKeeps.j1 k x2 bt348.2 bt359.2.2.2.2.2 true x330000 x330001 bt341.1 bt341.2.1 bt341.2.2.1 bt341.2.2.2.1 bt341.2.2.2.2.1 bt359.1 bt359.2.1 bt359.2.2.1 bt359.2.2.2.1 bt359.2.2.2.2.1) else (if bt341.2.2.2.2.1 = true then (jobshelllaw15_VarsKeeps.j1 k x2 bt348.2 bt359.2.2.2.2.2 (!(bt359.1.toList == bt341.1.toList) || (!(bt359.2.1.toList == bt341.2.1.toList) || (!(bt359.2.2.1 == bt341.2.2.1) || (!(bt359.2.2.2.1 == bt341.2.2.2.1) || (!(bt359.2.2.2.2.1 == bt341.2.2.2.2.1)))))) x330000 x330001 bt341.1 bt341.2.1 bt341.2.2.1 bt341.2.2.2.1 bt341.2.2.2.2.1 bt359.1 bt359.2.1 bt359.2.2.1 bt359.2.2.2.1 bt359.2.2.2.2.1) else (jobshelllaw15_VarsKeeps.j1 k x2 bt348.2 bt359.2.2.2.2.2 false x330000 x330001 bt341.1 bt341.2.1 bt341.2.2.1 bt341.2.2.2.1 bt341.2.2.2.2.1 bt359.1 bt359.2.1 bt359.2.2.1 bt359.2.2.2.1 bt359.2.2.2.2.1))))))))))
def jobshelllaw15_VarsKeeps.j1 : Nat → ByteArray → Int → Bool → Bool → ByteArray → ByteArray → ByteArray → ByteArray → Bool → Bool → Bool → ByteArray → ByteArray → Bool → Bool → Bool → Option (Bool)
  | 0, _, _, _, _, _, _, _, _, _, _, _, _, _, _, _, _ => none
  | k + 1, x2, x12, x16, x90, x330000, x330001, x348000, x348001, x348002, x348003, x348004, x366000, x366001, x366002, x366003, x366004 => if x90 = true then (some false) else (if x12 = 0 then (if x16 = true then (if (!(x366000.toList == x330000.toList) || (!(x366001.toList == x2.toList) || (!x366002 || (!(x366003 == x348003) || (x366004))))) = true then (some false) else ((jobshelllaw15_awake.f).bind fun t366 => (some t366))) else (some false)) else ((jobshelllaw15_awake.f).bind fun t367 => (some t367)))
end
def jobshelllaw15_VarsKeeps.f (k : Nat) (l0 : List (S26)) (a1_0 : ByteArray) (a1_1 : ByteArray) (a2 : ByteArray) : Option (Bool) := (jobshellref15_Small.f k l0).bind fun t330 => (if t330 = true then ((jobshelllaw15_short.f a2).bind fun t331 => (if t331 = true then ((jobshellref15_Valid.f k l0).bind fun t332 => (jobshelllaw15_VarsKeeps.j0 k l0 a2 (t332 != 0) a1_0 a1_1)) else (jobshelllaw15_VarsKeeps.j0 k l0 a2 true a1_0 a1_1))) else (jobshelllaw15_VarsKeeps.j0 k l0 a2 true a1_0 a1_1))
theorem jobshelllaw15_VarsKeeps.mono_l : ∀ k, (∀ y0 y1 y2 y3 y4, LeO (jobshelllaw15_VarsKeeps.j0 k y0 y1 y2 y3 y4) (jobshelllaw15_VarsKeeps.j0 (k + 1) y0 y1 y2 y3 y4)) ∧ (∀ y0 y1 y2 y3 y4 y5 y6 y7 y8 y9 y10 y11 y12 y13 y14 y15, LeO (jobshelllaw15_VarsKeeps.j1 k y0 y1 y2 y3 y4 y5 y6 y7 y8 y9 y10 y11 y12 y13 y14 y15) (jobshelllaw15_VarsKeeps.j1 (k + 1) y0 y1 y2 y3 y4 y5 y6 y7 y8 y9 y10 y11 y12 y13 y14 y15))
  | 0 => ⟨fun _ _ _ _ _ r h => by simp [jobshelllaw15_VarsKeeps.j0] at h, fun _ _ _ _ _ _ _ _ _ _ _ _ _ _ _ _ r h => by simp [jobshelllaw15_VarsKeeps.j1] at h⟩
  | k + 1 => by
    obtain ⟨ih0, ih1⟩ := jobshelllaw15_VarsKeeps.mono_l k
    refine ⟨?_, ?_⟩
    · intro y0 y1 y2 y3 y4
      unfold jobshelllaw15_VarsKeeps.j0
      repeat' first
      | (with_reducible exact ih0 _ _ _ _ _)
      | (with_reducible exact ih1 _ _ _ _ _ _ _ _ _ _ _ _ _ _ _ _)
      | (with_reducible exact jobshellref15_Small.mono _ _)
      | (with_reducible exact jobshellref15_Valid.mono _ _)
      | (with_reducible exact vars_Get.mono _ _ _)
      | (with_reducible exact vars_Set.mono _ _ _ _)
      | (with_reducible exact LeO.refl _)
      | (with_reducible exact LeO.none _)
      | (with_reducible refine LeO.ite ?_ ?_)
      | (with_reducible refine LeO.bind ?_ (fun _ => ?_))
      | exact ih0 _ _ _ _ _
      | exact ih1 _ _ _ _ _ _ _ _ _ _ _ _ _ _ _ _
      | exact jobshellref15_Small.mono _ _
      | exact jobshellref15_Valid.mono _ _
      | exact vars_Get.mono _ _ _
      | exact vars_Set.mono _ _ _ _
      | exact LeO.none _
      | refine LeO.ite ?_ ?_
      | refine LeO.bind ?_ (fun _ => ?_)
    · intro y0 y1 y2 y3 y4 y5 y6 y7 y8 y9 y10 y11 y12 y13 y14 y15
      unfold jobshelllaw15_VarsKeeps.j1
      repeat' first
      | (with_reducible exact ih0 _ _ _ _ _)
      | (with_reducible exact ih1 _ _ _ _ _ _ _ _ _ _ _ _ _ _ _ _)
      | (with_reducible exact jobshellref15_Small.mono _ _)
      | (with_reducible exact jobshellref15_Valid.mono _ _)
      | (with_reducible exact vars_Get.mono _ _ _)
      | (with_reducible exact vars_Set.mono _ _ _ _)
      | (with_reducible exact LeO.refl _)
      | (with_reducible exact LeO.none _)
      | (with_reducible refine LeO.ite ?_ ?_)
      | (with_reducible refine LeO.bind ?_ (fun _ => ?_))
      | exact ih0 _ _ _ _ _
      | exact ih1 _ _ _ _ _ _ _ _ _ _ _ _ _ _ _ _
      | exact jobshellref15_Small.mono _ _
      | exact jobshellref15_Valid.mono _ _
      | exact vars_Get.mono _ _ _
      | exact vars_Set.mono _ _ _ _
      | exact LeO.none _
      | refine LeO.ite ?_ ?_
      | refine LeO.bind ?_ (fun _ => ?_)
theorem jobshelllaw15_VarsKeeps.mono : ∀ a0 a1 a2 a3 k, LeO (jobshelllaw15_VarsKeeps.f k a0 a1 a2 a3) (jobshelllaw15_VarsKeeps.f (k + 1) a0 a1 a2 a3) := by
  intro a0 a1 a2 a3 k
  obtain ⟨ih0, ih1⟩ := jobshelllaw15_VarsKeeps.mono_l k
  unfold jobshelllaw15_VarsKeeps.f
  repeat' first
      | (with_reducible exact ih0 _ _ _ _ _)
      | (with_reducible exact ih1 _ _ _ _ _ _ _ _ _ _ _ _ _ _ _ _)
      | (with_reducible exact jobshellref15_Small.mono _ _)
      | (with_reducible exact jobshellref15_Valid.mono _ _)
      | (with_reducible exact vars_Get.mono _ _ _)
      | (with_reducible exact vars_Set.mono _ _ _ _)
      | (with_reducible exact LeO.refl _)
      | (with_reducible exact LeO.none _)
      | (with_reducible refine LeO.ite ?_ ?_)
      | (with_reducible refine LeO.bind ?_ (fun _ => ?_))
      | exact ih0 _ _ _ _ _
      | exact ih1 _ _ _ _ _ _ _ _ _ _ _ _ _ _ _ _
      | exact jobshellref15_Small.mono _ _
      | exact jobshellref15_Valid.mono _ _
      | exact vars_Get.mono _ _ _
      | exact vars_Set.mono _ _ _ _
      | exact LeO.none _
      | refine LeO.ite ?_ ?_
      | refine LeO.bind ?_ (fun _ => ?_)
set_option maxHeartbeats 3000000 in
set_option maxRecDepth 100000 in
theorem jobshelllaw15_VarsKeeps.calls (k : Nat) (A0 : Option Addr) (c0 : Nat) (l0 : List (S26)) (a1_0 : ByteArray) (a1_1 : ByteArray) (a2 : ByteArray) (r : Bool) (w : World) (hr0 : Kd.C k26 w A0 l0.length l0) (hc0 : l0.length ≤ c0) (h : jobshelllaw15_VarsKeeps.f k l0 a1_0 a1_1 a2 = some r) :
    Calls Try.prog 7 #[.slice A0 l0.length c0, .agg #[.string a1_0, .string a1_1], .string a2] w fun e w' => e = .returned (.bool r) ∧ Below w.heap.size w w' := by
  have hu51 := Try.underlying51
  have hu26 := Try.underlying26
  have HR0 := Aside0.mk hr0
  have HC0 := Aside0.mk hc0
  clear hr0 hc0
  have HB := Aside0.mk (Below.refl w.heap.size w)
  have H : ((jobshellref15_Small.f k l0).bind fun t330 => (if t330 = true then ((jobshelllaw15_short.f a2).bind fun t331 => (if t331 = true then ((jobshellref15_Valid.f k l0).bind fun t332 => (jobshelllaw15_VarsKeeps.j0 k l0 a2 (t332 != 0) a1_0 a1_1)) else (jobshelllaw15_VarsKeeps.j0 k l0 a2 true a1_0 a1_1))) else (jobshelllaw15_VarsKeeps.j0 k l0 a2 true a1_0 a1_1))) = some r := h
  clear h
  have HC4 := Aside0.mk H
  clear H
  go_enter Try.func7, Try.ntmps7
  go_upto_region 1 with (first | ((with_reducible refine gate_dst (N := 4) rfl ?_); refine box_event ?hg (N := 4) ?hd (cs := #[.string a1_0, .string a1_1]) (t := 51) ?hr ?_; (case hd => rfl); (case hg => rfl); (case hr => first | (go_simp; done) | (go_simp; rfl)); intro gb329 hg w5 hbox hb; have n0_ := Aside0.mk (below_step (by repeat (first | (with_reducible first | exact HB.out | apply below_alloc | apply pw_below_drewN | apply below_drew1) | exact HB.out)) hb); have n1_ := Aside0.mk (hbox); have n2_ := Aside0.mk ((by rw [hg]; exact (below_size (by repeat (first | (with_reducible first | exact HB.out | apply below_alloc | apply pw_below_drewN | apply below_drew1) | exact HB.out))) : w.heap.size ≤ gb329)); have n3_ := Aside0.mk ((by rw [hg]; exact (below_size (by repeat (first | (with_reducible first | exact HB.out | apply below_alloc | apply pw_below_drewN | apply below_drew1) | exact HB.out))) : w.heap.size ≤ gb329)); clear HB; have HB := n0_; have BK329 := n1_; have GW329 := n2_; have GE329 := n3_; clear n0_ n1_ n2_ n3_; clear hb hbox hg))
  (try simp only [Act.put, List.setIfInBounds_toArray, List.set_cons_zero, List.set_cons_succ])
  go_cut [29] (fun v29 wc => ∃ (kq : Nat) (x29_3 : Bool), v29 = .bool x29_3 ∧ Aside0 (jobshelllaw15_VarsKeeps.j0 kq l0 a2 x29_3 a1_0 a1_1 = some r) ∧ Aside0 (kq ≤ k) ∧ Aside0 (wc.heap[gb329]? = some (.cells #[.string a1_0, .string a1_1] 51 (0, 0))) ∧ Aside0 (Below w.heap.size w wc))
  case first =>
    have H := HC4.out
    clear HC4
    replace H := Option.bind_eq_some_iff.mp H
    obtain ⟨t330, A60, H⟩ := H
    replace H : (if t330 = true then ((jobshelllaw15_short.f a2).bind fun t331 => (if t331 = true then ((jobshellref15_Valid.f k l0).bind fun t332 => (jobshelllaw15_VarsKeeps.j0 k l0 a2 (t332 != 0) a1_0 a1_1)) else (jobshelllaw15_VarsKeeps.j0 k l0 a2 true a1_0 a1_1))) else (jobshelllaw15_VarsKeeps.j0 k l0 a2 true a1_0 a1_1)) = some r := H
    have A6 := Aside0.mk A60
    clear A60
    by_cases c7 : t330 = true
    · subst c7
      have H1 : ((jobshelllaw15_short.f a2).bind fun t331 => (if t331 = true then ((jobshellref15_Valid.f k l0).bind fun t332 => (jobshelllaw15_VarsKeeps.j0 k l0 a2 (t332 != 0) a1_0 a1_1)) else (jobshelllaw15_VarsKeeps.j0 k l0 a2 true a1_0 a1_1))) = some r := by rw [if_pos rfl] at H; exact H
      clear H
      have H := H1
      clear H1
      replace H := Option.bind_eq_some_iff.mp H
      obtain ⟨t331, A80, H⟩ := H
      replace H : (if t331 = true then ((jobshellref15_Valid.f k l0).bind fun t332 => (jobshelllaw15_VarsKeeps.j0 k l0 a2 (t332 != 0) a1_0 a1_1)) else (jobshelllaw15_VarsKeeps.j0 k l0 a2 true a1_0 a1_1)) = some r := H
      have A8 := Aside0.mk A80
      clear A80
      by_cases c9 : t331 = true
      · subst c9
        have H1 : ((jobshellref15_Valid.f k l0).bind fun t332 => (jobshelllaw15_VarsKeeps.j0 k l0 a2 (t332 != 0) a1_0 a1_1)) = some r := by rw [if_pos rfl] at H; exact H
        clear H
        have H := H1
        clear H1
        replace H := Option.bind_eq_some_iff.mp H
        obtain ⟨t332, A100, H⟩ := H
        replace H : (jobshelllaw15_VarsKeeps.j0 k l0 a2 (t332 != 0) a1_0 a1_1) = some r := H
        have A10 := Aside0.mk A100
        clear A100
        have H' := Aside0.mk H
        clear H
        go_wp2_with (first | ((with_reducible refine gate_callee (f := 10) rfl ?_); refine goesL_ (some 18) rfl rfl Try.func10 (by kernel_rfl) rfl #[.slice A0 l0.length c0] rfl (by (try simp only [List.map_toArray, List.map_cons, List.map_nil]); first | done | rfl | (simp only [List.length_drop, List.length_take]; rfl)) ?_; (with_reducible refine (jobshellref15_Small.calls k _ _ l0 true _ ?side1 ?side2 A6.out).mono ?_); (case side1 => repeat (first | exact (Kd.C_below HR0.out HB.out) | (with_reducible refine Kd.C_alloc ?_ _) | (with_reducible refine Kd.C_drewN ?_ _) | (with_reducible refine Kd.C_drew ?_))); (case side2 => exact HC0.out); rintro e w' ⟨rfl, ⟨nd, rfl⟩⟩; refine ⟨_, rfl, ?_⟩) | (go_at_call 16; (with_reducible refine (jobshelllaw15_short.calls a2 true _ A8.out).mono ?_); rintro e w' ⟨rfl, ⟨nd, rfl⟩⟩) | (go_at_call 15; (with_reducible refine (jobshellref15_Valid.calls k _ _ l0 t332 _ ?side1 ?side2 A10.out).mono ?_); (case side1 => repeat (first | exact (Kd.C_below HR0.out (by repeat (first | (with_reducible first | exact HB.out | apply below_alloc | apply pw_below_drewN | apply below_drew1 | refine below_set ?_ GE329.out) | exact HB.out))) | (with_reducible refine Kd.C_alloc ?_ _) | (with_reducible refine Kd.C_drewN ?_ _) | (with_reducible refine Kd.C_drew ?_))); (case side2 => exact HC0.out); rintro e w' ⟨rfl, ⟨nd, rfl⟩⟩))
        go_meet
        case rel => exact ⟨_, ((t332 != 0)), (by first | rfl | (simp; done) | (simp [*]; done)), H', ⟨by first | omega | exact Nat.le_refl _⟩, ⟨by (with_reducible repeat (first | refine blk_drewN ?_ _ | refine blk_drew ?_ | refine blk_alloc ?_ _)); exact BK329.out⟩, ⟨by repeat (first | (with_reducible first | exact HB.out | apply below_alloc | apply pw_below_drewN | apply below_drew1 | refine below_set ?_ GE329.out) | exact HB.out)⟩⟩
      · replace c9 := Bool.eq_false_iff.mpr c9
        subst c9
        have H1 : (jobshelllaw15_VarsKeeps.j0 k l0 a2 true a1_0 a1_1) = some r := by rw [if_neg (show ¬ (false = true) by decide)] at H; exact H
        clear H
        have H := H1
        clear H1
        have H' := Aside0.mk H
        clear H
        go_wp2_with (first | ((with_reducible refine gate_callee (f := 10) rfl ?_); refine goesL_ (some 18) rfl rfl Try.func10 (by kernel_rfl) rfl #[.slice A0 l0.length c0] rfl (by (try simp only [List.map_toArray, List.map_cons, List.map_nil]); first | done | rfl | (simp only [List.length_drop, List.length_take]; rfl)) ?_; (with_reducible refine (jobshellref15_Small.calls k _ _ l0 true _ ?side1 ?side2 A6.out).mono ?_); (case side1 => repeat (first | exact (Kd.C_below HR0.out HB.out) | (with_reducible refine Kd.C_alloc ?_ _) | (with_reducible refine Kd.C_drewN ?_ _) | (with_reducible refine Kd.C_drew ?_))); (case side2 => exact HC0.out); rintro e w' ⟨rfl, ⟨nd, rfl⟩⟩; refine ⟨_, rfl, ?_⟩) | (go_at_call 16; (with_reducible refine (jobshelllaw15_short.calls a2 false _ A8.out).mono ?_); rintro e w' ⟨rfl, ⟨nd, rfl⟩⟩))
        go_meet
        case rel => exact ⟨_, (true), (by first | rfl | (simp; done) | (simp [*]; done)), H', ⟨by first | omega | exact Nat.le_refl _⟩, ⟨by (with_reducible repeat (first | refine blk_drewN ?_ _ | refine blk_drew ?_ | refine blk_alloc ?_ _)); exact BK329.out⟩, ⟨by repeat (first | (with_reducible first | exact HB.out | apply below_alloc | apply pw_below_drewN | apply below_drew1 | refine below_set ?_ GE329.out) | exact HB.out)⟩⟩
    · replace c7 := Bool.eq_false_iff.mpr c7
      subst c7
      have H1 : (jobshelllaw15_VarsKeeps.j0 k l0 a2 true a1_0 a1_1) = some r := by rw [if_neg (show ¬ (false = true) by decide)] at H; exact H
      clear H
      have H := H1
      clear H1
      have H' := Aside0.mk H
      clear H
      go_wp2_with (first | ((with_reducible refine gate_callee (f := 10) rfl ?_); refine goesL_ (some 18) rfl rfl Try.func10 (by kernel_rfl) rfl #[.slice A0 l0.length c0] rfl (by (try simp only [List.map_toArray, List.map_cons, List.map_nil]); first | done | rfl | (simp only [List.length_drop, List.length_take]; rfl)) ?_; (with_reducible refine (jobshellref15_Small.calls k _ _ l0 false _ ?side1 ?side2 A6.out).mono ?_); (case side1 => repeat (first | exact (Kd.C_below HR0.out HB.out) | (with_reducible refine Kd.C_alloc ?_ _) | (with_reducible refine Kd.C_drewN ?_ _) | (with_reducible refine Kd.C_drew ?_))); (case side2 => exact HC0.out); rintro e w' ⟨rfl, ⟨nd, rfl⟩⟩; refine ⟨_, rfl, ?_⟩))
      go_meet
      case rel => exact ⟨_, (true), (by first | rfl | (simp; done) | (simp [*]; done)), H', ⟨by first | omega | exact Nat.le_refl _⟩, ⟨by (with_reducible repeat (first | refine blk_drewN ?_ _ | refine blk_drew ?_ | refine blk_alloc ?_ _)); exact BK329.out⟩, ⟨by repeat (first | (with_reducible first | exact HB.out | apply below_alloc | apply pw_below_drewN | apply below_drew1 | refine below_set ?_ GE329.out) | exact HB.out)⟩⟩
  case rest =>
    clear HC4
    try clear c1
    try clear p2
    try clear c7
    try clear c9
    try clear c10
    obtain ⟨kq, x29_3, rfl, HA, HJ3, BK329, HB⟩ := hcut
    cases kq with
    | zero => exact absurd HA.out (by simp [jobshelllaw15_VarsKeeps.j0])
    | succ kj3 =>
      have H := HA.out
      clear HA
      simp only [jobshelllaw15_VarsKeeps.j0] at H
      by_cases c11 : x29_3 = true
      · subst c11
        have H1 : ((jobshelllaw15_awake.f).bind fun t333 => (some t333)) = some r := by rw [if_pos rfl] at H; exact H
        clear H
        have H := H1
        clear H1
        replace H := Option.bind_eq_some_iff.mp H
        obtain ⟨t333, A120, H⟩ := H
        replace H : (some t333) = some r := H
        have A12 := Aside0.mk A120
        clear A120
        obtain rfl := Option.some.inj H
        go_wp2_with (first | ((with_reducible refine gate_callee (f := 11) rfl ?_); refine goesL_ (some 30) rfl rfl Try.func11 (by kernel_rfl) rfl #[] rfl (by (try simp only [List.map_toArray, List.map_cons, List.map_nil]); first | done | rfl | (simp only [List.length_drop, List.length_take]; rfl)) ?_; (with_reducible refine (jobshelllaw15_awake.calls  t333 _ A12.out).mono ?_); rintro e w13 ⟨rfl, hb⟩; refine ⟨_, rfl, ?_⟩; have n0_ := Aside0.mk (blk_below (g := gb329) (o := .cells #[.string a1_0, .string a1_1] 51 (0, 0)) (by (with_reducible repeat (first | refine blk_drewN ?_ _ | refine blk_drew ?_ | refine blk_alloc ?_ _)); exact BK329.out) hb); have n1_ := Aside0.mk (below_step (by repeat (first | (with_reducible first | exact HB.out | apply below_alloc | apply pw_below_drewN | apply below_drew1 | refine below_set ?_ GE329.out) | exact HB.out)) hb); clear BK329; clear HB; have BK329 := n0_; have HB := n1_; clear n0_ n1_; (try clear hb); (try clear hb2); (try clear hk); (try clear hi)))
        go_ret
        exact ⟨by first | rfl | (simp [errW_none, errW_some] <;> rfl) | (simp [*, errW_none, errW_some] <;> rfl), by repeat (first | (with_reducible first | exact HB.out | apply below_alloc | apply pw_below_drewN | apply below_drew1 | refine below_set ?_ GE329.out) | exact HB.out)⟩
      · replace c11 := Bool.eq_false_iff.mpr c11
        subst c11
        have H1 : ((vars_Get.f kj3 l0 a1_1).bind fun bt334 => ((vars_Get.f kj3 l0 a1_0).bind fun bt341 => ((vars_Set.f kj3 l0 a1_0 a2).bind fun bt348 => ((vars_Get.f kj3 bt348.1 a1_1).bind fun bt352 => ((vars_Get.f kj3 bt348.1 a1_0).bind fun bt359 => (if a1_0.toList = a1_1.toList then (if bt341.2.2.2.2.1 = true then (jobshelllaw15_VarsKeeps.j1 kj3 a2 bt348.2 bt359.2.2.2.2.2 (!(bt359.1.toList == bt341.1.toList) || (!(bt359.2.1.toList == bt341.2.1.toList) || (!(bt359.2.2.1 == bt341.2.2.1) || (!(bt359.2.2.2.1 == bt341.2.2.2.1) || (!(bt359.2.2.2.2.1 == bt341.2.2.2.2.1)))))) a1_0 a1_1 bt341.1 bt341.2.1 bt341.2.2.1 bt341.2.2.2.1 bt341.2.2.2.2.1 bt359.1 bt359.2.1 bt359.2.2.1 bt359.2.2.2.1 bt359.2.2.2.2.1) else (jobshelllaw15_VarsKeeps.j1 kj3 a2 bt348.2 bt359.2.2.2.2.2 false a1_0 a1_1 bt341.1 bt341.2.1 bt341.2.2.1 bt341.2.2.2.1 bt341.2.2.2.2.1 bt359.1 bt359.2.1 bt359.2.2.1 bt359.2.2.2.1 bt359.2.2.2.2.1)) else (if (!(bt352.1.toList == bt334.1.toList) || (!(bt352.2.1.toList == bt334.2.1.toList) || (!(bt352.2.2.1 == bt334.2.2.1) || (!(bt352.2.2.2.1 == bt334.2.2.2.1) || (!(bt352.2.2.2.2.1 == bt334.2.2.2.2.1)))))) = true then (jobshelllaw15_VarsKeeps.j1 kj3 a2 bt348.2 bt359.2.2.2.2.2 true a1_0 a1_1 bt341.1 bt341.2.1 bt341.2.2.1 bt341.2.2.2.1 bt341.2.2.2.2.1 bt359.1 bt359.2.1 bt359.2.2.1 bt359.2.2.2.1 bt359.2.2.2.2.1) else (if (bt352.2.2.2.2.2 != bt334.2.2.2.2.2) = true then (jobshelllaw15_VarsKeeps.j1 kj3 a2 bt348.2 bt359.2.2.2.2.2 true a1_0 a1_1 bt341.1 bt341.2.1 bt341.2.2.1 bt341.2.2.2.1 bt341.2.2.2.2.1 bt359.1 bt359.2.1 bt359.2.2.1 bt359.2.2.2.1 bt359.2.2.2.2.1) else (if bt341.2.2.2.2.1 = true then (jobshelllaw15_VarsKeeps.j1 kj3 a2 bt348.2 bt359.2.2.2.2.2 (!(bt359.1.toList == bt341.1.toList) || (!(bt359.2.1.toList == bt341.2.1.toList) || (!(bt359.2.2.1 == bt341.2.2.1) || (!(bt359.2.2.2.1 == bt341.2.2.2.1) || (!(bt359.2.2.2.2.1 == bt341.2.2.2.2.1)))))) a1_0 a1_1 bt341.1 bt341.2.1 bt341.2.2.1 bt341.2.2.2.1 bt341.2.2.2.2.1 bt359.1 bt359.2.1 bt359.2.2.1 bt359.2.2.2.1 bt359.2.2.2.2.1) else (jobshelllaw15_VarsKeeps.j1 kj3 a2 bt348.2 bt359.2.2.2.2.2 false a1_0 a1_1 bt341.1 bt341.2.1 bt341.2.2.1 bt341.2.2.2.1 bt341.2.2.2.2.1 bt359.1 bt359.2.1 bt359.2.2.1 bt359.2.2.2.1 bt359.2.2.2.2.1)))))))))) = some r := by rw [if_neg (show ¬ (false = true) by decide)] at H; exact H
        clear H
        have H := H1
        clear H1
        replace H := Option.bind_eq_some_iff.mp H
        obtain ⟨⟨t334, t335, t336, t337, t338, t339⟩, A140, H⟩ := H
        replace H : ((vars_Get.f kj3 l0 a1_0).bind fun bt341 => ((vars_Set.f kj3 l0 a1_0 a2).bind fun bt348 => ((vars_Get.f kj3 bt348.1 a1_1).bind fun bt352 => ((vars_Get.f kj3 bt348.1 a1_0).bind fun bt359 => (if a1_0.toList = a1_1.toList then (if bt341.2.2.2.2.1 = true then (jobshelllaw15_VarsKeeps.j1 kj3 a2 bt348.2 bt359.2.2.2.2.2 (!(bt359.1.toList == bt341.1.toList) || (!(bt359.2.1.toList == bt341.2.1.toList) || (!(bt359.2.2.1 == bt341.2.2.1) || (!(bt359.2.2.2.1 == bt341.2.2.2.1) || (!(bt359.2.2.2.2.1 == bt341.2.2.2.2.1)))))) a1_0 a1_1 bt341.1 bt341.2.1 bt341.2.2.1 bt341.2.2.2.1 bt341.2.2.2.2.1 bt359.1 bt359.2.1 bt359.2.2.1 bt359.2.2.2.1 bt359.2.2.2.2.1) else (jobshelllaw15_VarsKeeps.j1 kj3 a2 bt348.2 bt359.2.2.2.2.2 false a1_0 a1_1 bt341.1 bt341.2.1 bt341.2.2.1 bt341.2.2.2.1 bt341.2.2.2.2.1 bt359.1 bt359.2.1 bt359.2.2.1 bt359.2.2.2.1 bt359.2.2.2.2.1)) else (if (!(bt352.1.toList == t334.toList) || (!(bt352.2.1.toList == t335.toList) || (!(bt352.2.2.1 == t336) || (!(bt352.2.2.2.1 == t337) || (!(bt352.2.2.2.2.1 == t338)))))) = true then (jobshelllaw15_VarsKeeps.j1 kj3 a2 bt348.2 bt359.2.2.2.2.2 true a1_0 a1_1 bt341.1 bt341.2.1 bt341.2.2.1 bt341.2.2.2.1 bt341.2.2.2.2.1 bt359.1 bt359.2.1 bt359.2.2.1 bt359.2.2.2.1 bt359.2.2.2.2.1) else (if (bt352.2.2.2.2.2 != t339) = true then (jobshelllaw15_VarsKeeps.j1 kj3 a2 bt348.2 bt359.2.2.2.2.2 true a1_0 a1_1 bt341.1 bt341.2.1 bt341.2.2.1 bt341.2.2.2.1 bt341.2.2.2.2.1 bt359.1 bt359.2.1 bt359.2.2.1 bt359.2.2.2.1 bt359.2.2.2.2.1) else (if bt341.2.2.2.2.1 = true then (jobshelllaw15_VarsKeeps.j1 kj3 a2 bt348.2 bt359.2.2.2.2.2 (!(bt359.1.toList == bt341.1.toList) || (!(bt359.2.1.toList == bt341.2.1.toList) || (!(bt359.2.2.1 == bt341.2.2.1) || (!(bt359.2.2.2.1 == bt341.2.2.2.1) || (!(bt359.2.2.2.2.1 == bt341.2.2.2.2.1)))))) a1_0 a1_1 bt341.1 bt341.2.1 bt341.2.2.1 bt341.2.2.2.1 bt341.2.2.2.2.1 bt359.1 bt359.2.1 bt359.2.2.1 bt359.2.2.2.1 bt359.2.2.2.2.1) else (jobshelllaw15_VarsKeeps.j1 kj3 a2 bt348.2 bt359.2.2.2.2.2 false a1_0 a1_1 bt341.1 bt341.2.1 bt341.2.2.1 bt341.2.2.2.1 bt341.2.2.2.2.1 bt359.1 bt359.2.1 bt359.2.2.1 bt359.2.2.2.1 bt359.2.2.2.2.1))))))))) = some r := H
        have A14 := Aside0.mk A140
        clear A140
        replace H := Option.bind_eq_some_iff.mp H
        obtain ⟨⟨t341, t342, t343, t344, t345, t346⟩, A150, H⟩ := H
        replace H : ((vars_Set.f kj3 l0 a1_0 a2).bind fun bt348 => ((vars_Get.f kj3 bt348.1 a1_1).bind fun bt352 => ((vars_Get.f kj3 bt348.1 a1_0).bind fun bt359 => (if a1_0.toList = a1_1.toList then (if t345 = true then (jobshelllaw15_VarsKeeps.j1 kj3 a2 bt348.2 bt359.2.2.2.2.2 (!(bt359.1.toList == t341.toList) || (!(bt359.2.1.toList == t342.toList) || (!(bt359.2.2.1 == t343) || (!(bt359.2.2.2.1 == t344) || (!(bt359.2.2.2.2.1 == t345)))))) a1_0 a1_1 t341 t342 t343 t344 t345 bt359.1 bt359.2.1 bt359.2.2.1 bt359.2.2.2.1 bt359.2.2.2.2.1) else (jobshelllaw15_VarsKeeps.j1 kj3 a2 bt348.2 bt359.2.2.2.2.2 false a1_0 a1_1 t341 t342 t343 t344 t345 bt359.1 bt359.2.1 bt359.2.2.1 bt359.2.2.2.1 bt359.2.2.2.2.1)) else (if (!(bt352.1.toList == t334.toList) || (!(bt352.2.1.toList == t335.toList) || (!(bt352.2.2.1 == t336) || (!(bt352.2.2.2.1 == t337) || (!(bt352.2.2.2.2.1 == t338)))))) = true then (jobshelllaw15_VarsKeeps.j1 kj3 a2 bt348.2 bt359.2.2.2.2.2 true a1_0 a1_1 t341 t342 t343 t344 t345 bt359.1 bt359.2.1 bt359.2.2.1 bt359.2.2.2.1 bt359.2.2.2.2.1) else (if (bt352.2.2.2.2.2 != t339) = true then (jobshelllaw15_VarsKeeps.j1 kj3 a2 bt348.2 bt359.2.2.2.2.2 true a1_0 a1_1 t341 t342 t343 t344 t345 bt359.1 bt359.2.1 bt359.2.2.1 bt359.2.2.2.1 bt359.2.2.2.2.1) else (if t345 = true then (jobshelllaw15_VarsKeeps.j1 kj3 a2 bt348.2 bt359.2.2.2.2.2 (!(bt359.1.toList == t341.toList) || (!(bt359.2.1.toList == t342.toList) || (!(bt359.2.2.1 == t343) || (!(bt359.2.2.2.1 == t344) || (!(bt359.2.2.2.2.1 == t345)))))) a1_0 a1_1 t341 t342 t343 t344 t345 bt359.1 bt359.2.1 bt359.2.2.1 bt359.2.2.2.1 bt359.2.2.2.2.1) else (jobshelllaw15_VarsKeeps.j1 kj3 a2 bt348.2 bt359.2.2.2.2.2 false a1_0 a1_1 t341 t342 t343 t344 t345 bt359.1 bt359.2.1 bt359.2.2.1 bt359.2.2.2.1 bt359.2.2.2.2.1)))))))) = some r := H
        have A15 := Aside0.mk A150
        clear A150
        replace H := Option.bind_eq_some_iff.mp H
        obtain ⟨⟨t348, t351⟩, A160, H⟩ := H
        replace H : ((vars_Get.f kj3 t348 a1_1).bind fun bt352 => ((vars_Get.f kj3 t348 a1_0).bind fun bt359 => (if a1_0.toList = a1_1.toList then (if t345 = true then (jobshelllaw15_VarsKeeps.j1 kj3 a2 t351 bt359.2.2.2.2.2 (!(bt359.1.toList == t341.toList) || (!(bt359.2.1.toList == t342.toList) || (!(bt359.2.2.1 == t343) || (!(bt359.2.2.2.1 == t344) || (!(bt359.2.2.2.2.1 == t345)))))) a1_0 a1_1 t341 t342 t343 t344 t345 bt359.1 bt359.2.1 bt359.2.2.1 bt359.2.2.2.1 bt359.2.2.2.2.1) else (jobshelllaw15_VarsKeeps.j1 kj3 a2 t351 bt359.2.2.2.2.2 false a1_0 a1_1 t341 t342 t343 t344 t345 bt359.1 bt359.2.1 bt359.2.2.1 bt359.2.2.2.1 bt359.2.2.2.2.1)) else (if (!(bt352.1.toList == t334.toList) || (!(bt352.2.1.toList == t335.toList) || (!(bt352.2.2.1 == t336) || (!(bt352.2.2.2.1 == t337) || (!(bt352.2.2.2.2.1 == t338)))))) = true then (jobshelllaw15_VarsKeeps.j1 kj3 a2 t351 bt359.2.2.2.2.2 true a1_0 a1_1 t341 t342 t343 t344 t345 bt359.1 bt359.2.1 bt359.2.2.1 bt359.2.2.2.1 bt359.2.2.2.2.1) else (if (bt352.2.2.2.2.2 != t339) = true then (jobshelllaw15_VarsKeeps.j1 kj3 a2 t351 bt359.2.2.2.2.2 true a1_0 a1_1 t341 t342 t343 t344 t345 bt359.1 bt359.2.1 bt359.2.2.1 bt359.2.2.2.1 bt359.2.2.2.2.1) else (if t345 = true then (jobshelllaw15_VarsKeeps.j1 kj3 a2 t351 bt359.2.2.2.2.2 (!(bt359.1.toList == t341.toList) || (!(bt359.2.1.toList == t342.toList) || (!(bt359.2.2.1 == t343) || (!(bt359.2.2.2.1 == t344) || (!(bt359.2.2.2.2.1 == t345)))))) a1_0 a1_1 t341 t342 t343 t344 t345 bt359.1 bt359.2.1 bt359.2.2.1 bt359.2.2.2.1 bt359.2.2.2.2.1) else (jobshelllaw15_VarsKeeps.j1 kj3 a2 t351 bt359.2.2.2.2.2 false a1_0 a1_1 t341 t342 t343 t344 t345 bt359.1 bt359.2.1 bt359.2.2.1 bt359.2.2.2.1 bt359.2.2.2.2.1))))))) = some r := H
        have A16 := Aside0.mk A160
        clear A160
        replace H := Option.bind_eq_some_iff.mp H
        obtain ⟨⟨t352, t353, t354, t355, t356, t357⟩, A170, H⟩ := H
        replace H : ((vars_Get.f kj3 t348 a1_0).bind fun bt359 => (if a1_0.toList = a1_1.toList then (if t345 = true then (jobshelllaw15_VarsKeeps.j1 kj3 a2 t351 bt359.2.2.2.2.2 (!(bt359.1.toList == t341.toList) || (!(bt359.2.1.toList == t342.toList) || (!(bt359.2.2.1 == t343) || (!(bt359.2.2.2.1 == t344) || (!(bt359.2.2.2.2.1 == t345)))))) a1_0 a1_1 t341 t342 t343 t344 t345 bt359.1 bt359.2.1 bt359.2.2.1 bt359.2.2.2.1 bt359.2.2.2.2.1) else (jobshelllaw15_VarsKeeps.j1 kj3 a2 t351 bt359.2.2.2.2.2 false a1_0 a1_1 t341 t342 t343 t344 t345 bt359.1 bt359.2.1 bt359.2.2.1 bt359.2.2.2.1 bt359.2.2.2.2.1)) else (if (!(t352.toList == t334.toList) || (!(t353.toList == t335.toList) || (!(t354 == t336) || (!(t355 == t337) || (!(t356 == t338)))))) = true then (jobshelllaw15_VarsKeeps.j1 kj3 a2 t351 bt359.2.2.2.2.2 true a1_0 a1_1 t341 t342 t343 t344 t345 bt359.1 bt359.2.1 bt359.2.2.1 bt359.2.2.2.1 bt359.2.2.2.2.1) else (if (t357 != t339) = true then (jobshelllaw15_VarsKeeps.j1 kj3 a2 t351 bt359.2.2.2.2.2 true a1_0 a1_1 t341 t342 t343 t344 t345 bt359.1 bt359.2.1 bt359.2.2.1 bt359.2.2.2.1 bt359.2.2.2.2.1) else (if t345 = true then (jobshelllaw15_VarsKeeps.j1 kj3 a2 t351 bt359.2.2.2.2.2 (!(bt359.1.toList == t341.toList) || (!(bt359.2.1.toList == t342.toList) || (!(bt359.2.2.1 == t343) || (!(bt359.2.2.2.1 == t344) || (!(bt359.2.2.2.2.1 == t345)))))) a1_0 a1_1 t341 t342 t343 t344 t345 bt359.1 bt359.2.1 bt359.2.2.1 bt359.2.2.2.1 bt359.2.2.2.2.1) else (jobshelllaw15_VarsKeeps.j1 kj3 a2 t351 bt359.2.2.2.2.2 false a1_0 a1_1 t341 t342 t343 t344 t345 bt359.1 bt359.2.1 bt359.2.2.1 bt359.2.2.2.1 bt359.2.2.2.2.1)))))) = some r := H
        have A17 := Aside0.mk A170
        clear A170
        replace H := Option.bind_eq_some_iff.mp H
        obtain ⟨⟨t359, t360, t361, t362, t363, t364⟩, A180, H⟩ := H
        replace H : (if a1_0.toList = a1_1.toList then (if t345 = true then (jobshelllaw15_VarsKeeps.j1 kj3 a2 t351 t364 (!(t359.toList == t341.toList) || (!(t360.toList == t342.toList) || (!(t361 == t343) || (!(t362 == t344) || (!(t363 == t345)))))) a1_0 a1_1 t341 t342 t343 t344 t345 t359 t360 t361 t362 t363) else (jobshelllaw15_VarsKeeps.j1 kj3 a2 t351 t364 false a1_0 a1_1 t341 t342 t343 t344 t345 t359 t360 t361 t362 t363)) else (if (!(t352.toList == t334.toList) || (!(t353.toList == t335.toList) || (!(t354 == t336) || (!(t355 == t337) || (!(t356 == t338)))))) = true then (jobshelllaw15_VarsKeeps.j1 kj3 a2 t351 t364 true a1_0 a1_1 t341 t342 t343 t344 t345 t359 t360 t361 t362 t363) else (if (t357 != t339) = true then (jobshelllaw15_VarsKeeps.j1 kj3 a2 t351 t364 true a1_0 a1_1 t341 t342 t343 t344 t345 t359 t360 t361 t362 t363) else (if t345 = true then (jobshelllaw15_VarsKeeps.j1 kj3 a2 t351 t364 (!(t359.toList == t341.toList) || (!(t360.toList == t342.toList) || (!(t361 == t343) || (!(t362 == t344) || (!(t363 == t345)))))) a1_0 a1_1 t341 t342 t343 t344 t345 t359 t360 t361 t362 t363) else (jobshelllaw15_VarsKeeps.j1 kj3 a2 t351 t364 false a1_0 a1_1 t341 t342 t343 t344 t345 t359 t360 t361 t362 t363))))) = some r := H
        have A18 := Aside0.mk A180
        clear A180
        have HC19 := Aside0.mk H
        clear H
        have hcz20_0 : wc.cell? ⟨gb329, 0, none⟩ = some (.string a1_0) := (blk_cell BK329.out 0).trans rfl
        have hcz20_1 : wc.cell? ⟨gb329, 1, none⟩ = some (.string a1_1) := (blk_cell BK329.out 1).trans rfl
        have hfz20_0 := blk_frozen BK329.out 0
        have hfz20_1 := blk_frozen BK329.out 1
        go_upto_region 8 with (first | ((with_reducible refine gate_callee (f := 12) rfl ?_); refine goesL_ (some 35) rfl rfl Try.func12 (by kernel_rfl) rfl #[.slice A0 l0.length c0, .string a1_1] rfl (by (try simp only [List.map_toArray, List.map_cons, List.map_nil]); first | done | rfl | (simp only [List.length_drop, List.length_take]; rfl)) ?_; (with_reducible refine (vars_Get.calls kj3 _ _ l0 a1_1 t334 t335 t336 t337 t338 t339 _ ?side1 ?side2 A14.out).mono ?_); (case side1 => repeat (first | exact (Kd.C_below HR0.out HB.out) | (with_reducible refine Kd.C_alloc ?_ _) | (with_reducible refine Kd.C_drewN ?_ _) | (with_reducible refine Kd.C_drew ?_))); (case side2 => exact HC0.out); rintro e w21 ⟨rfl, hb⟩; refine ⟨_, rfl, ?_⟩; have n0_ := Aside0.mk (blk_below (g := gb329) (o := .cells #[.string a1_0, .string a1_1] 51 (0, 0)) (by (with_reducible repeat (first | refine blk_drewN ?_ _ | refine blk_drew ?_ | refine blk_alloc ?_ _)); exact BK329.out) hb); have n1_ := Aside0.mk (below_step (by repeat (first | (with_reducible first | exact HB.out | apply below_alloc | apply pw_below_drewN | apply below_drew1 | refine below_set ?_ GE329.out) | exact HB.out)) hb); clear BK329; clear HB; have BK329 := n0_; have HB := n1_; clear n0_ n1_; (try clear hb); (try clear hb2); (try clear hk); (try clear hi)) | ((with_reducible refine gate_dst (N := 7) rfl ?_); refine box_event ?hg (N := 7) ?hd (cs := #[.string (⟨#[]⟩ : ByteArray), .string (⟨#[]⟩ : ByteArray), .bool false, .bool false, .bool false]) (t := 26) ?hr ?_; (case hd => rfl); (case hg => rfl); (case hr => first | (go_simp; done) | (go_simp; rfl)); intro gb340 hg w22 hbox hb; have n0_ := Aside0.mk (blk_below (g := gb329) (o := .cells #[.string a1_0, .string a1_1] 51 (0, 0)) (by (with_reducible repeat (first | refine blk_drewN ?_ _ | refine blk_drew ?_ | refine blk_alloc ?_ _)); exact BK329.out) hb); have n1_ := Aside0.mk (below_step (by repeat (first | (with_reducible first | exact HB.out | apply below_alloc | apply pw_below_drewN | apply below_drew1 | refine below_set ?_ GE329.out) | exact HB.out)) hb); have n2_ := Aside0.mk (hbox); have n3_ := Aside0.mk ((by rw [hg]; exact (below_size (by repeat (first | (with_reducible first | exact HB.out | apply below_alloc | apply pw_below_drewN | apply below_drew1 | refine below_set ?_ GE329.out) | exact HB.out))) : w.heap.size ≤ gb340)); have n4_ := Aside0.mk ((by rw [hg]; exact (below_size (by repeat (first | (with_reducible first | exact HB.out | apply below_alloc | apply pw_below_drewN | apply below_drew1 | refine below_set ?_ GE329.out) | exact HB.out))) : w.heap.size ≤ gb340)); have n5_ := Aside0.mk ((by rw [hg]; exact Nat.ne_of_lt (blk_lt (g := gb329) (o := .cells #[.string a1_0, .string a1_1] 51 (0, 0)) (by (with_reducible repeat (first | refine blk_drewN ?_ _ | refine blk_drew ?_ | refine blk_alloc ?_ _)); exact BK329.out)) : gb329 ≠ gb340)); have n6_ := Aside0.mk ((by rw [hg]; exact Nat.ne_of_gt (blk_lt (g := gb329) (o := .cells #[.string a1_0, .string a1_1] 51 (0, 0)) (by (with_reducible repeat (first | refine blk_drewN ?_ _ | refine blk_drew ?_ | refine blk_alloc ?_ _)); exact BK329.out)) : gb340 ≠ gb329)); clear BK329; clear HB; have BK329 := n0_; have HB := n1_; have BK340 := n2_; have GW340 := n3_; have GE340 := n4_; have NB329_340 := n5_; have NB340_329 := n6_; clear n0_ n1_ n2_ n3_ n4_ n5_ n6_; clear hb hbox hg; have hnb23 := NB340_329.out; have hnc23 := NB329_340.out; have hcz24_0 : w22.cell? ⟨gb340, 0, none⟩ = some (.string (⟨#[]⟩ : ByteArray)) := (blk_cell BK340.out 0).trans rfl; have hcz24_1 : w22.cell? ⟨gb340, 1, none⟩ = some (.string (⟨#[]⟩ : ByteArray)) := (blk_cell BK340.out 1).trans rfl; have hcz24_2 : w22.cell? ⟨gb340, 2, none⟩ = some (.bool false) := (blk_cell BK340.out 2).trans rfl; have hcz24_3 : w22.cell? ⟨gb340, 3, none⟩ = some (.bool false) := (blk_cell BK340.out 3).trans rfl; have hcz24_4 : w22.cell? ⟨gb340, 4, none⟩ = some (.bool false) := (blk_cell BK340.out 4).trans rfl; have hfz24_0 := blk_frozen BK340.out 0; have hfz24_1 := blk_frozen BK340.out 1; have hfz24_2 := blk_frozen BK340.out 2; have hfz24_3 := blk_frozen BK340.out 3; have hfz24_4 := blk_frozen BK340.out 4; have hcz25_0 : w22.cell? ⟨gb329, 0, none⟩ = some (.string a1_0) := (blk_cell BK329.out 0).trans rfl; have hcz25_1 : w22.cell? ⟨gb329, 1, none⟩ = some (.string a1_1) := (blk_cell BK329.out 1).trans rfl; have hfz25_0 := blk_frozen BK329.out 0; have hfz25_1 := blk_frozen BK329.out 1) | ((with_reducible refine gate_callee (f := 12) rfl ?_); refine goesL_ (some 42) rfl rfl Try.func12 (by kernel_rfl) rfl #[.slice A0 l0.length c0, .string a1_0] rfl (by (try simp only [List.map_toArray, List.map_cons, List.map_nil]); first | done | rfl | (simp only [List.length_drop, List.length_take]; rfl)) ?_; (with_reducible refine (vars_Get.calls kj3 _ _ l0 a1_0 t341 t342 t343 t344 t345 t346 _ ?side1 ?side2 A15.out).mono ?_); (case side1 => exact Kd.C_below HR0.out (by repeat (first | (with_reducible first | exact HB.out | apply below_alloc | apply pw_below_drewN | apply below_drew1 | refine below_set ?_ GE329.out | refine below_set ?_ GE340.out) | exact HB.out))); (case side2 => exact HC0.out); rintro e w26 ⟨rfl, hb⟩; refine ⟨_, rfl, ?_⟩; have n0_ := Aside0.mk (blk_below (g := gb329) (o := .cells #[.string a1_0, .string a1_1] 51 (0, 0)) (by (with_reducible repeat (first | refine blk_drewN ?_ _ | refine blk_drew ?_ | refine blk_alloc ?_ _)); refine blk_far ?_ NB329_340.out _; (with_reducible repeat (first | refine blk_drewN ?_ _ | refine blk_drew ?_ | refine blk_alloc ?_ _)); refine blk_far ?_ NB329_340.out _; (with_reducible repeat (first | refine blk_drewN ?_ _ | refine blk_drew ?_ | refine blk_alloc ?_ _)); refine blk_far ?_ NB329_340.out _; (with_reducible repeat (first | refine blk_drewN ?_ _ | refine blk_drew ?_ | refine blk_alloc ?_ _)); refine blk_far ?_ NB329_340.out _; (with_reducible repeat (first | refine blk_drewN ?_ _ | refine blk_drew ?_ | refine blk_alloc ?_ _)); refine blk_far ?_ NB329_340.out _; (with_reducible repeat (first | refine blk_drewN ?_ _ | refine blk_drew ?_ | refine blk_alloc ?_ _)); exact BK329.out) hb); have n1_ := Aside0.mk (blk_below (g := gb340) (o := .cells #[.string t334, .string t335, .bool t336, .bool t337, .bool t338] 26 (0, 0)) (by (with_reducible repeat (first | refine blk_drewN ?_ _ | refine blk_drew ?_ | refine blk_alloc ?_ _)); refine blk_put (cs := #[.string t334, .string t335, .bool t336, .bool t337, .bool false]) ?_ 4 _ rfl; (with_reducible repeat (first | refine blk_drewN ?_ _ | refine blk_drew ?_ | refine blk_alloc ?_ _)); refine blk_put (cs := #[.string t334, .string t335, .bool t336, .bool false, .bool false]) ?_ 3 _ rfl; (with_reducible repeat (first | refine blk_drewN ?_ _ | refine blk_drew ?_ | refine blk_alloc ?_ _)); refine blk_put (cs := #[.string t334, .string t335, .bool false, .bool false, .bool false]) ?_ 2 _ rfl; (with_reducible repeat (first | refine blk_drewN ?_ _ | refine blk_drew ?_ | refine blk_alloc ?_ _)); refine blk_put (cs := #[.string t334, .string (⟨#[]⟩ : ByteArray), .bool false, .bool false, .bool false]) ?_ 1 _ rfl; (with_reducible repeat (first | refine blk_drewN ?_ _ | refine blk_drew ?_ | refine blk_alloc ?_ _)); refine blk_put (cs := #[.string (⟨#[]⟩ : ByteArray), .string (⟨#[]⟩ : ByteArray), .bool false, .bool false, .bool false]) ?_ 0 _ rfl; (with_reducible repeat (first | refine blk_drewN ?_ _ | refine blk_drew ?_ | refine blk_alloc ?_ _)); exact BK340.out) hb); have n2_ := Aside0.mk (below_step (by repeat (first | (with_reducible first | exact HB.out | apply below_alloc | apply pw_below_drewN | apply below_drew1 | refine below_set ?_ GE329.out | refine below_set ?_ GE340.out) | exact HB.out)) hb); clear BK329; clear BK340; clear HB; have BK329 := n0_; have BK340 := n1_; have HB := n2_; clear n0_ n1_ n2_; (try clear hb); (try clear hb2); (try clear hk); (try clear hi)) | ((with_reducible refine gate_dst (N := 9) rfl ?_); refine box_event ?hg (N := 9) ?hd (cs := #[.string (⟨#[]⟩ : ByteArray), .string (⟨#[]⟩ : ByteArray), .bool false, .bool false, .bool false]) (t := 26) ?hr ?_; (case hd => rfl); (case hg => rfl); (case hr => first | (go_simp; done) | (go_simp; rfl)); intro gb347 hg w27 hbox hb; have n0_ := Aside0.mk (blk_below (g := gb329) (o := .cells #[.string a1_0, .string a1_1] 51 (0, 0)) (by (with_reducible repeat (first | refine blk_drewN ?_ _ | refine blk_drew ?_ | refine blk_alloc ?_ _)); exact BK329.out) hb); have n1_ := Aside0.mk (blk_below (g := gb340) (o := .cells #[.string t334, .string t335, .bool t336, .bool t337, .bool t338] 26 (0, 0)) (by (with_reducible repeat (first | refine blk_drewN ?_ _ | refine blk_drew ?_ | refine blk_alloc ?_ _)); exact BK340.out) hb); have n2_ := Aside0.mk (below_step (by repeat (first | (with_reducible first | exact HB.out | apply below_alloc | apply pw_below_drewN | apply below_drew1 | refine below_set ?_ GE329.out | refine below_set ?_ GE340.out) | exact HB.out)) hb); have n3_ := Aside0.mk (hbox); have n4_ := Aside0.mk ((by rw [hg]; exact (below_size (by repeat (first | (with_reducible first | exact HB.out | apply below_alloc | apply pw_below_drewN | apply below_drew1 | refine below_set ?_ GE329.out | refine below_set ?_ GE340.out) | exact HB.out))) : w.heap.size ≤ gb347)); have n5_ := Aside0.mk ((by rw [hg]; exact (below_size (by repeat (first | (with_reducible first | exact HB.out | apply below_alloc | apply pw_below_drewN | apply below_drew1 | refine below_set ?_ GE329.out | refine below_set ?_ GE340.out) | exact HB.out))) : w.heap.size ≤ gb347)); have n6_ := Aside0.mk ((by rw [hg]; exact Nat.ne_of_lt (blk_lt (g := gb329) (o := .cells #[.string a1_0, .string a1_1] 51 (0, 0)) (by (with_reducible repeat (first | refine blk_drewN ?_ _ | refine blk_drew ?_ | refine blk_alloc ?_ _)); exact BK329.out)) : gb329 ≠ gb347)); have n7_ := Aside0.mk ((by rw [hg]; exact Nat.ne_of_gt (blk_lt (g := gb329) (o := .cells #[.string a1_0, .string a1_1] 51 (0, 0)) (by (with_reducible repeat (first | refine blk_drewN ?_ _ | refine blk_drew ?_ | refine blk_alloc ?_ _)); exact BK329.out)) : gb347 ≠ gb329)); have n8_ := Aside0.mk ((by rw [hg]; exact Nat.ne_of_lt (blk_lt (g := gb340) (o := .cells #[.string t334, .string t335, .bool t336, .bool t337, .bool t338] 26 (0, 0)) (by (with_reducible repeat (first | refine blk_drewN ?_ _ | refine blk_drew ?_ | refine blk_alloc ?_ _)); exact BK340.out)) : gb340 ≠ gb347)); have n9_ := Aside0.mk ((by rw [hg]; exact Nat.ne_of_gt (blk_lt (g := gb340) (o := .cells #[.string t334, .string t335, .bool t336, .bool t337, .bool t338] 26 (0, 0)) (by (with_reducible repeat (first | refine blk_drewN ?_ _ | refine blk_drew ?_ | refine blk_alloc ?_ _)); exact BK340.out)) : gb347 ≠ gb340)); clear BK329; clear BK340; clear HB; have BK329 := n0_; have BK340 := n1_; have HB := n2_; have BK347 := n3_; have GW347 := n4_; have GE347 := n5_; have NB329_347 := n6_; have NB347_329 := n7_; have NB340_347 := n8_; have NB347_340 := n9_; clear n0_ n1_ n2_ n3_ n4_ n5_ n6_ n7_ n8_ n9_; clear hb hbox hg; have hnb28 := NB347_329.out; have hnc28 := NB329_347.out; have hnb29 := NB347_340.out; have hnc29 := NB340_347.out; have hcz30_0 : w27.cell? ⟨gb347, 0, none⟩ = some (.string (⟨#[]⟩ : ByteArray)) := (blk_cell BK347.out 0).trans rfl; have hcz30_1 : w27.cell? ⟨gb347, 1, none⟩ = some (.string (⟨#[]⟩ : ByteArray)) := (blk_cell BK347.out 1).trans rfl; have hcz30_2 : w27.cell? ⟨gb347, 2, none⟩ = some (.bool false) := (blk_cell BK347.out 2).trans rfl; have hcz30_3 : w27.cell? ⟨gb347, 3, none⟩ = some (.bool false) := (blk_cell BK347.out 3).trans rfl; have hcz30_4 : w27.cell? ⟨gb347, 4, none⟩ = some (.bool false) := (blk_cell BK347.out 4).trans rfl; have hfz30_0 := blk_frozen BK347.out 0; have hfz30_1 := blk_frozen BK347.out 1; have hfz30_2 := blk_frozen BK347.out 2; have hfz30_3 := blk_frozen BK347.out 3; have hfz30_4 := blk_frozen BK347.out 4) | ((with_reducible refine gate_store (t := 26) (p := 9) rfl ?_); refine store_event (t := 26) (p := 9) (v := ?vo_w31) (w1 := (((((w27.setCell ⟨gb347, 0, none⟩ (.string t341)).setCell ⟨gb347, 1, none⟩ (.string t342)).setCell ⟨gb347, 2, none⟩ (.bool t343)).setCell ⟨gb347, 3, none⟩ (.bool t344)).setCell ⟨gb347, 4, none⟩ (.bool t345))) ?hg ?ho ?hn ?hr ?_; (case ho => rfl); (case hg => rfl); (case hn => rfl); (case hr => first | (go_simp; done) | (go_simp; rfl)); intro w31 hw; have n0_ : Aside0 (w31.heap[gb329]? = some (.cells #[.string a1_0, .string a1_1] 51 (0, 0))) := ⟨(by rw [hw]; exact (by (with_reducible repeat (first | refine blk_drewN ?_ _ | refine blk_drew ?_ | refine blk_alloc ?_ _)); refine blk_far ?_ NB329_347.out _; (with_reducible repeat (first | refine blk_drewN ?_ _ | refine blk_drew ?_ | refine blk_alloc ?_ _)); refine blk_far ?_ NB329_347.out _; (with_reducible repeat (first | refine blk_drewN ?_ _ | refine blk_drew ?_ | refine blk_alloc ?_ _)); refine blk_far ?_ NB329_347.out _; (with_reducible repeat (first | refine blk_drewN ?_ _ | refine blk_drew ?_ | refine blk_alloc ?_ _)); refine blk_far ?_ NB329_347.out _; (with_reducible repeat (first | refine blk_drewN ?_ _ | refine blk_drew ?_ | refine blk_alloc ?_ _)); refine blk_far ?_ NB329_347.out _; (with_reducible repeat (first | refine blk_drewN ?_ _ | refine blk_drew ?_ | refine blk_alloc ?_ _)); exact BK329.out))⟩; have n1_ : Aside0 (w31.heap[gb340]? = some (.cells #[.string t334, .string t335, .bool t336, .bool t337, .bool t338] 26 (0, 0))) := ⟨(by rw [hw]; exact (by (with_reducible repeat (first | refine blk_drewN ?_ _ | refine blk_drew ?_ | refine blk_alloc ?_ _)); refine blk_far ?_ NB340_347.out _; (with_reducible repeat (first | refine blk_drewN ?_ _ | refine blk_drew ?_ | refine blk_alloc ?_ _)); refine blk_far ?_ NB340_347.out _; (with_reducible repeat (first | refine blk_drewN ?_ _ | refine blk_drew ?_ | refine blk_alloc ?_ _)); refine blk_far ?_ NB340_347.out _; (with_reducible repeat (first | refine blk_drewN ?_ _ | refine blk_drew ?_ | refine blk_alloc ?_ _)); refine blk_far ?_ NB340_347.out _; (with_reducible repeat (first | refine blk_drewN ?_ _ | refine blk_drew ?_ | refine blk_alloc ?_ _)); refine blk_far ?_ NB340_347.out _; (with_reducible repeat (first | refine blk_drewN ?_ _ | refine blk_drew ?_ | refine blk_alloc ?_ _)); exact BK340.out))⟩; have n2_ : Aside0 (w31.heap[gb347]? = some (.cells #[.string t341, .string t342, .bool t343, .bool t344, .bool t345] 26 (0, 0))) := ⟨(by rw [hw]; exact (by (with_reducible repeat (first | refine blk_drewN ?_ _ | refine blk_drew ?_ | refine blk_alloc ?_ _)); refine blk_put (cs := #[.string t341, .string t342, .bool t343, .bool t344, .bool false]) ?_ 4 _ rfl; (with_reducible repeat (first | refine blk_drewN ?_ _ | refine blk_drew ?_ | refine blk_alloc ?_ _)); refine blk_put (cs := #[.string t341, .string t342, .bool t343, .bool false, .bool false]) ?_ 3 _ rfl; (with_reducible repeat (first | refine blk_drewN ?_ _ | refine blk_drew ?_ | refine blk_alloc ?_ _)); refine blk_put (cs := #[.string t341, .string t342, .bool false, .bool false, .bool false]) ?_ 2 _ rfl; (with_reducible repeat (first | refine blk_drewN ?_ _ | refine blk_drew ?_ | refine blk_alloc ?_ _)); refine blk_put (cs := #[.string t341, .string (⟨#[]⟩ : ByteArray), .bool false, .bool false, .bool false]) ?_ 1 _ rfl; (with_reducible repeat (first | refine blk_drewN ?_ _ | refine blk_drew ?_ | refine blk_alloc ?_ _)); refine blk_put (cs := #[.string (⟨#[]⟩ : ByteArray), .string (⟨#[]⟩ : ByteArray), .bool false, .bool false, .bool false]) ?_ 0 _ rfl; (with_reducible repeat (first | refine blk_drewN ?_ _ | refine blk_drew ?_ | refine blk_alloc ?_ _)); exact BK347.out))⟩; have n3_ : Aside0 (Below w.heap.size w w31) := ⟨(by rw [hw]; exact (by repeat (first | (with_reducible first | exact HB.out | apply below_alloc | apply pw_below_drewN | apply below_drew1 | refine below_set ?_ GE329.out | refine below_set ?_ GE340.out | refine below_set ?_ GE347.out) | exact HB.out)))⟩; clear hw; clear BK329; clear BK340; clear BK347; clear HB; have BK329 := n0_; have BK340 := n1_; have BK347 := n2_; have HB := n3_; clear n0_ n1_ n2_ n3_; have hcz32_0 : w31.cell? ⟨gb329, 0, none⟩ = some (.string a1_0) := (blk_cell BK329.out 0).trans rfl; have hcz32_1 : w31.cell? ⟨gb329, 1, none⟩ = some (.string a1_1) := (blk_cell BK329.out 1).trans rfl; have hfz32_0 := blk_frozen BK329.out 0; have hfz32_1 := blk_frozen BK329.out 1) | ((with_reducible refine gate_callee (f := 17) rfl ?_); refine goesL_ (some 50) rfl rfl Try.func17 (by kernel_rfl) rfl #[.slice A0 l0.length c0, .string a1_0, .string a2] rfl (by (try simp only [List.map_toArray, List.map_cons, List.map_nil]); first | done | rfl | (simp only [List.length_drop, List.length_take]; rfl)) ?_; (with_reducible refine (vars_Set.calls kj3 (fun k_ => k_ < w.heap.size) _ _ l0 a1_0 a2 t348 t351 _ ?side1 A16.out).mono ?_); (case side1 => exact Kd.V_mk HC0.out (Kd.F_below (Kd.C_F k26_heap HR0.out) (by repeat (first | (with_reducible first | exact HB.out | apply below_alloc | apply pw_below_drewN | apply below_drew1 | refine below_set ?_ GE329.out | refine below_set ?_ GE340.out | refine below_set ?_ GE347.out) | exact HB.out)))); rintro e w33 ⟨v349, rfl, ho0, hb⟩; refine ⟨_, rfl, ?_⟩; have n0_ := Aside0.mk (Kd.V_lower (Kd.V_mono (ok' := fun k_ => k_ ≠ gb329 ∧ k_ ≠ gb340 ∧ k_ ≠ gb347) ho0 (fun k_ hk_ => ⟨Or.elim hk_ (fun hs_ => fun e_ => Nat.not_le.2 hs_ (by rw [e_]; exact GW329.out)) (fun hn_ => (Kd.freshB (g := gb329) (o := .cells #[.string a1_0, .string a1_1] 51 (0, 0)) (by (with_reducible repeat (first | refine blk_drewN ?_ _ | refine blk_drew ?_ | refine blk_alloc ?_ _)); exact BK329.out) k_ hn_)), Or.elim hk_ (fun hs_ => fun e_ => Nat.not_le.2 hs_ (by rw [e_]; exact GW340.out)) (fun hn_ => (Kd.freshB (g := gb340) (o := .cells #[.string t334, .string t335, .bool t336, .bool t337, .bool t338] 26 (0, 0)) (by (with_reducible repeat (first | refine blk_drewN ?_ _ | refine blk_drew ?_ | refine blk_alloc ?_ _)); exact BK340.out) k_ hn_)), Or.elim hk_ (fun hs_ => fun e_ => Nat.not_le.2 hs_ (by rw [e_]; exact GW347.out)) (fun hn_ => (Kd.freshB (g := gb347) (o := .cells #[.string t341, .string t342, .bool t343, .bool t344, .bool t345] 26 (0, 0)) (by (with_reducible repeat (first | refine blk_drewN ?_ _ | refine blk_drew ?_ | refine blk_alloc ?_ _)); exact BK347.out) k_ hn_))⟩)) (below_size (by repeat (first | (with_reducible first | exact HB.out | apply below_alloc | apply pw_below_drewN | apply below_drew1 | refine below_set ?_ GE329.out | refine below_set ?_ GE340.out | refine below_set ?_ GE347.out) | exact HB.out)))); have n1_ := Aside0.mk (blk_below (g := gb329) (o := .cells #[.string a1_0, .string a1_1] 51 (0, 0)) (by (with_reducible repeat (first | refine blk_drewN ?_ _ | refine blk_drew ?_ | refine blk_alloc ?_ _)); exact BK329.out) hb); have n2_ := Aside0.mk (blk_below (g := gb340) (o := .cells #[.string t334, .string t335, .bool t336, .bool t337, .bool t338] 26 (0, 0)) (by (with_reducible repeat (first | refine blk_drewN ?_ _ | refine blk_drew ?_ | refine blk_alloc ?_ _)); exact BK340.out) hb); have n3_ := Aside0.mk (blk_below (g := gb347) (o := .cells #[.string t341, .string t342, .bool t343, .bool t344, .bool t345] 26 (0, 0)) (by (with_reducible repeat (first | refine blk_drewN ?_ _ | refine blk_drew ?_ | refine blk_alloc ?_ _)); exact BK347.out) hb); have n4_ := Aside0.mk (below_step (by repeat (first | (with_reducible first | exact HB.out | apply below_alloc | apply pw_below_drewN | apply below_drew1 | refine below_set ?_ GE329.out | refine below_set ?_ GE340.out | refine below_set ?_ GE347.out) | exact HB.out)) hb); clear BK329; clear BK340; clear BK347; clear HB; have HO350 := n0_; have BK329 := n1_; have BK340 := n2_; have BK347 := n3_; have HB := n4_; clear n0_ n1_ n2_ n3_ n4_; (try clear hb); (try clear hb2); (try clear hk); (try clear hi); (try clear ho0); have hcz34_0 : w33.cell? ⟨gb329, 0, none⟩ = some (.string a1_0) := (blk_cell BK329.out 0).trans rfl; have hcz34_1 : w33.cell? ⟨gb329, 1, none⟩ = some (.string a1_1) := (blk_cell BK329.out 1).trans rfl; have hfz34_0 := blk_frozen BK329.out 0; have hfz34_1 := blk_frozen BK329.out 1; obtain ⟨Ao35, co35, eo35⟩ := Kd.V_slice HO350.out; subst eo35) | ((with_reducible refine gate_callee (f := 12) rfl ?_); refine goesL_ (some 57) rfl rfl Try.func12 (by kernel_rfl) rfl #[.slice Ao35 t348.length co35, .string a1_1] rfl (by (try simp only [List.map_toArray, List.map_cons, List.map_nil]); first | done | rfl | (simp only [List.length_drop, List.length_take]; rfl)) ?_; (with_reducible refine (vars_Get.calls kj3 _ _ t348 a1_1 t352 t353 t354 t355 t356 t357 _ ?side1 ?side2 A17.out).mono ?_); (case side1 => repeat (first | exact (Kd.V_reads' HO350.out).2.2 | (with_reducible refine Kd.C_alloc ?_ _) | (with_reducible refine Kd.C_drewN ?_ _) | (with_reducible refine Kd.C_drew ?_))); (case side2 => exact (Kd.V_reads' HO350.out).2.1); rintro e w36 ⟨rfl, hb⟩; refine ⟨_, rfl, ?_⟩; have n0_ := Aside0.mk (Kd.V_below (by (with_reducible repeat (first | apply Kd.V_alloc | apply Kd.V_drewN | apply Kd.V_drew)); exact HO350.out) hb); have n1_ := Aside0.mk (blk_below (g := gb329) (o := .cells #[.string a1_0, .string a1_1] 51 (0, 0)) (by (with_reducible repeat (first | refine blk_drewN ?_ _ | refine blk_drew ?_ | refine blk_alloc ?_ _)); exact BK329.out) hb); have n2_ := Aside0.mk (blk_below (g := gb340) (o := .cells #[.string t334, .string t335, .bool t336, .bool t337, .bool t338] 26 (0, 0)) (by (with_reducible repeat (first | refine blk_drewN ?_ _ | refine blk_drew ?_ | refine blk_alloc ?_ _)); exact BK340.out) hb); have n3_ := Aside0.mk (blk_below (g := gb347) (o := .cells #[.string t341, .string t342, .bool t343, .bool t344, .bool t345] 26 (0, 0)) (by (with_reducible repeat (first | refine blk_drewN ?_ _ | refine blk_drew ?_ | refine blk_alloc ?_ _)); exact BK347.out) hb); have n4_ := Aside0.mk (below_step (by repeat (first | (with_reducible first | exact HB.out | apply below_alloc | apply pw_below_drewN | apply below_drew1 | refine below_set ?_ GE329.out | refine below_set ?_ GE340.out | refine below_set ?_ GE347.out) | exact HB.out)) hb); clear HO350; clear BK329; clear BK340; clear BK347; clear HB; have HO350 := n0_; have BK329 := n1_; have BK340 := n2_; have BK347 := n3_; have HB := n4_; clear n0_ n1_ n2_ n3_ n4_; (try clear hb); (try clear hb2); (try clear hk); (try clear hi)) | ((with_reducible refine gate_dst (N := 13) rfl ?_); refine box_event ?hg (N := 13) ?hd (cs := #[.string (⟨#[]⟩ : ByteArray), .string (⟨#[]⟩ : ByteArray), .bool false, .bool false, .bool false]) (t := 26) ?hr ?_; (case hd => rfl); (case hg => rfl); (case hr => first | (go_simp; done) | (go_simp; rfl)); intro gb358 hg w37 hbox hb; have n0_ := Aside0.mk (Kd.V_below (Kd.V_elderB (by (with_reducible repeat (first | apply Kd.V_alloc | apply Kd.V_drewN | apply Kd.V_drew)); exact HO350.out) gb358 (Nat.le_of_eq hg.symm)) hb); have n1_ := Aside0.mk (blk_below (g := gb329) (o := .cells #[.string a1_0, .string a1_1] 51 (0, 0)) (by (with_reducible repeat (first | refine blk_drewN ?_ _ | refine blk_drew ?_ | refine blk_alloc ?_ _)); exact BK329.out) hb); have n2_ := Aside0.mk (blk_below (g := gb340) (o := .cells #[.string t334, .string t335, .bool t336, .bool t337, .bool t338] 26 (0, 0)) (by (with_reducible repeat (first | refine blk_drewN ?_ _ | refine blk_drew ?_ | refine blk_alloc ?_ _)); exact BK340.out) hb); have n3_ := Aside0.mk (blk_below (g := gb347) (o := .cells #[.string t341, .string t342, .bool t343, .bool t344, .bool t345] 26 (0, 0)) (by (with_reducible repeat (first | refine blk_drewN ?_ _ | refine blk_drew ?_ | refine blk_alloc ?_ _)); exact BK347.out) hb); have n4_ := Aside0.mk (below_step (by repeat (first | (with_reducible first | exact HB.out | apply below_alloc | apply pw_below_drewN | apply below_drew1 | refine below_set ?_ GE329.out | refine below_set ?_ GE340.out | refine below_set ?_ GE347.out) | exact HB.out)) hb); have n5_ := Aside0.mk (hbox); have n6_ := Aside0.mk ((by rw [hg]; exact (below_size (by repeat (first | (with_reducible first | exact HB.out | apply below_alloc | apply pw_below_drewN | apply below_drew1 | refine below_set ?_ GE329.out | refine below_set ?_ GE340.out | refine below_set ?_ GE347.out) | exact HB.out))) : w.heap.size ≤ gb358)); have n7_ := Aside0.mk ((by rw [hg]; exact (below_size (by repeat (first | (with_reducible first | exact HB.out | apply below_alloc | apply pw_below_drewN | apply below_drew1 | refine below_set ?_ GE329.out | refine below_set ?_ GE340.out | refine below_set ?_ GE347.out) | exact HB.out))) : w.heap.size ≤ gb358)); have n8_ := Aside0.mk ((by rw [hg]; exact Nat.ne_of_lt (blk_lt (g := gb329) (o := .cells #[.string a1_0, .string a1_1] 51 (0, 0)) (by (with_reducible repeat (first | refine blk_drewN ?_ _ | refine blk_drew ?_ | refine blk_alloc ?_ _)); exact BK329.out)) : gb329 ≠ gb358)); have n9_ := Aside0.mk ((by rw [hg]; exact Nat.ne_of_gt (blk_lt (g := gb329) (o := .cells #[.string a1_0, .string a1_1] 51 (0, 0)) (by (with_reducible repeat (first | refine blk_drewN ?_ _ | refine blk_drew ?_ | refine blk_alloc ?_ _)); exact BK329.out)) : gb358 ≠ gb329)); have n10_ := Aside0.mk ((by rw [hg]; exact Nat.ne_of_lt (blk_lt (g := gb340) (o := .cells #[.string t334, .string t335, .bool t336, .bool t337, .bool t338] 26 (0, 0)) (by (with_reducible repeat (first | refine blk_drewN ?_ _ | refine blk_drew ?_ | refine blk_alloc ?_ _)); exact BK340.out)) : gb340 ≠ gb358)); have n11_ := Aside0.mk ((by rw [hg]; exact Nat.ne_of_gt (blk_lt (g := gb340) (o := .cells #[.string t334, .string t335, .bool t336, .bool t337, .bool t338] 26 (0, 0)) (by (with_reducible repeat (first | refine blk_drewN ?_ _ | refine blk_drew ?_ | refine blk_alloc ?_ _)); exact BK340.out)) : gb358 ≠ gb340)); have n12_ := Aside0.mk ((by rw [hg]; exact Nat.ne_of_lt (blk_lt (g := gb347) (o := .cells #[.string t341, .string t342, .bool t343, .bool t344, .bool t345] 26 (0, 0)) (by (with_reducible repeat (first | refine blk_drewN ?_ _ | refine blk_drew ?_ | refine blk_alloc ?_ _)); exact BK347.out)) : gb347 ≠ gb358)); have n13_ := Aside0.mk ((by rw [hg]; exact Nat.ne_of_gt (blk_lt (g := gb347) (o := .cells #[.string t341, .string t342, .bool t343, .bool t344, .bool t345] 26 (0, 0)) (by (with_reducible repeat (first | refine blk_drewN ?_ _ | refine blk_drew ?_ | refine blk_alloc ?_ _)); exact BK347.out)) : gb358 ≠ gb347)); clear HO350; clear BK329; clear BK340; clear BK347; clear HB; have HO350 := n0_; have BK329 := n1_; have BK340 := n2_; have BK347 := n3_; have HB := n4_; have BK358 := n5_; have GW358 := n6_; have GE358 := n7_; have NB329_358 := n8_; have NB358_329 := n9_; have NB340_358 := n10_; have NB358_340 := n11_; have NB347_358 := n12_; have NB358_347 := n13_; clear n0_ n1_ n2_ n3_ n4_ n5_ n6_ n7_ n8_ n9_ n10_ n11_ n12_ n13_; clear hb hbox hg; have hnb38 := NB358_329.out; have hnc38 := NB329_358.out; have hnb39 := NB358_340.out; have hnc39 := NB340_358.out; have hnb40 := NB358_347.out; have hnc40 := NB347_358.out; have hcz41_0 : w37.cell? ⟨gb358, 0, none⟩ = some (.string (⟨#[]⟩ : ByteArray)) := (blk_cell BK358.out 0).trans rfl; have hcz41_1 : w37.cell? ⟨gb358, 1, none⟩ = some (.string (⟨#[]⟩ : ByteArray)) := (blk_cell BK358.out 1).trans rfl; have hcz41_2 : w37.cell? ⟨gb358, 2, none⟩ = some (.bool false) := (blk_cell BK358.out 2).trans rfl; have hcz41_3 : w37.cell? ⟨gb358, 3, none⟩ = some (.bool false) := (blk_cell BK358.out 3).trans rfl; have hcz41_4 : w37.cell? ⟨gb358, 4, none⟩ = some (.bool false) := (blk_cell BK358.out 4).trans rfl; have hfz41_0 := blk_frozen BK358.out 0; have hfz41_1 := blk_frozen BK358.out 1; have hfz41_2 := blk_frozen BK358.out 2; have hfz41_3 := blk_frozen BK358.out 3; have hfz41_4 := blk_frozen BK358.out 4; have hcz42_0 : w37.cell? ⟨gb329, 0, none⟩ = some (.string a1_0) := (blk_cell BK329.out 0).trans rfl; have hcz42_1 : w37.cell? ⟨gb329, 1, none⟩ = some (.string a1_1) := (blk_cell BK329.out 1).trans rfl; have hfz42_0 := blk_frozen BK329.out 0; have hfz42_1 := blk_frozen BK329.out 1) | ((with_reducible refine gate_callee (f := 12) rfl ?_); refine goesL_ (some 64) rfl rfl Try.func12 (by kernel_rfl) rfl #[.slice Ao35 t348.length co35, .string a1_0] rfl (by (try simp only [List.map_toArray, List.map_cons, List.map_nil]); first | done | rfl | (simp only [List.length_drop, List.length_take]; rfl)) ?_; (with_reducible refine (vars_Get.calls kj3 _ _ t348 a1_0 t359 t360 t361 t362 t363 t364 _ ?side1 ?side2 A18.out).mono ?_); (case side1 => refine (Kd.V_reads' (e := 26) (base := w.heap.size) (ok := fun k_ => ((k_ ≠ gb329 ∧ (k_ ≠ gb340 ∧ k_ ≠ gb347)) ∧ k_ ≠ gb358)) (n := t348.length) (c := co35) ?_).2.2; exact (by (with_reducible repeat (first | apply Kd.V_alloc | apply Kd.V_drewN | apply Kd.V_drew)); exact (Kd.V_mono (Kd.V_far (p := ⟨gb358, 4, none⟩) (Kd.V_far (p := ⟨gb358, 3, none⟩) (Kd.V_far (p := ⟨gb358, 2, none⟩) (Kd.V_far (p := ⟨gb358, 1, none⟩) (Kd.V_far (p := ⟨gb358, 0, none⟩) (Kd.V_mono HO350.out (fun k_ hk => (⟨hk, hk.2⟩ : _ ∧ k_ ≠ gb358))) (fun _ hk => hk.2) (.string t352)) (fun _ hk => hk.2) (.string t353)) (fun _ hk => hk.2) (.bool t354)) (fun _ hk => hk.2) (.bool t355)) (fun _ hk => hk.2) (.bool t356)) (fun _ h_ => h_.1)))); (case side2 => exact (Kd.V_reads' HO350.out).2.1); rintro e w43 ⟨rfl, hb⟩; refine ⟨_, rfl, ?_⟩; have n0_ := Aside0.mk (Kd.V_below (by (with_reducible repeat (first | apply Kd.V_alloc | apply Kd.V_drewN | apply Kd.V_drew)); exact (Kd.V_mono (Kd.V_far (p := ⟨gb358, 4, none⟩) (Kd.V_far (p := ⟨gb358, 3, none⟩) (Kd.V_far (p := ⟨gb358, 2, none⟩) (Kd.V_far (p := ⟨gb358, 1, none⟩) (Kd.V_far (p := ⟨gb358, 0, none⟩) (Kd.V_mono HO350.out (fun k_ hk => (⟨hk, hk.2⟩ : _ ∧ k_ ≠ gb358))) (fun _ hk => hk.2) (.string t352)) (fun _ hk => hk.2) (.string t353)) (fun _ hk => hk.2) (.bool t354)) (fun _ hk => hk.2) (.bool t355)) (fun _ hk => hk.2) (.bool t356)) (fun _ h_ => h_.1))) hb); have n1_ := Aside0.mk (blk_below (g := gb329) (o := .cells #[.string a1_0, .string a1_1] 51 (0, 0)) (by (with_reducible repeat (first | refine blk_drewN ?_ _ | refine blk_drew ?_ | refine blk_alloc ?_ _)); refine blk_far ?_ NB329_358.out _; (with_reducible repeat (first | refine blk_drewN ?_ _ | refine blk_drew ?_ | refine blk_alloc ?_ _)); refine blk_far ?_ NB329_358.out _; (with_reducible repeat (first | refine blk_drewN ?_ _ | refine blk_drew ?_ | refine blk_alloc ?_ _)); refine blk_far ?_ NB329_358.out _; (with_reducible repeat (first | refine blk_drewN ?_ _ | refine blk_drew ?_ | refine blk_alloc ?_ _)); refine blk_far ?_ NB329_358.out _; (with_reducible repeat (first | refine blk_drewN ?_ _ | refine blk_drew ?_ | refine blk_alloc ?_ _)); refine blk_far ?_ NB329_358.out _; (with_reducible repeat (first | refine blk_drewN ?_ _ | refine blk_drew ?_ | refine blk_alloc ?_ _)); exact BK329.out) hb); have n2_ := Aside0.mk (blk_below (g := gb340) (o := .cells #[.string t334, .string t335, .bool t336, .bool t337, .bool t338] 26 (0, 0)) (by (with_reducible repeat (first | refine blk_drewN ?_ _ | refine blk_drew ?_ | refine blk_alloc ?_ _)); refine blk_far ?_ NB340_358.out _; (with_reducible repeat (first | refine blk_drewN ?_ _ | refine blk_drew ?_ | refine blk_alloc ?_ _)); refine blk_far ?_ NB340_358.out _; (with_reducible repeat (first | refine blk_drewN ?_ _ | refine blk_drew ?_ | refine blk_alloc ?_ _)); refine blk_far ?_ NB340_358.out _; (with_reducible repeat (first | refine blk_drewN ?_ _ | refine blk_drew ?_ | refine blk_alloc ?_ _)); refine blk_far ?_ NB340_358.out _; (with_reducible repeat (first | refine blk_drewN ?_ _ | refine blk_drew ?_ | refine blk_alloc ?_ _)); refine blk_far ?_ NB340_358.out _; (with_reducible repeat (first | refine blk_drewN ?_ _ | refine blk_drew ?_ | refine blk_alloc ?_ _)); exact BK340.out) hb); have n3_ := Aside0.mk (blk_below (g := gb347) (o := .cells #[.string t341, .string t342, .bool t343, .bool t344, .bool t345] 26 (0, 0)) (by (with_reducible repeat (first | refine blk_drewN ?_ _ | refine blk_drew ?_ | refine blk_alloc ?_ _)); refine blk_far ?_ NB347_358.out _; (with_reducible repeat (first | refine blk_drewN ?_ _ | refine blk_drew ?_ | refine blk_alloc ?_ _)); refine blk_far ?_ NB347_358.out _; (with_reducible repeat (first | refine blk_drewN ?_ _ | refine blk_drew ?_ | refine blk_alloc ?_ _)); refine blk_far ?_ NB347_358.out _; (with_reducible repeat (first | refine blk_drewN ?_ _ | refine blk_drew ?_ | refine blk_alloc ?_ _)); refine blk_far ?_ NB347_358.out _; (with_reducible repeat (first | refine blk_drewN ?_ _ | refine blk_drew ?_ | refine blk_alloc ?_ _)); refine blk_far ?_ NB347_358.out _; (with_reducible repeat (first | refine blk_drewN ?_ _ | refine blk_drew ?_ | refine blk_alloc ?_ _)); exact BK347.out) hb); have n4_ := Aside0.mk (blk_below (g := gb358) (o := .cells #[.string t352, .string t353, .bool t354, .bool t355, .bool t356] 26 (0, 0)) (by (with_reducible repeat (first | refine blk_drewN ?_ _ | refine blk_drew ?_ | refine blk_alloc ?_ _)); refine blk_put (cs := #[.string t352, .string t353, .bool t354, .bool t355, .bool false]) ?_ 4 _ rfl; (with_reducible repeat (first | refine blk_drewN ?_ _ | refine blk_drew ?_ | refine blk_alloc ?_ _)); refine blk_put (cs := #[.string t352, .string t353, .bool t354, .bool false, .bool false]) ?_ 3 _ rfl; (with_reducible repeat (first | refine blk_drewN ?_ _ | refine blk_drew ?_ | refine blk_alloc ?_ _)); refine blk_put (cs := #[.string t352, .string t353, .bool false, .bool false, .bool false]) ?_ 2 _ rfl; (with_reducible repeat (first | refine blk_drewN ?_ _ | refine blk_drew ?_ | refine blk_alloc ?_ _)); refine blk_put (cs := #[.string t352, .string (⟨#[]⟩ : ByteArray), .bool false, .bool false, .bool false]) ?_ 1 _ rfl; (with_reducible repeat (first | refine blk_drewN ?_ _ | refine blk_drew ?_ | refine blk_alloc ?_ _)); refine blk_put (cs := #[.string (⟨#[]⟩ : ByteArray), .string (⟨#[]⟩ : ByteArray), .bool false, .bool false, .bool false]) ?_ 0 _ rfl; (with_reducible repeat (first | refine blk_drewN ?_ _ | refine blk_drew ?_ | refine blk_alloc ?_ _)); exact BK358.out) hb); have n5_ := Aside0.mk (below_step (by repeat (first | (with_reducible first | exact HB.out | apply below_alloc | apply pw_below_drewN | apply below_drew1 | refine below_set ?_ GE329.out | refine below_set ?_ GE340.out | refine below_set ?_ GE347.out | refine below_set ?_ GE358.out) | exact HB.out)) hb); clear HO350; clear BK329; clear BK340; clear BK347; clear BK358; clear HB; have HO350 := n0_; have BK329 := n1_; have BK340 := n2_; have BK347 := n3_; have BK358 := n4_; have HB := n5_; clear n0_ n1_ n2_ n3_ n4_ n5_; (try clear hb); (try clear hb2); (try clear hk); (try clear hi)) | ((with_reducible refine gate_dst (N := 15) rfl ?_); refine box_event ?hg (N := 15) ?hd (cs := #[.string (⟨#[]⟩ : ByteArray), .string (⟨#[]⟩ : ByteArray), .bool false, .bool false, .bool false]) (t := 26) ?hr ?_; (case hd => rfl); (case hg => rfl); (case hr => first | (go_simp; done) | (go_simp; rfl)); intro gb365 hg w44 hbox hb; have n0_ := Aside0.mk (Kd.V_below (Kd.V_elderB (by (with_reducible repeat (first | apply Kd.V_alloc | apply Kd.V_drewN | apply Kd.V_drew)); exact HO350.out) gb365 (Nat.le_of_eq hg.symm)) hb); have n1_ := Aside0.mk (blk_below (g := gb329) (o := .cells #[.string a1_0, .string a1_1] 51 (0, 0)) (by (with_reducible repeat (first | refine blk_drewN ?_ _ | refine blk_drew ?_ | refine blk_alloc ?_ _)); exact BK329.out) hb); have n2_ := Aside0.mk (blk_below (g := gb340) (o := .cells #[.string t334, .string t335, .bool t336, .bool t337, .bool t338] 26 (0, 0)) (by (with_reducible repeat (first | refine blk_drewN ?_ _ | refine blk_drew ?_ | refine blk_alloc ?_ _)); exact BK340.out) hb); have n3_ := Aside0.mk (blk_below (g := gb347) (o := .cells #[.string t341, .string t342, .bool t343, .bool t344, .bool t345] 26 (0, 0)) (by (with_reducible repeat (first | refine blk_drewN ?_ _ | refine blk_drew ?_ | refine blk_alloc ?_ _)); exact BK347.out) hb); have n4_ := Aside0.mk (blk_below (g := gb358) (o := .cells #[.string t352, .string t353, .bool t354, .bool t355, .bool t356] 26 (0, 0)) (by (with_reducible repeat (first | refine blk_drewN ?_ _ | refine blk_drew ?_ | refine blk_alloc ?_ _)); exact BK358.out) hb); have n5_ := Aside0.mk (below_step (by repeat (first | (with_reducible first | exact HB.out | apply below_alloc | apply pw_below_drewN | apply below_drew1 | refine below_set ?_ GE329.out | refine below_set ?_ GE340.out | refine below_set ?_ GE347.out | refine below_set ?_ GE358.out) | exact HB.out)) hb); have n6_ := Aside0.mk (hbox); have n7_ := Aside0.mk ((by rw [hg]; exact (below_size (by repeat (first | (with_reducible first | exact HB.out | apply below_alloc | apply pw_below_drewN | apply below_drew1 | refine below_set ?_ GE329.out | refine below_set ?_ GE340.out | refine below_set ?_ GE347.out | refine below_set ?_ GE358.out) | exact HB.out))) : w.heap.size ≤ gb365)); have n8_ := Aside0.mk ((by rw [hg]; exact (below_size (by repeat (first | (with_reducible first | exact HB.out | apply below_alloc | apply pw_below_drewN | apply below_drew1 | refine below_set ?_ GE329.out | refine below_set ?_ GE340.out | refine below_set ?_ GE347.out | refine below_set ?_ GE358.out) | exact HB.out))) : w.heap.size ≤ gb365)); have n9_ := Aside0.mk ((by rw [hg]; exact Nat.ne_of_lt (blk_lt (g := gb329) (o := .cells #[.string a1_0, .string a1_1] 51 (0, 0)) (by (with_reducible repeat (first | refine blk_drewN ?_ _ | refine blk_drew ?_ | refine blk_alloc ?_ _)); exact BK329.out)) : gb329 ≠ gb365)); have n10_ := Aside0.mk ((by rw [hg]; exact Nat.ne_of_gt (blk_lt (g := gb329) (o := .cells #[.string a1_0, .string a1_1] 51 (0, 0)) (by (with_reducible repeat (first | refine blk_drewN ?_ _ | refine blk_drew ?_ | refine blk_alloc ?_ _)); exact BK329.out)) : gb365 ≠ gb329)); have n11_ := Aside0.mk ((by rw [hg]; exact Nat.ne_of_lt (blk_lt (g := gb340) (o := .cells #[.string t334, .string t335, .bool t336, .bool t337, .bool t338] 26 (0, 0)) (by (with_reducible repeat (first | refine blk_drewN ?_ _ | refine blk_drew ?_ | refine blk_alloc ?_ _)); exact BK340.out)) : gb340 ≠ gb365)); have n12_ := Aside0.mk ((by rw [hg]; exact Nat.ne_of_gt (blk_lt (g := gb340) (o := .cells #[.string t334, .string t335, .bool t336, .bool t337, .bool t338] 26 (0, 0)) (by (with_reducible repeat (first | refine blk_drewN ?_ _ | refine blk_drew ?_ | refine blk_alloc ?_ _)); exact BK340.out)) : gb365 ≠ gb340)); have n13_ := Aside0.mk ((by rw [hg]; exact Nat.ne_of_lt (blk_lt (g := gb347) (o := .cells #[.string t341, .string t342, .bool t343, .bool t344, .bool t345] 26 (0, 0)) (by (with_reducible repeat (first | refine blk_drewN ?_ _ | refine blk_drew ?_ | refine blk_alloc ?_ _)); exact BK347.out)) : gb347 ≠ gb365)); have n14_ := Aside0.mk ((by rw [hg]; exact Nat.ne_of_gt (blk_lt (g := gb347) (o := .cells #[.string t341, .string t342, .bool t343, .bool t344, .bool t345] 26 (0, 0)) (by (with_reducible repeat (first | refine blk_drewN ?_ _ | refine blk_drew ?_ | refine blk_alloc ?_ _)); exact BK347.out)) : gb365 ≠ gb347)); have n15_ := Aside0.mk ((by rw [hg]; exact Nat.ne_of_lt (blk_lt (g := gb358) (o := .cells #[.string t352, .string t353, .bool t354, .bool t355, .bool t356] 26 (0, 0)) (by (with_reducible repeat (first | refine blk_drewN ?_ _ | refine blk_drew ?_ | refine blk_alloc ?_ _)); exact BK358.out)) : gb358 ≠ gb365)); have n16_ := Aside0.mk ((by rw [hg]; exact Nat.ne_of_gt (blk_lt (g := gb358) (o := .cells #[.string t352, .string t353, .bool t354, .bool t355, .bool t356] 26 (0, 0)) (by (with_reducible repeat (first | refine blk_drewN ?_ _ | refine blk_drew ?_ | refine blk_alloc ?_ _)); exact BK358.out)) : gb365 ≠ gb358)); clear HO350; clear BK329; clear BK340; clear BK347; clear BK358; clear HB; have HO350 := n0_; have BK329 := n1_; have BK340 := n2_; have BK347 := n3_; have BK358 := n4_; have HB := n5_; have BK365 := n6_; have GW365 := n7_; have GE365 := n8_; have NB329_365 := n9_; have NB365_329 := n10_; have NB340_365 := n11_; have NB365_340 := n12_; have NB347_365 := n13_; have NB365_347 := n14_; have NB358_365 := n15_; have NB365_358 := n16_; clear n0_ n1_ n2_ n3_ n4_ n5_ n6_ n7_ n8_ n9_ n10_ n11_ n12_ n13_ n14_ n15_ n16_; clear hb hbox hg; have hnb45 := NB365_329.out; have hnc45 := NB329_365.out; have hnb46 := NB365_340.out; have hnc46 := NB340_365.out; have hnb47 := NB365_347.out; have hnc47 := NB347_365.out; have hnb48 := NB365_358.out; have hnc48 := NB358_365.out; have hcz49_0 : w44.cell? ⟨gb365, 0, none⟩ = some (.string (⟨#[]⟩ : ByteArray)) := (blk_cell BK365.out 0).trans rfl; have hcz49_1 : w44.cell? ⟨gb365, 1, none⟩ = some (.string (⟨#[]⟩ : ByteArray)) := (blk_cell BK365.out 1).trans rfl; have hcz49_2 : w44.cell? ⟨gb365, 2, none⟩ = some (.bool false) := (blk_cell BK365.out 2).trans rfl; have hcz49_3 : w44.cell? ⟨gb365, 3, none⟩ = some (.bool false) := (blk_cell BK365.out 3).trans rfl; have hcz49_4 : w44.cell? ⟨gb365, 4, none⟩ = some (.bool false) := (blk_cell BK365.out 4).trans rfl; have hfz49_0 := blk_frozen BK365.out 0; have hfz49_1 := blk_frozen BK365.out 1; have hfz49_2 := blk_frozen BK365.out 2; have hfz49_3 := blk_frozen BK365.out 3; have hfz49_4 := blk_frozen BK365.out 4))
        (try simp only [Act.put, List.setIfInBounds_toArray, List.set_cons_zero, List.set_cons_succ])
        go_cut [90] (fun v90 wc => ∃ (kq : Nat) (x90_18 : Bool), v90 = .bool x90_18 ∧ Aside0 (jobshelllaw15_VarsKeeps.j1 kq a2 t351 t364 x90_18 a1_0 a1_1 t341 t342 t343 t344 t345 t359 t360 t361 t362 t363 = some r) ∧ Aside0 (kq ≤ kj3) ∧ Aside0 (wc.heap[gb329]? = some (.cells #[.string a1_0, .string a1_1] 51 (0, 0))) ∧ Aside0 (wc.heap[gb340]? = some (.cells #[.string t334, .string t335, .bool t336, .bool t337, .bool t338] 26 (0, 0))) ∧ Aside0 (wc.heap[gb347]? = some (.cells #[.string t341, .string t342, .bool t343, .bool t344, .bool t345] 26 (0, 0))) ∧ Aside0 (wc.heap[gb358]? = some (.cells #[.string t352, .string t353, .bool t354, .bool t355, .bool t356] 26 (0, 0))) ∧ Aside0 (wc.heap[gb365]? = some (.cells #[.string t359, .string t360, .bool t361, .bool t362, .bool t363] 26 (0, 0))) ∧ Aside0 (Below w.heap.size w wc))
        case first =>
          have H := HC19.out
          clear HC19
          by_cases c50 : a1_0.toList = a1_1.toList
          · rw [if_pos c50] at H
            have c50b0 : (a1_0.toList == a1_1.toList) = true := beq_iff_eq.mpr c50
            have c50b1 : (a1_0.toList != a1_1.toList) = false := bne_eq_false_iff_eq.mpr c50
            clear c50
            (first | rw [c50b0] | (simp only [i64_w, i32_w]; rw [c50b0]) | skip)
            by_cases c51 : t345 = true
            · subst c51
              have H1 : (jobshelllaw15_VarsKeeps.j1 kj3 a2 t351 t364 (!(t359.toList == t341.toList) || (!(t360.toList == t342.toList) || (!(t361 == t343) || (!(t362 == t344) || (!(t363 == true)))))) a1_0 a1_1 t341 t342 t343 t344 true t359 t360 t361 t362 t363) = some r := by rw [if_pos rfl] at H; exact H
              clear H
              have H := H1
              clear H1
              have H' := Aside0.mk H
              clear H
              have hnb52 := NB329_340.out
              have hnc52 := NB340_329.out
              have hnb53 := NB329_347.out
              have hnc53 := NB347_329.out
              have hnb54 := NB329_358.out
              have hnc54 := NB358_329.out
              have hnb55 := NB329_365.out
              have hnc55 := NB365_329.out
              have hcz56_0 : w44.cell? ⟨gb329, 0, none⟩ = some (.string a1_0) := (blk_cell BK329.out 0).trans rfl
              have hcz56_1 : w44.cell? ⟨gb329, 1, none⟩ = some (.string a1_1) := (blk_cell BK329.out 1).trans rfl
              have hfz56_0 := blk_frozen BK329.out 0
              have hfz56_1 := blk_frozen BK329.out 1
              have hnb57 := NB347_340.out
              have hnc57 := NB340_347.out
              have hnb58 := NB347_358.out
              have hnc58 := NB358_347.out
              have hnb59 := NB347_365.out
              have hnc59 := NB365_347.out
              have hcz60_0 : w44.cell? ⟨gb347, 0, none⟩ = some (.string t341) := (blk_cell BK347.out 0).trans rfl
              have hcz60_1 : w44.cell? ⟨gb347, 1, none⟩ = some (.string t342) := (blk_cell BK347.out 1).trans rfl
              have hcz60_2 : w44.cell? ⟨gb347, 2, none⟩ = some (.bool t343) := (blk_cell BK347.out 2).trans rfl
              have hcz60_3 : w44.cell? ⟨gb347, 3, none⟩ = some (.bool t344) := (blk_cell BK347.out 3).trans rfl
              have hcz60_4 : w44.cell? ⟨gb347, 4, none⟩ = some (.bool true) := (blk_cell BK347.out 4).trans rfl
              have hfz60_0 := blk_frozen BK347.out 0
              have hfz60_1 := blk_frozen BK347.out 1
              have hfz60_2 := blk_frozen BK347.out 2
              have hfz60_3 := blk_frozen BK347.out 3
              have hfz60_4 := blk_frozen BK347.out 4
              have hnb61 := NB365_340.out
              have hnc61 := NB340_365.out
              have hnb62 := NB365_358.out
              have hnc62 := NB358_365.out
              have hcz63_0 : w44.cell? ⟨gb365, 0, none⟩ = some (.string (⟨#[]⟩ : ByteArray)) := (blk_cell BK365.out 0).trans rfl
              have hcz63_1 : w44.cell? ⟨gb365, 1, none⟩ = some (.string (⟨#[]⟩ : ByteArray)) := (blk_cell BK365.out 1).trans rfl
              have hcz63_2 : w44.cell? ⟨gb365, 2, none⟩ = some (.bool false) := (blk_cell BK365.out 2).trans rfl
              have hcz63_3 : w44.cell? ⟨gb365, 3, none⟩ = some (.bool false) := (blk_cell BK365.out 3).trans rfl
              have hcz63_4 : w44.cell? ⟨gb365, 4, none⟩ = some (.bool false) := (blk_cell BK365.out 4).trans rfl
              have hfz63_0 := blk_frozen BK365.out 0
              have hfz63_1 := blk_frozen BK365.out 1
              have hfz63_2 := blk_frozen BK365.out 2
              have hfz63_3 := blk_frozen BK365.out 3
              have hfz63_4 := blk_frozen BK365.out 4
              go_wp2
              go_meet
              case rel => exact ⟨_, ((!(t359.toList == t341.toList) || (!(t360.toList == t342.toList) || (!(t361 == t343) || (!(t362 == t344) || (!(t363 == true))))))), (by first | rfl | (simp; done) | (simp [*]; done)), H', ⟨by have := HJ3.out; first | omega | exact Nat.le_refl _⟩, ⟨by (with_reducible repeat (first | refine blk_drewN ?_ _ | refine blk_drew ?_ | refine blk_alloc ?_ _)); refine blk_far ?_ NB329_365.out _; (with_reducible repeat (first | refine blk_drewN ?_ _ | refine blk_drew ?_ | refine blk_alloc ?_ _)); refine blk_far ?_ NB329_365.out _; (with_reducible repeat (first | refine blk_drewN ?_ _ | refine blk_drew ?_ | refine blk_alloc ?_ _)); refine blk_far ?_ NB329_365.out _; (with_reducible repeat (first | refine blk_drewN ?_ _ | refine blk_drew ?_ | refine blk_alloc ?_ _)); refine blk_far ?_ NB329_365.out _; (with_reducible repeat (first | refine blk_drewN ?_ _ | refine blk_drew ?_ | refine blk_alloc ?_ _)); refine blk_far ?_ NB329_365.out _; (with_reducible repeat (first | refine blk_drewN ?_ _ | refine blk_drew ?_ | refine blk_alloc ?_ _)); exact BK329.out⟩, ⟨by (with_reducible repeat (first | refine blk_drewN ?_ _ | refine blk_drew ?_ | refine blk_alloc ?_ _)); refine blk_far ?_ NB340_365.out _; (with_reducible repeat (first | refine blk_drewN ?_ _ | refine blk_drew ?_ | refine blk_alloc ?_ _)); refine blk_far ?_ NB340_365.out _; (with_reducible repeat (first | refine blk_drewN ?_ _ | refine blk_drew ?_ | refine blk_alloc ?_ _)); refine blk_far ?_ NB340_365.out _; (with_reducible repeat (first | refine blk_drewN ?_ _ | refine blk_drew ?_ | refine blk_alloc ?_ _)); refine blk_far ?_ NB340_365.out _; (with_reducible repeat (first | refine blk_drewN ?_ _ | refine blk_drew ?_ | refine blk_alloc ?_ _)); refine blk_far ?_ NB340_365.out _; (with_reducible repeat (first | refine blk_drewN ?_ _ | refine blk_drew ?_ | refine blk_alloc ?_ _)); exact BK340.out⟩, ⟨by (with_reducible repeat (first | refine blk_drewN ?_ _ | refine blk_drew ?_ | refine blk_alloc ?_ _)); refine blk_far ?_ NB347_365.out _; (with_reducible repeat (first | refine blk_drewN ?_ _ | refine blk_drew ?_ | refine blk_alloc ?_ _)); refine blk_far ?_ NB347_365.out _; (with_reducible repeat (first | refine blk_drewN ?_ _ | refine blk_drew ?_ | refine blk_alloc ?_ _)); refine blk_far ?_ NB347_365.out _; (with_reducible repeat (first | refine blk_drewN ?_ _ | refine blk_drew ?_ | refine blk_alloc ?_ _)); refine blk_far ?_ NB347_365.out _; (with_reducible repeat (first | refine blk_drewN ?_ _ | refine blk_drew ?_ | refine blk_alloc ?_ _)); refine blk_far ?_ NB347_365.out _; (with_reducible repeat (first | refine blk_drewN ?_ _ | refine blk_drew ?_ | refine blk_alloc ?_ _)); exact BK347.out⟩, ⟨by (with_reducible repeat (first | refine blk_drewN ?_ _ | refine blk_drew ?_ | refine blk_alloc ?_ _)); refine blk_far ?_ NB358_365.out _; (with_reducible repeat (first | refine blk_drewN ?_ _ | refine blk_drew ?_ | refine blk_alloc ?_ _)); refine blk_far ?_ NB358_365.out _; (with_reducible repeat (first | refine blk_drewN ?_ _ | refine blk_drew ?_ | refine blk_alloc ?_ _)); refine blk_far ?_ NB358_365.out _; (with_reducible repeat (first | refine blk_drewN ?_ _ | refine blk_drew ?_ | refine blk_alloc ?_ _)); refine blk_far ?_ NB358_365.out _; (with_reducible repeat (first | refine blk_drewN ?_ _ | refine blk_drew ?_ | refine blk_alloc ?_ _)); refine blk_far ?_ NB358_365.out _; (with_reducible repeat (first | refine blk_drewN ?_ _ | refine blk_drew ?_ | refine blk_alloc ?_ _)); exact BK358.out⟩, ⟨by (with_reducible repeat (first | refine blk_drewN ?_ _ | refine blk_drew ?_ | refine blk_alloc ?_ _)); refine blk_put (cs := #[.string t359, .string t360, .bool t361, .bool t362, .bool false]) ?_ 4 _ rfl; (with_reducible repeat (first | refine blk_drewN ?_ _ | refine blk_drew ?_ | refine blk_alloc ?_ _)); refine blk_put (cs := #[.string t359, .string t360, .bool t361, .bool false, .bool false]) ?_ 3 _ rfl; (with_reducible repeat (first | refine blk_drewN ?_ _ | refine blk_drew ?_ | refine blk_alloc ?_ _)); refine blk_put (cs := #[.string t359, .string t360, .bool false, .bool false, .bool false]) ?_ 2 _ rfl; (with_reducible repeat (first | refine blk_drewN ?_ _ | refine blk_drew ?_ | refine blk_alloc ?_ _)); refine blk_put (cs := #[.string t359, .string (⟨#[]⟩ : ByteArray), .bool false, .bool false, .bool false]) ?_ 1 _ rfl; (with_reducible repeat (first | refine blk_drewN ?_ _ | refine blk_drew ?_ | refine blk_alloc ?_ _)); refine blk_put (cs := #[.string (⟨#[]⟩ : ByteArray), .string (⟨#[]⟩ : ByteArray), .bool false, .bool false, .bool false]) ?_ 0 _ rfl; (with_reducible repeat (first | refine blk_drewN ?_ _ | refine blk_drew ?_ | refine blk_alloc ?_ _)); exact BK365.out⟩, ⟨by repeat (first | (with_reducible first | exact HB.out | apply below_alloc | apply pw_below_drewN | apply below_drew1 | refine below_set ?_ GE329.out | refine below_set ?_ GE340.out | refine below_set ?_ GE347.out | refine below_set ?_ GE358.out | refine below_set ?_ GE365.out) | exact HB.out)⟩⟩
            · replace c51 := Bool.eq_false_iff.mpr c51
              subst c51
              have H1 : (jobshelllaw15_VarsKeeps.j1 kj3 a2 t351 t364 false a1_0 a1_1 t341 t342 t343 t344 false t359 t360 t361 t362 t363) = some r := by rw [if_neg (show ¬ (false = true) by decide)] at H; exact H
              clear H
              have H := H1
              clear H1
              have H' := Aside0.mk H
              clear H
              have hnb64 := NB329_340.out
              have hnc64 := NB340_329.out
              have hnb65 := NB329_347.out
              have hnc65 := NB347_329.out
              have hnb66 := NB329_358.out
              have hnc66 := NB358_329.out
              have hnb67 := NB329_365.out
              have hnc67 := NB365_329.out
              have hcz68_0 : w44.cell? ⟨gb329, 0, none⟩ = some (.string a1_0) := (blk_cell BK329.out 0).trans rfl
              have hcz68_1 : w44.cell? ⟨gb329, 1, none⟩ = some (.string a1_1) := (blk_cell BK329.out 1).trans rfl
              have hfz68_0 := blk_frozen BK329.out 0
              have hfz68_1 := blk_frozen BK329.out 1
              have hnb69 := NB347_340.out
              have hnc69 := NB340_347.out
              have hnb70 := NB347_358.out
              have hnc70 := NB358_347.out
              have hnb71 := NB347_365.out
              have hnc71 := NB365_347.out
              have hcz72_0 : w44.cell? ⟨gb347, 0, none⟩ = some (.string t341) := (blk_cell BK347.out 0).trans rfl
              have hcz72_1 : w44.cell? ⟨gb347, 1, none⟩ = some (.string t342) := (blk_cell BK347.out 1).trans rfl
              have hcz72_2 : w44.cell? ⟨gb347, 2, none⟩ = some (.bool t343) := (blk_cell BK347.out 2).trans rfl
              have hcz72_3 : w44.cell? ⟨gb347, 3, none⟩ = some (.bool t344) := (blk_cell BK347.out 3).trans rfl
              have hcz72_4 : w44.cell? ⟨gb347, 4, none⟩ = some (.bool false) := (blk_cell BK347.out 4).trans rfl
              have hfz72_0 := blk_frozen BK347.out 0
              have hfz72_1 := blk_frozen BK347.out 1
              have hfz72_2 := blk_frozen BK347.out 2
              have hfz72_3 := blk_frozen BK347.out 3
              have hfz72_4 := blk_frozen BK347.out 4
              go_wp2
              go_meet
              case rel => exact ⟨_, (false), (by first | rfl | (simp; done) | (simp [*]; done)), H', ⟨by have := HJ3.out; first | omega | exact Nat.le_refl _⟩, ⟨by (with_reducible repeat (first | refine blk_drewN ?_ _ | refine blk_drew ?_ | refine blk_alloc ?_ _)); refine blk_far ?_ NB329_365.out _; (with_reducible repeat (first | refine blk_drewN ?_ _ | refine blk_drew ?_ | refine blk_alloc ?_ _)); refine blk_far ?_ NB329_365.out _; (with_reducible repeat (first | refine blk_drewN ?_ _ | refine blk_drew ?_ | refine blk_alloc ?_ _)); refine blk_far ?_ NB329_365.out _; (with_reducible repeat (first | refine blk_drewN ?_ _ | refine blk_drew ?_ | refine blk_alloc ?_ _)); refine blk_far ?_ NB329_365.out _; (with_reducible repeat (first | refine blk_drewN ?_ _ | refine blk_drew ?_ | refine blk_alloc ?_ _)); refine blk_far ?_ NB329_365.out _; (with_reducible repeat (first | refine blk_drewN ?_ _ | refine blk_drew ?_ | refine blk_alloc ?_ _)); exact BK329.out⟩, ⟨by (with_reducible repeat (first | refine blk_drewN ?_ _ | refine blk_drew ?_ | refine blk_alloc ?_ _)); refine blk_far ?_ NB340_365.out _; (with_reducible repeat (first | refine blk_drewN ?_ _ | refine blk_drew ?_ | refine blk_alloc ?_ _)); refine blk_far ?_ NB340_365.out _; (with_reducible repeat (first | refine blk_drewN ?_ _ | refine blk_drew ?_ | refine blk_alloc ?_ _)); refine blk_far ?_ NB340_365.out _; (with_reducible repeat (first | refine blk_drewN ?_ _ | refine blk_drew ?_ | refine blk_alloc ?_ _)); refine blk_far ?_ NB340_365.out _; (with_reducible repeat (first | refine blk_drewN ?_ _ | refine blk_drew ?_ | refine blk_alloc ?_ _)); refine blk_far ?_ NB340_365.out _; (with_reducible repeat (first | refine blk_drewN ?_ _ | refine blk_drew ?_ | refine blk_alloc ?_ _)); exact BK340.out⟩, ⟨by (with_reducible repeat (first | refine blk_drewN ?_ _ | refine blk_drew ?_ | refine blk_alloc ?_ _)); refine blk_far ?_ NB347_365.out _; (with_reducible repeat (first | refine blk_drewN ?_ _ | refine blk_drew ?_ | refine blk_alloc ?_ _)); refine blk_far ?_ NB347_365.out _; (with_reducible repeat (first | refine blk_drewN ?_ _ | refine blk_drew ?_ | refine blk_alloc ?_ _)); refine blk_far ?_ NB347_365.out _; (with_reducible repeat (first | refine blk_drewN ?_ _ | refine blk_drew ?_ | refine blk_alloc ?_ _)); refine blk_far ?_ NB347_365.out _; (with_reducible repeat (first | refine blk_drewN ?_ _ | refine blk_drew ?_ | refine blk_alloc ?_ _)); refine blk_far ?_ NB347_365.out _; (with_reducible repeat (first | refine blk_drewN ?_ _ | refine blk_drew ?_ | refine blk_alloc ?_ _)); exact BK347.out⟩, ⟨by (with_reducible repeat (first | refine blk_drewN ?_ _ | refine blk_drew ?_ | refine blk_alloc ?_ _)); refine blk_far ?_ NB358_365.out _; (with_reducible repeat (first | refine blk_drewN ?_ _ | refine blk_drew ?_ | refine blk_alloc ?_ _)); refine blk_far ?_ NB358_365.out _; (with_reducible repeat (first | refine blk_drewN ?_ _ | refine blk_drew ?_ | refine blk_alloc ?_ _)); refine blk_far ?_ NB358_365.out _; (with_reducible repeat (first | refine blk_drewN ?_ _ | refine blk_drew ?_ | refine blk_alloc ?_ _)); refine blk_far ?_ NB358_365.out _; (with_reducible repeat (first | refine blk_drewN ?_ _ | refine blk_drew ?_ | refine blk_alloc ?_ _)); refine blk_far ?_ NB358_365.out _; (with_reducible repeat (first | refine blk_drewN ?_ _ | refine blk_drew ?_ | refine blk_alloc ?_ _)); exact BK358.out⟩, ⟨by (with_reducible repeat (first | refine blk_drewN ?_ _ | refine blk_drew ?_ | refine blk_alloc ?_ _)); refine blk_put (cs := #[.string t359, .string t360, .bool t361, .bool t362, .bool false]) ?_ 4 _ rfl; (with_reducible repeat (first | refine blk_drewN ?_ _ | refine blk_drew ?_ | refine blk_alloc ?_ _)); refine blk_put (cs := #[.string t359, .string t360, .bool t361, .bool false, .bool false]) ?_ 3 _ rfl; (with_reducible repeat (first | refine blk_drewN ?_ _ | refine blk_drew ?_ | refine blk_alloc ?_ _)); refine blk_put (cs := #[.string t359, .string t360, .bool false, .bool false, .bool false]) ?_ 2 _ rfl; (with_reducible repeat (first | refine blk_drewN ?_ _ | refine blk_drew ?_ | refine blk_alloc ?_ _)); refine blk_put (cs := #[.string t359, .string (⟨#[]⟩ : ByteArray), .bool false, .bool false, .bool false]) ?_ 1 _ rfl; (with_reducible repeat (first | refine blk_drewN ?_ _ | refine blk_drew ?_ | refine blk_alloc ?_ _)); refine blk_put (cs := #[.string (⟨#[]⟩ : ByteArray), .string (⟨#[]⟩ : ByteArray), .bool false, .bool false, .bool false]) ?_ 0 _ rfl; (with_reducible repeat (first | refine blk_drewN ?_ _ | refine blk_drew ?_ | refine blk_alloc ?_ _)); exact BK365.out⟩, ⟨by repeat (first | (with_reducible first | exact HB.out | apply below_alloc | apply pw_below_drewN | apply below_drew1 | refine below_set ?_ GE329.out | refine below_set ?_ GE340.out | refine below_set ?_ GE347.out | refine below_set ?_ GE358.out | refine below_set ?_ GE365.out) | exact HB.out)⟩⟩
          · rw [if_neg c50] at H
            have c50b0 : (a1_0.toList == a1_1.toList) = false := beq_eq_false_iff_ne.mpr c50
            have c50b1 : (a1_0.toList != a1_1.toList) = true := bne_iff_ne.mpr c50
            (first | rw [c50b0] | (simp only [i64_w, i32_w]; rw [c50b0]) | skip)
            by_cases c73 : (!(t352.toList == t334.toList) || (!(t353.toList == t335.toList) || (!(t354 == t336) || (!(t355 == t337) || (!(t356 == t338)))))) = true
            · rw [if_pos c73] at H
              have c73b0 : (!(t352.toList == t334.toList) || (!(t353.toList == t335.toList) || (!(t354 == t336) || (!(t355 == t337) || (!(t356 == t338)))))) = true := c73
              clear c73
              have H' := Aside0.mk H
              clear H
              have hnb74 := NB329_340.out
              have hnc74 := NB340_329.out
              have hnb75 := NB329_347.out
              have hnc75 := NB347_329.out
              have hnb76 := NB329_358.out
              have hnc76 := NB358_329.out
              have hnb77 := NB329_365.out
              have hnc77 := NB365_329.out
              have hcz78_0 : w44.cell? ⟨gb329, 0, none⟩ = some (.string a1_0) := (blk_cell BK329.out 0).trans rfl
              have hcz78_1 : w44.cell? ⟨gb329, 1, none⟩ = some (.string a1_1) := (blk_cell BK329.out 1).trans rfl
              have hfz78_0 := blk_frozen BK329.out 0
              have hfz78_1 := blk_frozen BK329.out 1
              have hnb79 := NB358_340.out
              have hnc79 := NB340_358.out
              have hnb80 := NB358_347.out
              have hnc80 := NB347_358.out
              have hnb81 := NB358_365.out
              have hnc81 := NB365_358.out
              have hcz82_0 : w44.cell? ⟨gb358, 0, none⟩ = some (.string t352) := (blk_cell BK358.out 0).trans rfl
              have hcz82_1 : w44.cell? ⟨gb358, 1, none⟩ = some (.string t353) := (blk_cell BK358.out 1).trans rfl
              have hcz82_2 : w44.cell? ⟨gb358, 2, none⟩ = some (.bool t354) := (blk_cell BK358.out 2).trans rfl
              have hcz82_3 : w44.cell? ⟨gb358, 3, none⟩ = some (.bool t355) := (blk_cell BK358.out 3).trans rfl
              have hcz82_4 : w44.cell? ⟨gb358, 4, none⟩ = some (.bool t356) := (blk_cell BK358.out 4).trans rfl
              have hfz82_0 := blk_frozen BK358.out 0
              have hfz82_1 := blk_frozen BK358.out 1
              have hfz82_2 := blk_frozen BK358.out 2
              have hfz82_3 := blk_frozen BK358.out 3
              have hfz82_4 := blk_frozen BK358.out 4
              have hnb83 := NB340_347.out
              have hnc83 := NB347_340.out
              have hnb84 := NB340_365.out
              have hnc84 := NB365_340.out
              have hcz85_0 : w44.cell? ⟨gb340, 0, none⟩ = some (.string t334) := (blk_cell BK340.out 0).trans rfl
              have hcz85_1 : w44.cell? ⟨gb340, 1, none⟩ = some (.string t335) := (blk_cell BK340.out 1).trans rfl
              have hcz85_2 : w44.cell? ⟨gb340, 2, none⟩ = some (.bool t336) := (blk_cell BK340.out 2).trans rfl
              have hcz85_3 : w44.cell? ⟨gb340, 3, none⟩ = some (.bool t337) := (blk_cell BK340.out 3).trans rfl
              have hcz85_4 : w44.cell? ⟨gb340, 4, none⟩ = some (.bool t338) := (blk_cell BK340.out 4).trans rfl
              have hfz85_0 := blk_frozen BK340.out 0
              have hfz85_1 := blk_frozen BK340.out 1
              have hfz85_2 := blk_frozen BK340.out 2
              have hfz85_3 := blk_frozen BK340.out 3
              have hfz85_4 := blk_frozen BK340.out 4
              go_wp2
              go_meet
              case rel => exact ⟨_, (true), (by first | rfl | (simp; done) | (simp [*]; done)), H', ⟨by have := HJ3.out; first | omega | exact Nat.le_refl _⟩, ⟨by (with_reducible repeat (first | refine blk_drewN ?_ _ | refine blk_drew ?_ | refine blk_alloc ?_ _)); refine blk_far ?_ NB329_365.out _; (with_reducible repeat (first | refine blk_drewN ?_ _ | refine blk_drew ?_ | refine blk_alloc ?_ _)); refine blk_far ?_ NB329_365.out _; (with_reducible repeat (first | refine blk_drewN ?_ _ | refine blk_drew ?_ | refine blk_alloc ?_ _)); refine blk_far ?_ NB329_365.out _; (with_reducible repeat (first | refine blk_drewN ?_ _ | refine blk_drew ?_ | refine blk_alloc ?_ _)); refine blk_far ?_ NB329_365.out _; (with_reducible repeat (first | refine blk_drewN ?_ _ | refine blk_drew ?_ | refine blk_alloc ?_ _)); refine blk_far ?_ NB329_365.out _; (with_reducible repeat (first | refine blk_drewN ?_ _ | refine blk_drew ?_ | refine blk_alloc ?_ _)); exact BK329.out⟩, ⟨by (with_reducible repeat (first | refine blk_drewN ?_ _ | refine blk_drew ?_ | refine blk_alloc ?_ _)); refine blk_far ?_ NB340_365.out _; (with_reducible repeat (first | refine blk_drewN ?_ _ | refine blk_drew ?_ | refine blk_alloc ?_ _)); refine blk_far ?_ NB340_365.out _; (with_reducible repeat (first | refine blk_drewN ?_ _ | refine blk_drew ?_ | refine blk_alloc ?_ _)); refine blk_far ?_ NB340_365.out _; (with_reducible repeat (first | refine blk_drewN ?_ _ | refine blk_drew ?_ | refine blk_alloc ?_ _)); refine blk_far ?_ NB340_365.out _; (with_reducible repeat (first | refine blk_drewN ?_ _ | refine blk_drew ?_ | refine blk_alloc ?_ _)); refine blk_far ?_ NB340_365.out _; (with_reducible repeat (first | refine blk_drewN ?_ _ | refine blk_drew ?_ | refine blk_alloc ?_ _)); exact BK340.out⟩, ⟨by (with_reducible repeat (first | refine blk_drewN ?_ _ | refine blk_drew ?_ | refine blk_alloc ?_ _)); refine blk_far ?_ NB347_365.out _; (with_reducible repeat (first | refine blk_drewN ?_ _ | refine blk_drew ?_ | refine blk_alloc ?_ _)); refine blk_far ?_ NB347_365.out _; (with_reducible repeat (first | refine blk_drewN ?_ _ | refine blk_drew ?_ | refine blk_alloc ?_ _)); refine blk_far ?_ NB347_365.out _; (with_reducible repeat (first | refine blk_drewN ?_ _ | refine blk_drew ?_ | refine blk_alloc ?_ _)); refine blk_far ?_ NB347_365.out _; (with_reducible repeat (first | refine blk_drewN ?_ _ | refine blk_drew ?_ | refine blk_alloc ?_ _)); refine blk_far ?_ NB347_365.out _; (with_reducible repeat (first | refine blk_drewN ?_ _ | refine blk_drew ?_ | refine blk_alloc ?_ _)); exact BK347.out⟩, ⟨by (with_reducible repeat (first | refine blk_drewN ?_ _ | refine blk_drew ?_ | refine blk_alloc ?_ _)); refine blk_far ?_ NB358_365.out _; (with_reducible repeat (first | refine blk_drewN ?_ _ | refine blk_drew ?_ | refine blk_alloc ?_ _)); refine blk_far ?_ NB358_365.out _; (with_reducible repeat (first | refine blk_drewN ?_ _ | refine blk_drew ?_ | refine blk_alloc ?_ _)); refine blk_far ?_ NB358_365.out _; (with_reducible repeat (first | refine blk_drewN ?_ _ | refine blk_drew ?_ | refine blk_alloc ?_ _)); refine blk_far ?_ NB358_365.out _; (with_reducible repeat (first | refine blk_drewN ?_ _ | refine blk_drew ?_ | refine blk_alloc ?_ _)); refine blk_far ?_ NB358_365.out _; (with_reducible repeat (first | refine blk_drewN ?_ _ | refine blk_drew ?_ | refine blk_alloc ?_ _)); exact BK358.out⟩, ⟨by (with_reducible repeat (first | refine blk_drewN ?_ _ | refine blk_drew ?_ | refine blk_alloc ?_ _)); refine blk_put (cs := #[.string t359, .string t360, .bool t361, .bool t362, .bool false]) ?_ 4 _ rfl; (with_reducible repeat (first | refine blk_drewN ?_ _ | refine blk_drew ?_ | refine blk_alloc ?_ _)); refine blk_put (cs := #[.string t359, .string t360, .bool t361, .bool false, .bool false]) ?_ 3 _ rfl; (with_reducible repeat (first | refine blk_drewN ?_ _ | refine blk_drew ?_ | refine blk_alloc ?_ _)); refine blk_put (cs := #[.string t359, .string t360, .bool false, .bool false, .bool false]) ?_ 2 _ rfl; (with_reducible repeat (first | refine blk_drewN ?_ _ | refine blk_drew ?_ | refine blk_alloc ?_ _)); refine blk_put (cs := #[.string t359, .string (⟨#[]⟩ : ByteArray), .bool false, .bool false, .bool false]) ?_ 1 _ rfl; (with_reducible repeat (first | refine blk_drewN ?_ _ | refine blk_drew ?_ | refine blk_alloc ?_ _)); refine blk_put (cs := #[.string (⟨#[]⟩ : ByteArray), .string (⟨#[]⟩ : ByteArray), .bool false, .bool false, .bool false]) ?_ 0 _ rfl; (with_reducible repeat (first | refine blk_drewN ?_ _ | refine blk_drew ?_ | refine blk_alloc ?_ _)); exact BK365.out⟩, ⟨by repeat (first | (with_reducible first | exact HB.out | apply below_alloc | apply pw_below_drewN | apply below_drew1 | refine below_set ?_ GE329.out | refine below_set ?_ GE340.out | refine below_set ?_ GE347.out | refine below_set ?_ GE358.out | refine below_set ?_ GE365.out) | exact HB.out)⟩⟩
            · rw [if_neg c73] at H
              have c73b0 : (!(t352.toList == t334.toList) || (!(t353.toList == t335.toList) || (!(t354 == t336) || (!(t355 == t337) || (!(t356 == t338)))))) = false := by simpa using c73
              clear c73
              by_cases c86 : (t357 != t339) = true
              · rw [if_pos c86] at H
                have c86b0 : (t357 != t339) = true := c86
                (try (have c86b1 : decide (t357 = t339) = false := by simpa using c86))
                (try (have c86b2 : (t357 == t339) = false := by simpa using c86))
                (try (have c86b3 : ¬ (t357 = t339) := by simpa using c86))
                clear c86
                have H' := Aside0.mk H
                clear H
                have hnb87 := NB329_340.out
                have hnc87 := NB340_329.out
                have hnb88 := NB329_347.out
                have hnc88 := NB347_329.out
                have hnb89 := NB329_358.out
                have hnc89 := NB358_329.out
                have hnb90 := NB329_365.out
                have hnc90 := NB365_329.out
                have hcz91_0 : w44.cell? ⟨gb329, 0, none⟩ = some (.string a1_0) := (blk_cell BK329.out 0).trans rfl
                have hcz91_1 : w44.cell? ⟨gb329, 1, none⟩ = some (.string a1_1) := (blk_cell BK329.out 1).trans rfl
                have hfz91_0 := blk_frozen BK329.out 0
                have hfz91_1 := blk_frozen BK329.out 1
                have hnb92 := NB358_340.out
                have hnc92 := NB340_358.out
                have hnb93 := NB358_347.out
                have hnc93 := NB347_358.out
                have hnb94 := NB358_365.out
                have hnc94 := NB365_358.out
                have hcz95_0 : w44.cell? ⟨gb358, 0, none⟩ = some (.string t352) := (blk_cell BK358.out 0).trans rfl
                have hcz95_1 : w44.cell? ⟨gb358, 1, none⟩ = some (.string t353) := (blk_cell BK358.out 1).trans rfl
                have hcz95_2 : w44.cell? ⟨gb358, 2, none⟩ = some (.bool t354) := (blk_cell BK358.out 2).trans rfl
                have hcz95_3 : w44.cell? ⟨gb358, 3, none⟩ = some (.bool t355) := (blk_cell BK358.out 3).trans rfl
                have hcz95_4 : w44.cell? ⟨gb358, 4, none⟩ = some (.bool t356) := (blk_cell BK358.out 4).trans rfl
                have hfz95_0 := blk_frozen BK358.out 0
                have hfz95_1 := blk_frozen BK358.out 1
                have hfz95_2 := blk_frozen BK358.out 2
                have hfz95_3 := blk_frozen BK358.out 3
                have hfz95_4 := blk_frozen BK358.out 4
                have hnb96 := NB340_347.out
                have hnc96 := NB347_340.out
                have hnb97 := NB340_365.out
                have hnc97 := NB365_340.out
                have hcz98_0 : w44.cell? ⟨gb340, 0, none⟩ = some (.string t334) := (blk_cell BK340.out 0).trans rfl
                have hcz98_1 : w44.cell? ⟨gb340, 1, none⟩ = some (.string t335) := (blk_cell BK340.out 1).trans rfl
                have hcz98_2 : w44.cell? ⟨gb340, 2, none⟩ = some (.bool t336) := (blk_cell BK340.out 2).trans rfl
                have hcz98_3 : w44.cell? ⟨gb340, 3, none⟩ = some (.bool t337) := (blk_cell BK340.out 3).trans rfl
                have hcz98_4 : w44.cell? ⟨gb340, 4, none⟩ = some (.bool t338) := (blk_cell BK340.out 4).trans rfl
                have hfz98_0 := blk_frozen BK340.out 0
                have hfz98_1 := blk_frozen BK340.out 1
                have hfz98_2 := blk_frozen BK340.out 2
                have hfz98_3 := blk_frozen BK340.out 3
                have hfz98_4 := blk_frozen BK340.out 4
                go_wp2
                go_meet
                case rel => exact ⟨_, (true), (by first | rfl | (simp; done) | (simp [*]; done)), H', ⟨by have := HJ3.out; first | omega | exact Nat.le_refl _⟩, ⟨by (with_reducible repeat (first | refine blk_drewN ?_ _ | refine blk_drew ?_ | refine blk_alloc ?_ _)); refine blk_far ?_ NB329_365.out _; (with_reducible repeat (first | refine blk_drewN ?_ _ | refine blk_drew ?_ | refine blk_alloc ?_ _)); refine blk_far ?_ NB329_365.out _; (with_reducible repeat (first | refine blk_drewN ?_ _ | refine blk_drew ?_ | refine blk_alloc ?_ _)); refine blk_far ?_ NB329_365.out _; (with_reducible repeat (first | refine blk_drewN ?_ _ | refine blk_drew ?_ | refine blk_alloc ?_ _)); refine blk_far ?_ NB329_365.out _; (with_reducible repeat (first | refine blk_drewN ?_ _ | refine blk_drew ?_ | refine blk_alloc ?_ _)); refine blk_far ?_ NB329_365.out _; (with_reducible repeat (first | refine blk_drewN ?_ _ | refine blk_drew ?_ | refine blk_alloc ?_ _)); exact BK329.out⟩, ⟨by (with_reducible repeat (first | refine blk_drewN ?_ _ | refine blk_drew ?_ | refine blk_alloc ?_ _)); refine blk_far ?_ NB340_365.out _; (with_reducible repeat (first | refine blk_drewN ?_ _ | refine blk_drew ?_ | refine blk_alloc ?_ _)); refine blk_far ?_ NB340_365.out _; (with_reducible repeat (first | refine blk_drewN ?_ _ | refine blk_drew ?_ | refine blk_alloc ?_ _)); refine blk_far ?_ NB340_365.out _; (with_reducible repeat (first | refine blk_drewN ?_ _ | refine blk_drew ?_ | refine blk_alloc ?_ _)); refine blk_far ?_ NB340_365.out _; (with_reducible repeat (first | refine blk_drewN ?_ _ | refine blk_drew ?_ | refine blk_alloc ?_ _)); refine blk_far ?_ NB340_365.out _; (with_reducible repeat (first | refine blk_drewN ?_ _ | refine blk_drew ?_ | refine blk_alloc ?_ _)); exact BK340.out⟩, ⟨by (with_reducible repeat (first | refine blk_drewN ?_ _ | refine blk_drew ?_ | refine blk_alloc ?_ _)); refine blk_far ?_ NB347_365.out _; (with_reducible repeat (first | refine blk_drewN ?_ _ | refine blk_drew ?_ | refine blk_alloc ?_ _)); refine blk_far ?_ NB347_365.out _; (with_reducible repeat (first | refine blk_drewN ?_ _ | refine blk_drew ?_ | refine blk_alloc ?_ _)); refine blk_far ?_ NB347_365.out _; (with_reducible repeat (first | refine blk_drewN ?_ _ | refine blk_drew ?_ | refine blk_alloc ?_ _)); refine blk_far ?_ NB347_365.out _; (with_reducible repeat (first | refine blk_drewN ?_ _ | refine blk_drew ?_ | refine blk_alloc ?_ _)); refine blk_far ?_ NB347_365.out _; (with_reducible repeat (first | refine blk_drewN ?_ _ | refine blk_drew ?_ | refine blk_alloc ?_ _)); exact BK347.out⟩, ⟨by (with_reducible repeat (first | refine blk_drewN ?_ _ | refine blk_drew ?_ | refine blk_alloc ?_ _)); refine blk_far ?_ NB358_365.out _; (with_reducible repeat (first | refine blk_drewN ?_ _ | refine blk_drew ?_ | refine blk_alloc ?_ _)); refine blk_far ?_ NB358_365.out _; (with_reducible repeat (first | refine blk_drewN ?_ _ | refine blk_drew ?_ | refine blk_alloc ?_ _)); refine blk_far ?_ NB358_365.out _; (with_reducible repeat (first | refine blk_drewN ?_ _ | refine blk_drew ?_ | refine blk_alloc ?_ _)); refine blk_far ?_ NB358_365.out _; (with_reducible repeat (first | refine blk_drewN ?_ _ | refine blk_drew ?_ | refine blk_alloc ?_ _)); refine blk_far ?_ NB358_365.out _; (with_reducible repeat (first | refine blk_drewN ?_ _ | refine blk_drew ?_ | refine blk_alloc ?_ _)); exact BK358.out⟩, ⟨by (with_reducible repeat (first | refine blk_drewN ?_ _ | refine blk_drew ?_ | refine blk_alloc ?_ _)); refine blk_put (cs := #[.string t359, .string t360, .bool t361, .bool t362, .bool false]) ?_ 4 _ rfl; (with_reducible repeat (first | refine blk_drewN ?_ _ | refine blk_drew ?_ | refine blk_alloc ?_ _)); refine blk_put (cs := #[.string t359, .string t360, .bool t361, .bool false, .bool false]) ?_ 3 _ rfl; (with_reducible repeat (first | refine blk_drewN ?_ _ | refine blk_drew ?_ | refine blk_alloc ?_ _)); refine blk_put (cs := #[.string t359, .string t360, .bool false, .bool false, .bool false]) ?_ 2 _ rfl; (with_reducible repeat (first | refine blk_drewN ?_ _ | refine blk_drew ?_ | refine blk_alloc ?_ _)); refine blk_put (cs := #[.string t359, .string (⟨#[]⟩ : ByteArray), .bool false, .bool false, .bool false]) ?_ 1 _ rfl; (with_reducible repeat (first | refine blk_drewN ?_ _ | refine blk_drew ?_ | refine blk_alloc ?_ _)); refine blk_put (cs := #[.string (⟨#[]⟩ : ByteArray), .string (⟨#[]⟩ : ByteArray), .bool false, .bool false, .bool false]) ?_ 0 _ rfl; (with_reducible repeat (first | refine blk_drewN ?_ _ | refine blk_drew ?_ | refine blk_alloc ?_ _)); exact BK365.out⟩, ⟨by repeat (first | (with_reducible first | exact HB.out | apply below_alloc | apply pw_below_drewN | apply below_drew1 | refine below_set ?_ GE329.out | refine below_set ?_ GE340.out | refine below_set ?_ GE347.out | refine below_set ?_ GE358.out | refine below_set ?_ GE365.out) | exact HB.out)⟩⟩
              · rw [if_neg c86] at H
                have c86b0 : (t357 != t339) = false := by simpa using c86
                (try (have c86b1 : decide (t357 = t339) = true := by simpa using c86))
                (try (have c86b2 : (t357 == t339) = true := by simpa using c86))
                clear c86
                by_cases c99 : t345 = true
                · subst c99
                  have H1 : (jobshelllaw15_VarsKeeps.j1 kj3 a2 t351 t364 (!(t359.toList == t341.toList) || (!(t360.toList == t342.toList) || (!(t361 == t343) || (!(t362 == t344) || (!(t363 == true)))))) a1_0 a1_1 t341 t342 t343 t344 true t359 t360 t361 t362 t363) = some r := by rw [if_pos rfl] at H; exact H
                  clear H
                  have H := H1
                  clear H1
                  have H' := Aside0.mk H
                  clear H
                  have hnb100 := NB329_340.out
                  have hnc100 := NB340_329.out
                  have hnb101 := NB329_347.out
                  have hnc101 := NB347_329.out
                  have hnb102 := NB329_358.out
                  have hnc102 := NB358_329.out
                  have hnb103 := NB329_365.out
                  have hnc103 := NB365_329.out
                  have hcz104_0 : w44.cell? ⟨gb329, 0, none⟩ = some (.string a1_0) := (blk_cell BK329.out 0).trans rfl
                  have hcz104_1 : w44.cell? ⟨gb329, 1, none⟩ = some (.string a1_1) := (blk_cell BK329.out 1).trans rfl
                  have hfz104_0 := blk_frozen BK329.out 0
                  have hfz104_1 := blk_frozen BK329.out 1
                  have hnb105 := NB358_340.out
                  have hnc105 := NB340_358.out
                  have hnb106 := NB358_347.out
                  have hnc106 := NB347_358.out
                  have hnb107 := NB358_365.out
                  have hnc107 := NB365_358.out
                  have hcz108_0 : w44.cell? ⟨gb358, 0, none⟩ = some (.string t352) := (blk_cell BK358.out 0).trans rfl
                  have hcz108_1 : w44.cell? ⟨gb358, 1, none⟩ = some (.string t353) := (blk_cell BK358.out 1).trans rfl
                  have hcz108_2 : w44.cell? ⟨gb358, 2, none⟩ = some (.bool t354) := (blk_cell BK358.out 2).trans rfl
                  have hcz108_3 : w44.cell? ⟨gb358, 3, none⟩ = some (.bool t355) := (blk_cell BK358.out 3).trans rfl
                  have hcz108_4 : w44.cell? ⟨gb358, 4, none⟩ = some (.bool t356) := (blk_cell BK358.out 4).trans rfl
                  have hfz108_0 := blk_frozen BK358.out 0
                  have hfz108_1 := blk_frozen BK358.out 1
                  have hfz108_2 := blk_frozen BK358.out 2
                  have hfz108_3 := blk_frozen BK358.out 3
                  have hfz108_4 := blk_frozen BK358.out 4
                  have hnb109 := NB340_347.out
                  have hnc109 := NB347_340.out
                  have hnb110 := NB340_365.out
                  have hnc110 := NB365_340.out
                  have hcz111_0 : w44.cell? ⟨gb340, 0, none⟩ = some (.string t334) := (blk_cell BK340.out 0).trans rfl
                  have hcz111_1 : w44.cell? ⟨gb340, 1, none⟩ = some (.string t335) := (blk_cell BK340.out 1).trans rfl
                  have hcz111_2 : w44.cell? ⟨gb340, 2, none⟩ = some (.bool t336) := (blk_cell BK340.out 2).trans rfl
                  have hcz111_3 : w44.cell? ⟨gb340, 3, none⟩ = some (.bool t337) := (blk_cell BK340.out 3).trans rfl
                  have hcz111_4 : w44.cell? ⟨gb340, 4, none⟩ = some (.bool t338) := (blk_cell BK340.out 4).trans rfl
                  have hfz111_0 := blk_frozen BK340.out 0
                  have hfz111_1 := blk_frozen BK340.out 1
                  have hfz111_2 := blk_frozen BK340.out 2
                  have hfz111_3 := blk_frozen BK340.out 3
                  have hfz111_4 := blk_frozen BK340.out 4
                  have hnb112 := NB347_365.out
                  have hnc112 := NB365_347.out
                  have hcz113_0 : w44.cell? ⟨gb347, 0, none⟩ = some (.string t341) := (blk_cell BK347.out 0).trans rfl
                  have hcz113_1 : w44.cell? ⟨gb347, 1, none⟩ = some (.string t342) := (blk_cell BK347.out 1).trans rfl
                  have hcz113_2 : w44.cell? ⟨gb347, 2, none⟩ = some (.bool t343) := (blk_cell BK347.out 2).trans rfl
                  have hcz113_3 : w44.cell? ⟨gb347, 3, none⟩ = some (.bool t344) := (blk_cell BK347.out 3).trans rfl
                  have hcz113_4 : w44.cell? ⟨gb347, 4, none⟩ = some (.bool true) := (blk_cell BK347.out 4).trans rfl
                  have hfz113_0 := blk_frozen BK347.out 0
                  have hfz113_1 := blk_frozen BK347.out 1
                  have hfz113_2 := blk_frozen BK347.out 2
                  have hfz113_3 := blk_frozen BK347.out 3
                  have hfz113_4 := blk_frozen BK347.out 4
                  have hcz114_0 : w44.cell? ⟨gb365, 0, none⟩ = some (.string (⟨#[]⟩ : ByteArray)) := (blk_cell BK365.out 0).trans rfl
                  have hcz114_1 : w44.cell? ⟨gb365, 1, none⟩ = some (.string (⟨#[]⟩ : ByteArray)) := (blk_cell BK365.out 1).trans rfl
                  have hcz114_2 : w44.cell? ⟨gb365, 2, none⟩ = some (.bool false) := (blk_cell BK365.out 2).trans rfl
                  have hcz114_3 : w44.cell? ⟨gb365, 3, none⟩ = some (.bool false) := (blk_cell BK365.out 3).trans rfl
                  have hcz114_4 : w44.cell? ⟨gb365, 4, none⟩ = some (.bool false) := (blk_cell BK365.out 4).trans rfl
                  have hfz114_0 := blk_frozen BK365.out 0
                  have hfz114_1 := blk_frozen BK365.out 1
                  have hfz114_2 := blk_frozen BK365.out 2
                  have hfz114_3 := blk_frozen BK365.out 3
                  have hfz114_4 := blk_frozen BK365.out 4
                  go_wp2
                  go_meet
                  case rel => exact ⟨_, ((!(t359.toList == t341.toList) || (!(t360.toList == t342.toList) || (!(t361 == t343) || (!(t362 == t344) || (!(t363 == true))))))), (by first | rfl | (simp; done) | (simp [*]; done)), H', ⟨by have := HJ3.out; first | omega | exact Nat.le_refl _⟩, ⟨by (with_reducible repeat (first | refine blk_drewN ?_ _ | refine blk_drew ?_ | refine blk_alloc ?_ _)); refine blk_far ?_ NB329_365.out _; (with_reducible repeat (first | refine blk_drewN ?_ _ | refine blk_drew ?_ | refine blk_alloc ?_ _)); refine blk_far ?_ NB329_365.out _; (with_reducible repeat (first | refine blk_drewN ?_ _ | refine blk_drew ?_ | refine blk_alloc ?_ _)); refine blk_far ?_ NB329_365.out _; (with_reducible repeat (first | refine blk_drewN ?_ _ | refine blk_drew ?_ | refine blk_alloc ?_ _)); refine blk_far ?_ NB329_365.out _; (with_reducible repeat (first | refine blk_drewN ?_ _ | refine blk_drew ?_ | refine blk_alloc ?_ _)); refine blk_far ?_ NB329_365.out _; (with_reducible repeat (first | refine blk_drewN ?_ _ | refine blk_drew ?_ | refine blk_alloc ?_ _)); exact BK329.out⟩, ⟨by (with_reducible repeat (first | refine blk_drewN ?_ _ | refine blk_drew ?_ | refine blk_alloc ?_ _)); refine blk_far ?_ NB340_365.out _; (with_reducible repeat (first | refine blk_drewN ?_ _ | refine blk_drew ?_ | refine blk_alloc ?_ _)); refine blk_far ?_ NB340_365.out _; (with_reducible repeat (first | refine blk_drewN ?_ _ | refine blk_drew ?_ | refine blk_alloc ?_ _)); refine blk_far ?_ NB340_365.out _; (with_reducible repeat (first | refine blk_drewN ?_ _ | refine blk_drew ?_ | refine blk_alloc ?_ _)); refine blk_far ?_ NB340_365.out _; (with_reducible repeat (first | refine blk_drewN ?_ _ | refine blk_drew ?_ | refine blk_alloc ?_ _)); refine blk_far ?_ NB340_365.out _; (with_reducible repeat (first | refine blk_drewN ?_ _ | refine blk_drew ?_ | refine blk_alloc ?_ _)); exact BK340.out⟩, ⟨by (with_reducible repeat (first | refine blk_drewN ?_ _ | refine blk_drew ?_ | refine blk_alloc ?_ _)); refine blk_far ?_ NB347_365.out _; (with_reducible repeat (first | refine blk_drewN ?_ _ | refine blk_drew ?_ | refine blk_alloc ?_ _)); refine blk_far ?_ NB347_365.out _; (with_reducible repeat (first | refine blk_drewN ?_ _ | refine blk_drew ?_ | refine blk_alloc ?_ _)); refine blk_far ?_ NB347_365.out _; (with_reducible repeat (first | refine blk_drewN ?_ _ | refine blk_drew ?_ | refine blk_alloc ?_ _)); refine blk_far ?_ NB347_365.out _; (with_reducible repeat (first | refine blk_drewN ?_ _ | refine blk_drew ?_ | refine blk_alloc ?_ _)); refine blk_far ?_ NB347_365.out _; (with_reducible repeat (first | refine blk_drewN ?_ _ | refine blk_drew ?_ | refine blk_alloc ?_ _)); exact BK347.out⟩, ⟨by (with_reducible repeat (first | refine blk_drewN ?_ _ | refine blk_drew ?_ | refine blk_alloc ?_ _)); refine blk_far ?_ NB358_365.out _; (with_reducible repeat (first | refine blk_drewN ?_ _ | refine blk_drew ?_ | refine blk_alloc ?_ _)); refine blk_far ?_ NB358_365.out _; (with_reducible repeat (first | refine blk_drewN ?_ _ | refine blk_drew ?_ | refine blk_alloc ?_ _)); refine blk_far ?_ NB358_365.out _; (with_reducible repeat (first | refine blk_drewN ?_ _ | refine blk_drew ?_ | refine blk_alloc ?_ _)); refine blk_far ?_ NB358_365.out _; (with_reducible repeat (first | refine blk_drewN ?_ _ | refine blk_drew ?_ | refine blk_alloc ?_ _)); refine blk_far ?_ NB358_365.out _; (with_reducible repeat (first | refine blk_drewN ?_ _ | refine blk_drew ?_ | refine blk_alloc ?_ _)); exact BK358.out⟩, ⟨by (with_reducible repeat (first | refine blk_drewN ?_ _ | refine blk_drew ?_ | refine blk_alloc ?_ _)); refine blk_put (cs := #[.string t359, .string t360, .bool t361, .bool t362, .bool false]) ?_ 4 _ rfl; (with_reducible repeat (first | refine blk_drewN ?_ _ | refine blk_drew ?_ | refine blk_alloc ?_ _)); refine blk_put (cs := #[.string t359, .string t360, .bool t361, .bool false, .bool false]) ?_ 3 _ rfl; (with_reducible repeat (first | refine blk_drewN ?_ _ | refine blk_drew ?_ | refine blk_alloc ?_ _)); refine blk_put (cs := #[.string t359, .string t360, .bool false, .bool false, .bool false]) ?_ 2 _ rfl; (with_reducible repeat (first | refine blk_drewN ?_ _ | refine blk_drew ?_ | refine blk_alloc ?_ _)); refine blk_put (cs := #[.string t359, .string (⟨#[]⟩ : ByteArray), .bool false, .bool false, .bool false]) ?_ 1 _ rfl; (with_reducible repeat (first | refine blk_drewN ?_ _ | refine blk_drew ?_ | refine blk_alloc ?_ _)); refine blk_put (cs := #[.string (⟨#[]⟩ : ByteArray), .string (⟨#[]⟩ : ByteArray), .bool false, .bool false, .bool false]) ?_ 0 _ rfl; (with_reducible repeat (first | refine blk_drewN ?_ _ | refine blk_drew ?_ | refine blk_alloc ?_ _)); exact BK365.out⟩, ⟨by repeat (first | (with_reducible first | exact HB.out | apply below_alloc | apply pw_below_drewN | apply below_drew1 | refine below_set ?_ GE329.out | refine below_set ?_ GE340.out | refine below_set ?_ GE347.out | refine below_set ?_ GE358.out | refine below_set ?_ GE365.out) | exact HB.out)⟩⟩
                · replace c99 := Bool.eq_false_iff.mpr c99
                  subst c99
                  have H1 : (jobshelllaw15_VarsKeeps.j1 kj3 a2 t351 t364 false a1_0 a1_1 t341 t342 t343 t344 false t359 t360 t361 t362 t363) = some r := by rw [if_neg (show ¬ (false = true) by decide)] at H; exact H
                  clear H
                  have H := H1
                  clear H1
                  have H' := Aside0.mk H
                  clear H
                  have hnb115 := NB329_340.out
                  have hnc115 := NB340_329.out
                  have hnb116 := NB329_347.out
                  have hnc116 := NB347_329.out
                  have hnb117 := NB329_358.out
                  have hnc117 := NB358_329.out
                  have hnb118 := NB329_365.out
                  have hnc118 := NB365_329.out
                  have hcz119_0 : w44.cell? ⟨gb329, 0, none⟩ = some (.string a1_0) := (blk_cell BK329.out 0).trans rfl
                  have hcz119_1 : w44.cell? ⟨gb329, 1, none⟩ = some (.string a1_1) := (blk_cell BK329.out 1).trans rfl
                  have hfz119_0 := blk_frozen BK329.out 0
                  have hfz119_1 := blk_frozen BK329.out 1
                  have hnb120 := NB358_340.out
                  have hnc120 := NB340_358.out
                  have hnb121 := NB358_347.out
                  have hnc121 := NB347_358.out
                  have hnb122 := NB358_365.out
                  have hnc122 := NB365_358.out
                  have hcz123_0 : w44.cell? ⟨gb358, 0, none⟩ = some (.string t352) := (blk_cell BK358.out 0).trans rfl
                  have hcz123_1 : w44.cell? ⟨gb358, 1, none⟩ = some (.string t353) := (blk_cell BK358.out 1).trans rfl
                  have hcz123_2 : w44.cell? ⟨gb358, 2, none⟩ = some (.bool t354) := (blk_cell BK358.out 2).trans rfl
                  have hcz123_3 : w44.cell? ⟨gb358, 3, none⟩ = some (.bool t355) := (blk_cell BK358.out 3).trans rfl
                  have hcz123_4 : w44.cell? ⟨gb358, 4, none⟩ = some (.bool t356) := (blk_cell BK358.out 4).trans rfl
                  have hfz123_0 := blk_frozen BK358.out 0
                  have hfz123_1 := blk_frozen BK358.out 1
                  have hfz123_2 := blk_frozen BK358.out 2
                  have hfz123_3 := blk_frozen BK358.out 3
                  have hfz123_4 := blk_frozen BK358.out 4
                  have hnb124 := NB340_347.out
                  have hnc124 := NB347_340.out
                  have hnb125 := NB340_365.out
                  have hnc125 := NB365_340.out
                  have hcz126_0 : w44.cell? ⟨gb340, 0, none⟩ = some (.string t334) := (blk_cell BK340.out 0).trans rfl
                  have hcz126_1 : w44.cell? ⟨gb340, 1, none⟩ = some (.string t335) := (blk_cell BK340.out 1).trans rfl
                  have hcz126_2 : w44.cell? ⟨gb340, 2, none⟩ = some (.bool t336) := (blk_cell BK340.out 2).trans rfl
                  have hcz126_3 : w44.cell? ⟨gb340, 3, none⟩ = some (.bool t337) := (blk_cell BK340.out 3).trans rfl
                  have hcz126_4 : w44.cell? ⟨gb340, 4, none⟩ = some (.bool t338) := (blk_cell BK340.out 4).trans rfl
                  have hfz126_0 := blk_frozen BK340.out 0
                  have hfz126_1 := blk_frozen BK340.out 1
                  have hfz126_2 := blk_frozen BK340.out 2
                  have hfz126_3 := blk_frozen BK340.out 3
                  have hfz126_4 := blk_frozen BK340.out 4
                  have hnb127 := NB347_365.out
                  have hnc127 := NB365_347.out
                  have hcz128_0 : w44.cell? ⟨gb347, 0, none⟩ = some (.string t341) := (blk_cell BK347.out 0).trans rfl
                  have hcz128_1 : w44.cell? ⟨gb347, 1, none⟩ = some (.string t342) := (blk_cell BK347.out 1).trans rfl
                  have hcz128_2 : w44.cell? ⟨gb347, 2, none⟩ = some (.bool t343) := (blk_cell BK347.out 2).trans rfl
                  have hcz128_3 : w44.cell? ⟨gb347, 3, none⟩ = some (.bool t344) := (blk_cell BK347.out 3).trans rfl
                  have hcz128_4 : w44.cell? ⟨gb347, 4, none⟩ = some (.bool false) := (blk_cell BK347.out 4).trans rfl
                  have hfz128_0 := blk_frozen BK347.out 0
                  have hfz128_1 := blk_frozen BK347.out 1
                  have hfz128_2 := blk_frozen BK347.out 2
                  have hfz128_3 := blk_frozen BK347.out 3
                  have hfz128_4 := blk_frozen BK347.out 4
                  go_wp2
                  go_meet
                  case rel => exact ⟨_, (false), (by first | rfl | (simp; done) | (simp [*]; done)), H', ⟨by have := HJ3.out; first | omega | exact Nat.le_refl _⟩, ⟨by (with_reducible repeat (first | refine blk_drewN ?_ _ | refine blk_drew ?_ | refine blk_alloc ?_ _)); refine blk_far ?_ NB329_365.out _; (with_reducible repeat (first | refine blk_drewN ?_ _ | refine blk_drew ?_ | refine blk_alloc ?_ _)); refine blk_far ?_ NB329_365.out _; (with_reducible repeat (first | refine blk_drewN ?_ _ | refine blk_drew ?_ | refine blk_alloc ?_ _)); refine blk_far ?_ NB329_365.out _; (with_reducible repeat (first | refine blk_drewN ?_ _ | refine blk_drew ?_ | refine blk_alloc ?_ _)); refine blk_far ?_ NB329_365.out _; (with_reducible repeat (first | refine blk_drewN ?_ _ | refine blk_drew ?_ | refine blk_alloc ?_ _)); refine blk_far ?_ NB329_365.out _; (with_reducible repeat (first | refine blk_drewN ?_ _ | refine blk_drew ?_ | refine blk_alloc ?_ _)); exact BK329.out⟩, ⟨by (with_reducible repeat (first | refine blk_drewN ?_ _ | refine blk_drew ?_ | refine blk_alloc ?_ _)); refine blk_far ?_ NB340_365.out _; (with_reducible repeat (first | refine blk_drewN ?_ _ | refine blk_drew ?_ | refine blk_alloc ?_ _)); refine blk_far ?_ NB340_365.out _; (with_reducible repeat (first | refine blk_drewN ?_ _ | refine blk_drew ?_ | refine blk_alloc ?_ _)); refine blk_far ?_ NB340_365.out _; (with_reducible repeat (first | refine blk_drewN ?_ _ | refine blk_drew ?_ | refine blk_alloc ?_ _)); refine blk_far ?_ NB340_365.out _; (with_reducible repeat (first | refine blk_drewN ?_ _ | refine blk_drew ?_ | refine blk_alloc ?_ _)); refine blk_far ?_ NB340_365.out _; (with_reducible repeat (first | refine blk_drewN ?_ _ | refine blk_drew ?_ | refine blk_alloc ?_ _)); exact BK340.out⟩, ⟨by (with_reducible repeat (first | refine blk_drewN ?_ _ | refine blk_drew ?_ | refine blk_alloc ?_ _)); refine blk_far ?_ NB347_365.out _; (with_reducible repeat (first | refine blk_drewN ?_ _ | refine blk_drew ?_ | refine blk_alloc ?_ _)); refine blk_far ?_ NB347_365.out _; (with_reducible repeat (first | refine blk_drewN ?_ _ | refine blk_drew ?_ | refine blk_alloc ?_ _)); refine blk_far ?_ NB347_365.out _; (with_reducible repeat (first | refine blk_drewN ?_ _ | refine blk_drew ?_ | refine blk_alloc ?_ _)); refine blk_far ?_ NB347_365.out _; (with_reducible repeat (first | refine blk_drewN ?_ _ | refine blk_drew ?_ | refine blk_alloc ?_ _)); refine blk_far ?_ NB347_365.out _; (with_reducible repeat (first | refine blk_drewN ?_ _ | refine blk_drew ?_ | refine blk_alloc ?_ _)); exact BK347.out⟩, ⟨by (with_reducible repeat (first | refine blk_drewN ?_ _ | refine blk_drew ?_ | refine blk_alloc ?_ _)); refine blk_far ?_ NB358_365.out _; (with_reducible repeat (first | refine blk_drewN ?_ _ | refine blk_drew ?_ | refine blk_alloc ?_ _)); refine blk_far ?_ NB358_365.out _; (with_reducible repeat (first | refine blk_drewN ?_ _ | refine blk_drew ?_ | refine blk_alloc ?_ _)); refine blk_far ?_ NB358_365.out _; (with_reducible repeat (first | refine blk_drewN ?_ _ | refine blk_drew ?_ | refine blk_alloc ?_ _)); refine blk_far ?_ NB358_365.out _; (with_reducible repeat (first | refine blk_drewN ?_ _ | refine blk_drew ?_ | refine blk_alloc ?_ _)); refine blk_far ?_ NB358_365.out _; (with_reducible repeat (first | refine blk_drewN ?_ _ | refine blk_drew ?_ | refine blk_alloc ?_ _)); exact BK358.out⟩, ⟨by (with_reducible repeat (first | refine blk_drewN ?_ _ | refine blk_drew ?_ | refine blk_alloc ?_ _)); refine blk_put (cs := #[.string t359, .string t360, .bool t361, .bool t362, .bool false]) ?_ 4 _ rfl; (with_reducible repeat (first | refine blk_drewN ?_ _ | refine blk_drew ?_ | refine blk_alloc ?_ _)); refine blk_put (cs := #[.string t359, .string t360, .bool t361, .bool false, .bool false]) ?_ 3 _ rfl; (with_reducible repeat (first | refine blk_drewN ?_ _ | refine blk_drew ?_ | refine blk_alloc ?_ _)); refine blk_put (cs := #[.string t359, .string t360, .bool false, .bool false, .bool false]) ?_ 2 _ rfl; (with_reducible repeat (first | refine blk_drewN ?_ _ | refine blk_drew ?_ | refine blk_alloc ?_ _)); refine blk_put (cs := #[.string t359, .string (⟨#[]⟩ : ByteArray), .bool false, .bool false, .bool false]) ?_ 1 _ rfl; (with_reducible repeat (first | refine blk_drewN ?_ _ | refine blk_drew ?_ | refine blk_alloc ?_ _)); refine blk_put (cs := #[.string (⟨#[]⟩ : ByteArray), .string (⟨#[]⟩ : ByteArray), .bool false, .bool false, .bool false]) ?_ 0 _ rfl; (with_reducible repeat (first | refine blk_drewN ?_ _ | refine blk_drew ?_ | refine blk_alloc ?_ _)); exact BK365.out⟩, ⟨by repeat (first | (with_reducible first | exact HB.out | apply below_alloc | apply pw_below_drewN | apply below_drew1 | refine below_set ?_ GE329.out | refine below_set ?_ GE340.out | refine below_set ?_ GE347.out | refine below_set ?_ GE358.out | refine below_set ?_ GE365.out) | exact HB.out)⟩⟩
        case rest =>
          clear HC19
          try clear c1
          try clear c2
          try clear p2
          try clear c3
          try clear c4
          try clear c5
          try clear c6
          try clear c7
          try clear c8
          try clear c9
          try clear c10
          try clear c11
          try clear c12
          try clear c17
          try clear c23
          try clear c28
          try clear c29
          try clear c38
          try clear c39
          try clear c40
          try clear c45
          try clear c46
          try clear c47
          try clear c48
          try clear c50
          try clear c50b0
          try clear c50b1
          try clear c51
          try clear c52
          try clear c53
          try clear c54
          try clear c55
          try clear c57
          try clear c58
          try clear c59
          try clear c61
          try clear c62
          try clear c64
          try clear c65
          try clear c66
          try clear c67
          try clear c69
          try clear c70
          try clear c71
          try clear c73
          try clear c73b0
          try clear c74
          try clear c75
          try clear c76
          try clear c77
          try clear c79
          try clear c80
          try clear c81
          try clear c83
          try clear c84
          try clear c86
          try clear c86b0
          try clear c86b1
          try clear c86b2
          try clear c87
          try clear c88
          try clear c89
          try clear c90
          try clear c92
          try clear c93
          try clear c94
          try clear c96
          try clear c97
          try clear c99
          try clear c100
          try clear c101
          try clear c102
          try clear c103
          try clear c105
          try clear c106
          try clear c107
          try clear c109
          try clear c110
          try clear c112
          try clear c115
          try clear c116
          try clear c117
          try clear c118
          try clear c120
          try clear c121
          try clear c122
          try clear c124
          try clear c125
          try clear c127
          try clear hcz104_0
          try clear hcz104_1
          try clear hcz108_0
          try clear hcz108_1
          try clear hcz108_2
          try clear hcz108_3
          try clear hcz108_4
          try clear hcz111_0
          try clear hcz111_1
          try clear hcz111_2
          try clear hcz111_3
          try clear hcz111_4
          try clear hcz113_0
          try clear hcz113_1
          try clear hcz113_2
          try clear hcz113_3
          try clear hcz113_4
          try clear hcz114_0
          try clear hcz114_1
          try clear hcz114_2
          try clear hcz114_3
          try clear hcz114_4
          try clear hcz119_0
          try clear hcz119_1
          try clear hcz123_0
          try clear hcz123_1
          try clear hcz123_2
          try clear hcz123_3
          try clear hcz123_4
          try clear hcz126_0
          try clear hcz126_1
          try clear hcz126_2
          try clear hcz126_3
          try clear hcz126_4
          try clear hcz128_0
          try clear hcz128_1
          try clear hcz128_2
          try clear hcz128_3
          try clear hcz128_4
          try clear hcz20_0
          try clear hcz20_1
          try clear hcz24_0
          try clear hcz24_1
          try clear hcz24_2
          try clear hcz24_3
          try clear hcz24_4
          try clear hcz25_0
          try clear hcz25_1
          try clear hcz30_0
          try clear hcz30_1
          try clear hcz30_2
          try clear hcz30_3
          try clear hcz30_4
          try clear hcz32_0
          try clear hcz32_1
          try clear hcz34_0
          try clear hcz34_1
          try clear hcz41_0
          try clear hcz41_1
          try clear hcz41_2
          try clear hcz41_3
          try clear hcz41_4
          try clear hcz42_0
          try clear hcz42_1
          try clear hcz49_0
          try clear hcz49_1
          try clear hcz49_2
          try clear hcz49_3
          try clear hcz49_4
          try clear hcz56_0
          try clear hcz56_1
          try clear hcz60_0
          try clear hcz60_1
          try clear hcz60_2
          try clear hcz60_3
          try clear hcz60_4
          try clear hcz63_0
          try clear hcz63_1
          try clear hcz63_2
          try clear hcz63_3
          try clear hcz63_4
          try clear hcz68_0
          try clear hcz68_1
          try clear hcz72_0
          try clear hcz72_1
          try clear hcz72_2
          try clear hcz72_3
          try clear hcz72_4
          try clear hcz78_0
          try clear hcz78_1
          try clear hcz82_0
          try clear hcz82_1
          try clear hcz82_2
          try clear hcz82_3
          try clear hcz82_4
          try clear hcz85_0
          try clear hcz85_1
          try clear hcz85_2
          try clear hcz85_3
          try clear hcz85_4
          try clear hcz91_0
          try clear hcz91_1
          try clear hcz95_0
          try clear hcz95_1
          try clear hcz95_2
          try clear hcz95_3
          try clear hcz95_4
          try clear hcz98_0
          try clear hcz98_1
          try clear hcz98_2
          try clear hcz98_3
          try clear hcz98_4
          try clear hfz104_0
          try clear hfz104_1
          try clear hfz108_0
          try clear hfz108_1
          try clear hfz108_2
          try clear hfz108_3
          try clear hfz108_4
          try clear hfz111_0
          try clear hfz111_1
          try clear hfz111_2
          try clear hfz111_3
          try clear hfz111_4
          try clear hfz113_0
          try clear hfz113_1
          try clear hfz113_2
          try clear hfz113_3
          try clear hfz113_4
          try clear hfz114_0
          try clear hfz114_1
          try clear hfz114_2
          try clear hfz114_3
          try clear hfz114_4
          try clear hfz119_0
          try clear hfz119_1
          try clear hfz123_0
          try clear hfz123_1
          try clear hfz123_2
          try clear hfz123_3
          try clear hfz123_4
          try clear hfz126_0
          try clear hfz126_1
          try clear hfz126_2
          try clear hfz126_3
          try clear hfz126_4
          try clear hfz128_0
          try clear hfz128_1
          try clear hfz128_2
          try clear hfz128_3
          try clear hfz128_4
          try clear hfz20_0
          try clear hfz20_1
          try clear hfz24_0
          try clear hfz24_1
          try clear hfz24_2
          try clear hfz24_3
          try clear hfz24_4
          try clear hfz25_0
          try clear hfz25_1
          try clear hfz30_0
          try clear hfz30_1
          try clear hfz30_2
          try clear hfz30_3
          try clear hfz30_4
          try clear hfz32_0
          try clear hfz32_1
          try clear hfz34_0
          try clear hfz34_1
          try clear hfz41_0
          try clear hfz41_1
          try clear hfz41_2
          try clear hfz41_3
          try clear hfz41_4
          try clear hfz42_0
          try clear hfz42_1
          try clear hfz49_0
          try clear hfz49_1
          try clear hfz49_2
          try clear hfz49_3
          try clear hfz49_4
          try clear hfz56_0
          try clear hfz56_1
          try clear hfz60_0
          try clear hfz60_1
          try clear hfz60_2
          try clear hfz60_3
          try clear hfz60_4
          try clear hfz63_0
          try clear hfz63_1
          try clear hfz63_2
          try clear hfz63_3
          try clear hfz63_4
          try clear hfz68_0
          try clear hfz68_1
          try clear hfz72_0
          try clear hfz72_1
          try clear hfz72_2
          try clear hfz72_3
          try clear hfz72_4
          try clear hfz78_0
          try clear hfz78_1
          try clear hfz82_0
          try clear hfz82_1
          try clear hfz82_2
          try clear hfz82_3
          try clear hfz82_4
          try clear hfz85_0
          try clear hfz85_1
          try clear hfz85_2
          try clear hfz85_3
          try clear hfz85_4
          try clear hfz91_0
          try clear hfz91_1
          try clear hfz95_0
          try clear hfz95_1
          try clear hfz95_2
          try clear hfz95_3
          try clear hfz95_4
          try clear hfz98_0
          try clear hfz98_1
          try clear hfz98_2
          try clear hfz98_3
          try clear hfz98_4
          try clear p2
          obtain ⟨kq, x90_18, rfl, HA, HJ18, BK329, BK340, BK347, BK358, BK365, HB⟩ := hcut
          cases kq with
          | zero => exact absurd HA.out (by simp [jobshelllaw15_VarsKeeps.j1])
          | succ kj18 =>
            have H := HA.out
            clear HA
            simp only [jobshelllaw15_VarsKeeps.j1] at H
            by_cases c129 : x90_18 = true
            · subst c129
              have H1 : (some false) = some r := by rw [if_pos rfl] at H; exact H
              clear H
              have H := H1
              clear H1
              obtain rfl := Option.some.inj H
              go_wp2
              go_ret
              exact ⟨by first | rfl | (simp [errW_none, errW_some] <;> rfl) | (simp [*, errW_none, errW_some] <;> rfl), by repeat (first | (with_reducible first | exact HB.out | apply below_alloc | apply pw_below_drewN | apply below_drew1 | refine below_set ?_ GE329.out | refine below_set ?_ GE340.out | refine below_set ?_ GE347.out | refine below_set ?_ GE358.out | refine below_set ?_ GE365.out) | exact HB.out)⟩
            · replace c129 := Bool.eq_false_iff.mpr c129
              subst c129
              have H1 : (if t351 = 0 then (if t364 = true then (if (!(t359.toList == a1_0.toList) || (!(t360.toList == a2.toList) || (!t361 || (!(t362 == t344) || (t363))))) = true then (some false) else ((jobshelllaw15_awake.f).bind fun t366 => (some t366))) else (some false)) else ((jobshelllaw15_awake.f).bind fun t367 => (some t367))) = some r := by rw [if_neg (show ¬ (false = true) by decide)] at H; exact H
              clear H
              have H := H1
              clear H1
              by_cases c130 : t351 = 0
              · rw [if_pos c130] at H
                have c130b0 : (t351 == 0) = true := beq_iff_eq.mpr c130
                have c130b1 : (t351 != 0) = false := bne_eq_false_iff_eq.mpr c130
                clear c130
                by_cases c131 : t364 = true
                · subst c131
                  have H1 : (if (!(t359.toList == a1_0.toList) || (!(t360.toList == a2.toList) || (!t361 || (!(t362 == t344) || (t363))))) = true then (some false) else ((jobshelllaw15_awake.f).bind fun t366 => (some t366))) = some r := by rw [if_pos rfl] at H; exact H
                  clear H
                  have H := H1
                  clear H1
                  by_cases c132 : (!(t359.toList == a1_0.toList) || (!(t360.toList == a2.toList) || (!t361 || (!(t362 == t344) || (t363))))) = true
                  · rw [if_pos c132] at H
                    have c132b0 : (!(t359.toList == a1_0.toList) || (!(t360.toList == a2.toList) || (!t361 || (!(t362 == t344) || (t363))))) = true := c132
                    clear c132
                    obtain rfl := Option.some.inj H
                    have hnb133 := NB365_329.out
                    have hnc133 := NB329_365.out
                    have hnb134 := NB365_340.out
                    have hnc134 := NB340_365.out
                    have hnb135 := NB365_347.out
                    have hnc135 := NB347_365.out
                    have hnb136 := NB365_358.out
                    have hnc136 := NB358_365.out
                    have hcz137_0 : wc.cell? ⟨gb365, 0, none⟩ = some (.string t359) := (blk_cell BK365.out 0).trans rfl
                    have hcz137_1 : wc.cell? ⟨gb365, 1, none⟩ = some (.string t360) := (blk_cell BK365.out 1).trans rfl
                    have hcz137_2 : wc.cell? ⟨gb365, 2, none⟩ = some (.bool t361) := (blk_cell BK365.out 2).trans rfl
                    have hcz137_3 : wc.cell? ⟨gb365, 3, none⟩ = some (.bool t362) := (blk_cell BK365.out 3).trans rfl
                    have hcz137_4 : wc.cell? ⟨gb365, 4, none⟩ = some (.bool t363) := (blk_cell BK365.out 4).trans rfl
                    have hfz137_0 := blk_frozen BK365.out 0
                    have hfz137_1 := blk_frozen BK365.out 1
                    have hfz137_2 := blk_frozen BK365.out 2
                    have hfz137_3 := blk_frozen BK365.out 3
                    have hfz137_4 := blk_frozen BK365.out 4
                    have hnb138 := NB329_340.out
                    have hnc138 := NB340_329.out
                    have hnb139 := NB329_347.out
                    have hnc139 := NB347_329.out
                    have hnb140 := NB329_358.out
                    have hnc140 := NB358_329.out
                    have hcz141_0 : wc.cell? ⟨gb329, 0, none⟩ = some (.string a1_0) := (blk_cell BK329.out 0).trans rfl
                    have hcz141_1 : wc.cell? ⟨gb329, 1, none⟩ = some (.string a1_1) := (blk_cell BK329.out 1).trans rfl
                    have hfz141_0 := blk_frozen BK329.out 0
                    have hfz141_1 := blk_frozen BK329.out 1
                    have hnb142 := NB347_340.out
                    have hnc142 := NB340_347.out
                    have hnb143 := NB347_358.out
                    have hnc143 := NB358_347.out
                    have hcz144_0 : wc.cell? ⟨gb347, 0, none⟩ = some (.string t341) := (blk_cell BK347.out 0).trans rfl
                    have hcz144_1 : wc.cell? ⟨gb347, 1, none⟩ = some (.string t342) := (blk_cell BK347.out 1).trans rfl
                    have hcz144_2 : wc.cell? ⟨gb347, 2, none⟩ = some (.bool t343) := (blk_cell BK347.out 2).trans rfl
                    have hcz144_3 : wc.cell? ⟨gb347, 3, none⟩ = some (.bool t344) := (blk_cell BK347.out 3).trans rfl
                    have hcz144_4 : wc.cell? ⟨gb347, 4, none⟩ = some (.bool t345) := (blk_cell BK347.out 4).trans rfl
                    have hfz144_0 := blk_frozen BK347.out 0
                    have hfz144_1 := blk_frozen BK347.out 1
                    have hfz144_2 := blk_frozen BK347.out 2
                    have hfz144_3 := blk_frozen BK347.out 3
                    have hfz144_4 := blk_frozen BK347.out 4
                    go_wp2
                    go_ret
                    exact ⟨by first | rfl | (simp [errW_none, errW_some] <;> rfl) | (simp [*, errW_none, errW_some] <;> rfl), by repeat (first | (with_reducible first | exact HB.out | apply below_alloc | apply pw_below_drewN | apply below_drew1 | refine below_set ?_ GE329.out | refine below_set ?_ GE340.out | refine below_set ?_ GE347.out | refine below_set ?_ GE358.out | refine below_set ?_ GE365.out) | exact HB.out)⟩
                  · rw [if_neg c132] at H
                    have c132b0 : (!(t359.toList == a1_0.toList) || (!(t360.toList == a2.toList) || (!t361 || (!(t362 == t344) || (t363))))) = false := by simpa using c132
                    clear c132
                    replace H := Option.bind_eq_some_iff.mp H
                    obtain ⟨t366, A1450, H⟩ := H
                    replace H : (some t366) = some r := H
                    have A145 := Aside0.mk A1450
                    clear A1450
                    obtain rfl := Option.some.inj H
                    have hnb146 := NB365_329.out
                    have hnc146 := NB329_365.out
                    have hnb147 := NB365_340.out
                    have hnc147 := NB340_365.out
                    have hnb148 := NB365_347.out
                    have hnc148 := NB347_365.out
                    have hnb149 := NB365_358.out
                    have hnc149 := NB358_365.out
                    have hcz150_0 : wc.cell? ⟨gb365, 0, none⟩ = some (.string t359) := (blk_cell BK365.out 0).trans rfl
                    have hcz150_1 : wc.cell? ⟨gb365, 1, none⟩ = some (.string t360) := (blk_cell BK365.out 1).trans rfl
                    have hcz150_2 : wc.cell? ⟨gb365, 2, none⟩ = some (.bool t361) := (blk_cell BK365.out 2).trans rfl
                    have hcz150_3 : wc.cell? ⟨gb365, 3, none⟩ = some (.bool t362) := (blk_cell BK365.out 3).trans rfl
                    have hcz150_4 : wc.cell? ⟨gb365, 4, none⟩ = some (.bool t363) := (blk_cell BK365.out 4).trans rfl
                    have hfz150_0 := blk_frozen BK365.out 0
                    have hfz150_1 := blk_frozen BK365.out 1
                    have hfz150_2 := blk_frozen BK365.out 2
                    have hfz150_3 := blk_frozen BK365.out 3
                    have hfz150_4 := blk_frozen BK365.out 4
                    have hnb151 := NB329_340.out
                    have hnc151 := NB340_329.out
                    have hnb152 := NB329_347.out
                    have hnc152 := NB347_329.out
                    have hnb153 := NB329_358.out
                    have hnc153 := NB358_329.out
                    have hcz154_0 : wc.cell? ⟨gb329, 0, none⟩ = some (.string a1_0) := (blk_cell BK329.out 0).trans rfl
                    have hcz154_1 : wc.cell? ⟨gb329, 1, none⟩ = some (.string a1_1) := (blk_cell BK329.out 1).trans rfl
                    have hfz154_0 := blk_frozen BK329.out 0
                    have hfz154_1 := blk_frozen BK329.out 1
                    have hnb155 := NB347_340.out
                    have hnc155 := NB340_347.out
                    have hnb156 := NB347_358.out
                    have hnc156 := NB358_347.out
                    have hcz157_0 : wc.cell? ⟨gb347, 0, none⟩ = some (.string t341) := (blk_cell BK347.out 0).trans rfl
                    have hcz157_1 : wc.cell? ⟨gb347, 1, none⟩ = some (.string t342) := (blk_cell BK347.out 1).trans rfl
                    have hcz157_2 : wc.cell? ⟨gb347, 2, none⟩ = some (.bool t343) := (blk_cell BK347.out 2).trans rfl
                    have hcz157_3 : wc.cell? ⟨gb347, 3, none⟩ = some (.bool t344) := (blk_cell BK347.out 3).trans rfl
                    have hcz157_4 : wc.cell? ⟨gb347, 4, none⟩ = some (.bool t345) := (blk_cell BK347.out 4).trans rfl
                    have hfz157_0 := blk_frozen BK347.out 0
                    have hfz157_1 := blk_frozen BK347.out 1
                    have hfz157_2 := blk_frozen BK347.out 2
                    have hfz157_3 := blk_frozen BK347.out 3
                    have hfz157_4 := blk_frozen BK347.out 4
                    go_wp2_with (first | ((with_reducible refine gate_callee (f := 11) rfl ?_); refine goesL_ (some 107) rfl rfl Try.func11 (by kernel_rfl) rfl #[] rfl (by (try simp only [List.map_toArray, List.map_cons, List.map_nil]); first | done | rfl | (simp only [List.length_drop, List.length_take]; rfl)) ?_; (with_reducible refine (jobshelllaw15_awake.calls  t366 _ A145.out).mono ?_); rintro e w158 ⟨rfl, hb⟩; refine ⟨_, rfl, ?_⟩; have n0_ := Aside0.mk (blk_below (g := gb329) (o := .cells #[.string a1_0, .string a1_1] 51 (0, 0)) (by (with_reducible repeat (first | refine blk_drewN ?_ _ | refine blk_drew ?_ | refine blk_alloc ?_ _)); exact BK329.out) hb); have n1_ := Aside0.mk (blk_below (g := gb340) (o := .cells #[.string t334, .string t335, .bool t336, .bool t337, .bool t338] 26 (0, 0)) (by (with_reducible repeat (first | refine blk_drewN ?_ _ | refine blk_drew ?_ | refine blk_alloc ?_ _)); exact BK340.out) hb); have n2_ := Aside0.mk (blk_below (g := gb347) (o := .cells #[.string t341, .string t342, .bool t343, .bool t344, .bool t345] 26 (0, 0)) (by (with_reducible repeat (first | refine blk_drewN ?_ _ | refine blk_drew ?_ | refine blk_alloc ?_ _)); exact BK347.out) hb); have n3_ := Aside0.mk (blk_below (g := gb358) (o := .cells #[.string t352, .string t353, .bool t354, .bool t355, .bool t356] 26 (0, 0)) (by (with_reducible repeat (first | refine blk_drewN ?_ _ | refine blk_drew ?_ | refine blk_alloc ?_ _)); exact BK358.out) hb); have n4_ := Aside0.mk (blk_below (g := gb365) (o := .cells #[.string t359, .string t360, .bool t361, .bool t362, .bool t363] 26 (0, 0)) (by (with_reducible repeat (first | refine blk_drewN ?_ _ | refine blk_drew ?_ | refine blk_alloc ?_ _)); exact BK365.out) hb); have n5_ := Aside0.mk (below_step (by repeat (first | (with_reducible first | exact HB.out | apply below_alloc | apply pw_below_drewN | apply below_drew1 | refine below_set ?_ GE329.out | refine below_set ?_ GE340.out | refine below_set ?_ GE347.out | refine below_set ?_ GE358.out | refine below_set ?_ GE365.out) | exact HB.out)) hb); clear BK329; clear BK340; clear BK347; clear BK358; clear BK365; clear HB; have BK329 := n0_; have BK340 := n1_; have BK347 := n2_; have BK358 := n3_; have BK365 := n4_; have HB := n5_; clear n0_ n1_ n2_ n3_ n4_ n5_; (try clear hb); (try clear hb2); (try clear hk); (try clear hi)))
                    go_ret
                    exact ⟨by first | rfl | (simp [errW_none, errW_some] <;> rfl) | (simp [*, errW_none, errW_some] <;> rfl), by repeat (first | (with_reducible first | exact HB.out | apply below_alloc | apply pw_below_drewN | apply below_drew1 | refine below_set ?_ GE329.out | refine below_set ?_ GE340.out | refine below_set ?_ GE347.out | refine below_set ?_ GE358.out | refine below_set ?_ GE365.out) | exact HB.out)⟩
                · replace c131 := Bool.eq_false_iff.mpr c131
                  subst c131
                  have H1 : (some false) = some r := by rw [if_neg (show ¬ (false = true) by decide)] at H; exact H
                  clear H
                  have H := H1
                  clear H1
                  obtain rfl := Option.some.inj H
                  go_wp2
                  go_ret
                  exact ⟨by first | rfl | (simp [errW_none, errW_some] <;> rfl) | (simp [*, errW_none, errW_some] <;> rfl), by repeat (first | (with_reducible first | exact HB.out | apply below_alloc | apply pw_below_drewN | apply below_drew1 | refine below_set ?_ GE329.out | refine below_set ?_ GE340.out | refine below_set ?_ GE347.out | refine below_set ?_ GE358.out | refine below_set ?_ GE365.out) | exact HB.out)⟩
              · rw [if_neg c130] at H
                have c130b0 : (t351 == 0) = false := beq_eq_false_iff_ne.mpr c130
                have c130b1 : (t351 != 0) = true := bne_iff_ne.mpr c130
                replace H := Option.bind_eq_some_iff.mp H
                obtain ⟨t367, A1590, H⟩ := H
                replace H : (some t367) = some r := H
                have A159 := Aside0.mk A1590
                clear A1590
                obtain rfl := Option.some.inj H
                go_wp2_with (first | ((with_reducible refine gate_callee (f := 11) rfl ?_); refine goesL_ (some 107) rfl rfl Try.func11 (by kernel_rfl) rfl #[] rfl (by (try simp only [List.map_toArray, List.map_cons, List.map_nil]); first | done | rfl | (simp only [List.length_drop, List.length_take]; rfl)) ?_; (with_reducible refine (jobshelllaw15_awake.calls  t367 _ A159.out).mono ?_); rintro e w160 ⟨rfl, hb⟩; refine ⟨_, rfl, ?_⟩; have n0_ := Aside0.mk (blk_below (g := gb329) (o := .cells #[.string a1_0, .string a1_1] 51 (0, 0)) (by (with_reducible repeat (first | refine blk_drewN ?_ _ | refine blk_drew ?_ | refine blk_alloc ?_ _)); exact BK329.out) hb); have n1_ := Aside0.mk (blk_below (g := gb340) (o := .cells #[.string t334, .string t335, .bool t336, .bool t337, .bool t338] 26 (0, 0)) (by (with_reducible repeat (first | refine blk_drewN ?_ _ | refine blk_drew ?_ | refine blk_alloc ?_ _)); exact BK340.out) hb); have n2_ := Aside0.mk (blk_below (g := gb347) (o := .cells #[.string t341, .string t342, .bool t343, .bool t344, .bool t345] 26 (0, 0)) (by (with_reducible repeat (first | refine blk_drewN ?_ _ | refine blk_drew ?_ | refine blk_alloc ?_ _)); exact BK347.out) hb); have n3_ := Aside0.mk (blk_below (g := gb358) (o := .cells #[.string t352, .string t353, .bool t354, .bool t355, .bool t356] 26 (0, 0)) (by (with_reducible repeat (first | refine blk_drewN ?_ _ | refine blk_drew ?_ | refine blk_alloc ?_ _)); exact BK358.out) hb); have n4_ := Aside0.mk (blk_below (g := gb365) (o := .cells #[.string t359, .string t360, .bool t361, .bool t362, .bool t363] 26 (0, 0)) (by (with_reducible repeat (first | refine blk_drewN ?_ _ | refine blk_drew ?_ | refine blk_alloc ?_ _)); exact BK365.out) hb); have n5_ := Aside0.mk (below_step (by repeat (first | (with_reducible first | exact HB.out | apply below_alloc | apply pw_below_drewN | apply below_drew1 | refine below_set ?_ GE329.out | refine below_set ?_ GE340.out | refine below_set ?_ GE347.out | refine below_set ?_ GE358.out | refine below_set ?_ GE365.out) | exact HB.out)) hb); clear BK329; clear BK340; clear BK347; clear BK358; clear BK365; clear HB; have BK329 := n0_; have BK340 := n1_; have BK347 := n2_; have BK358 := n3_; have BK365 := n4_; have HB := n5_; clear n0_ n1_ n2_ n3_ n4_ n5_; (try clear hb); (try clear hb2); (try clear hk); (try clear hi)))
                go_ret
                exact ⟨by first | rfl | (simp [errW_none, errW_some] <;> rfl) | (simp [*, errW_none, errW_some] <;> rfl), by repeat (first | (with_reducible first | exact HB.out | apply below_alloc | apply pw_below_drewN | apply below_drew1 | refine below_set ?_ GE329.out | refine below_set ?_ GE340.out | refine below_set ?_ GE347.out | refine below_set ?_ GE358.out | refine below_set ?_ GE365.out) | exact HB.out)⟩

end Go.Proofs.Ytlcobphakhcmiaa.PAll
