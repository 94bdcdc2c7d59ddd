-- Written for this claim by a program of the session (wip/ext).
import Derived.Test.YtbkhdgfehgfjpaaPAllx0
import Derived.Test.YtbkhdgfehgfjpaaPAllx11
import Derived.Test.YtbkhdgfehgfjpaaPAllx12
import Derived.Test.YtbkhdgfehgfjpaaPAllx14
import Derived.Test.YtbkhdgfehgfjpaaPAllx19
namespace Go.Proofs.Ytbkhdgfehgfjpaa.PAll
open Go.RowKit Go.Proofs.YtbkhdgfehgfjpaaW.PrintWords Go.Proofs.YtbkhdgfehgfjpaaW.PrintLast Go.Proofs.YtbkhdgfehgfjpaaW.PrintMore
attribute [local go_sem] max2_int min2_int max_two min_two max_three min_three max_four min_four   -- for this text's walks alone
set_option linter.unusedVariables false
set_option linter.unusedSimpArgs false

/-! ### jobshellref18_Read: function 21 -/
mutual
def jobshellref18_Read.l0 : Nat → Int → List (S69) → List (S69) → Int → Option (List ByteArray)
  | 0, _, _, _, _ => none
  | k + 1, x2, x7, x8, x9 => if x9 < (x8.length : Int) then (if 0 ≤ x9 then (if ((rd_T69 x8 x9).f2) = 3 then (jobshellref18_Read.l0 k x2 x7 x8 (wrap64 (x9 + 1))) else (if x7.length < 4398046511104 then (jobshellref18_Read.l0 k x2 (x7 ++ [(⟨(rd_T69 x8 x9).f0, (rd_T69 x8 x9).f1, (rd_T69 x8 x9).f2⟩ : S69)]) x8 (wrap64 (x9 + 1))) else (none))) else (none)) else (if x2 < 1 then (some ([] : List ByteArray)) else ((jobshellref18_skip.f k x7 0).bind fun t365 => (jobshellref18_Read.l1 k x2 x7 ([] : List ByteArray) t365 0)))
def jobshellref18_Read.l1 : Nat → Int → List (S69) → List ByteArray → Int → Int → Option (List ByteArray)
  | 0, _, _, _, _, _ => none
  | k + 1, x2, x7, x10, x11, x12 => if x12 < (wrap64 (x2 - 1)) then (jobshellref18_Read.l2 k x2 x7 x10 x11 x12 x11) else (if 0 ≤ x11 then (if x11 ≤ (x7.length : Int) then ((some (x7.drop (x11 : Int).toNat : List (S69))).bind fun y378 => ((jobshellref18_divide.f k y378).bind fun t381 => (if (t381.length : Int) = 1 then (if 0 < (t381.length : Int) then ((jobshellref18_text.f k (rd_L9 t381 0)).bind fun t385 => (if x10.length < 8796093022208 then (some (x10 ++ [t385])) else (none))) else (none)) else (jobshellref18_Read.l3 k x10 y378)))) else (none)) else (none))
def jobshellref18_Read.j3 : Nat → Int → List (S69) → List ByteArray → Int → Int → Int → Option (List ByteArray)
  | 0, _, _, _, _, _, _ => none
  | k + 1, x2, x7, x10, x11, x12, x13 => if 0 ≤ x11 then (if x11 ≤ x13 then (if x13 ≤ (x7.length : Int) then ((jobshellref18_text.f k ((x7.take (x13 : Int).toNat).drop (x11 : Int).toNat)).bind fun t371 => (if x10.length < 8796093022208 then ((some (x10 ++ [t371] : List ByteArray)).bind fun y372 => ((jobshellref18_skip.f k x7 x13).bind fun t375 => (if t375 < (x7.length : Int) then (if 0 ≤ t375 then (if ((rd_T69 x7 t375).f2) = 2 then ((jobshellref18_skip.f k x7 (wrap64 (t375 + 1))).bind fun t377 => (jobshellref18_Read.l1 k x2 x7 y372 t377 (wrap64 (x12 + 1)))) else (jobshellref18_Read.l1 k x2 x7 y372 t375 (wrap64 (x12 + 1)))) else (none)) else (jobshellref18_Read.l1 k x2 x7 y372 t375 (wrap64 (x12 + 1)))))) else (none))) else (none)) else (none)) else (none)
def jobshellref18_Read.l2 : Nat → Int → List (S69) → List ByteArray → Int → Int → Int → Option (List ByteArray)
  | 0, _, _, _, _, _, _ => none
  | k + 1, x2, x7, x10, x11, x12, x13 => if x13 < (x7.length : Int) then (if 0 ≤ x13 then (if ((rd_T69 x7 x13).f2) = 0 then (jobshellref18_Read.l2 k x2 x7 x10 x11 x12 (wrap64 (x13 + 1))) else (jobshellref18_Read.j3 k x2 x7 x10 x11 x12 x13)) else (none)) else (jobshellref18_Read.j3 k x2 x7 x10 x11 x12 x13)
def jobshellref18_Read.l3 : Nat → List ByteArray → List (S69) → Option (List ByteArray)
  | 0, _, _ => none
  | k + 1, x10, x14 => if (x14.length : Int) > 0 then (if 0 ≤ (wrap64 ((x14.length : Int) - 1)) then (if (wrap64 ((x14.length : Int) - 1)) < (x14.length : Int) then (if ((rd_T69 x14 (wrap64 ((x14.length : Int) - 1))).f2) = 1 then (if (wrap64 ((x14.length : Int) - 1)) ≤ (x14.length : Int) then (jobshellref18_Read.l3 k x10 (x14.take ((wrap64 ((x14.length : Int) - 1)) : Int).toNat)) else (none)) else ((jobshellref18_text.f k x14).bind fun t393 => (if x10.length < 8796093022208 then (some (x10 ++ [t393])) else (none)))) else (none)) else (none)) else ((jobshellref18_text.f k x14).bind fun t397 => (if x10.length < 8796093022208 then (some (x10 ++ [t397])) else (none)))
end
def jobshellref18_Read.f (k : Nat) (l0 : List (S38)) (a1 : ByteArray) (a2 : Int) : Option (List ByteArray) := (jobshellref18_elements.f k l0 a1).bind fun t357 => (jobshellref18_Read.l0 k a2 ([] : List (S69)) t357 0)
theorem jobshellref18_Read.mono_l : ∀ k, (∀ y0 y1 y2 y3, LeO (jobshellref18_Read.l0 k y0 y1 y2 y3) (jobshellref18_Read.l0 (k + 1) y0 y1 y2 y3)) ∧ (∀ y0 y1 y2 y3 y4, LeO (jobshellref18_Read.l1 k y0 y1 y2 y3 y4) (jobshellref18_Read.l1 (k + 1) y0 y1 y2 y3 y4)) ∧ (∀ y0 y1 y2 y3 y4 y5, LeO (jobshellref18_Read.j3 k y0 y1 y2 y3 y4 y5) (jobshellref18_Read.j3 (k + 1) y0 y1 y2 y3 y4 y5)) ∧ (∀ y0 y1 y2 y3 y4 y5, LeO (jobshellref18_Read.l2 k y0 y1 y2 y3 y4 y5) (jobshellref18_Read.l2 (k + 1) y0 y1 y2 y3 y4 y5)) ∧ (∀ y0 y1, LeO (jobshellref18_Read.l3 k y0 y1) (jobshellref18_Read.l3 (k + 1) y0 y1))
  | 0 => ⟨fun _ _ _ _ r h => by simp [jobshellref18_Read.l0] at h, fun _ _ _ _ _ r h => by simp [jobshellref18_Read.l1] at h, fun _ _ _ _ _ _ r h => by simp [jobshellref18_Read.j3] at h, fun _ _ _ _ _ _ r h => by simp [jobshellref18_Read.l2] at h, fun _ _ r h => by simp [jobshellref18_Read.l3] at h⟩
  | k + 1 => by
    obtain ⟨ih0, ih1, ih2, ih3, ih4⟩ := jobshellref18_Read.mono_l k
    refine ⟨?_, ?_, ?_, ?_, ?_⟩
    · intro y0 y1 y2 y3
      unfold jobshellref18_Read.l0
      repeat' first
      | (with_reducible exact ih0 _ _ _ _)
      | (with_reducible exact ih1 _ _ _ _ _)
      | (with_reducible exact ih2 _ _ _ _ _ _)
      | (with_reducible exact ih3 _ _ _ _ _ _)
      | (with_reducible exact ih4 _ _)
      | (with_reducible exact jobshellref18_divide.mono _ _)
      | (with_reducible exact jobshellref18_elements.mono _ _ _)
      | (with_reducible exact jobshellref18_skip.mono _ _ _)
      | (with_reducible exact jobshellref18_text.mono _ _)
      | (with_reducible exact LeO.refl _)
      | (with_reducible exact LeO.none _)
      | (with_reducible refine LeO.ite ?_ ?_)
      | (with_reducible refine LeO.bind ?_ (fun _ => ?_))
      | exact ih0 _ _ _ _
      | exact ih1 _ _ _ _ _
      | exact ih2 _ _ _ _ _ _
      | exact ih3 _ _ _ _ _ _
      | exact ih4 _ _
      | exact jobshellref18_divide.mono _ _
      | exact jobshellref18_elements.mono _ _ _
      | exact jobshellref18_skip.mono _ _ _
      | exact jobshellref18_text.mono _ _
      | exact LeO.none _
      | refine LeO.ite ?_ ?_
      | refine LeO.bind ?_ (fun _ => ?_)
    · intro y0 y1 y2 y3 y4
      unfold jobshellref18_Read.l1
      repeat' first
      | (with_reducible exact ih0 _ _ _ _)
      | (with_reducible exact ih1 _ _ _ _ _)
      | (with_reducible exact ih2 _ _ _ _ _ _)
      | (with_reducible exact ih3 _ _ _ _ _ _)
      | (with_reducible exact ih4 _ _)
      | (with_reducible exact jobshellref18_divide.mono _ _)
      | (with_reducible exact jobshellref18_elements.mono _ _ _)
      | (with_reducible exact jobshellref18_skip.mono _ _ _)
      | (with_reducible exact jobshellref18_text.mono _ _)
      | (with_reducible exact LeO.refl _)
      | (with_reducible exact LeO.none _)
      | (with_reducible refine LeO.ite ?_ ?_)
      | (with_reducible refine LeO.bind ?_ (fun _ => ?_))
      | exact ih0 _ _ _ _
      | exact ih1 _ _ _ _ _
      | exact ih2 _ _ _ _ _ _
      | exact ih3 _ _ _ _ _ _
      | exact ih4 _ _
      | exact jobshellref18_divide.mono _ _
      | exact jobshellref18_elements.mono _ _ _
      | exact jobshellref18_skip.mono _ _ _
      | exact jobshellref18_text.mono _ _
      | exact LeO.none _
      | refine LeO.ite ?_ ?_
      | refine LeO.bind ?_ (fun _ => ?_)
    · intro y0 y1 y2 y3 y4 y5
      unfold jobshellref18_Read.j3
      repeat' first
      | (with_reducible exact ih0 _ _ _ _)
      | (with_reducible exact ih1 _ _ _ _ _)
      | (with_reducible exact ih2 _ _ _ _ _ _)
      | (with_reducible exact ih3 _ _ _ _ _ _)
      | (with_reducible exact ih4 _ _)
      | (with_reducible exact jobshellref18_divide.mono _ _)
      | (with_reducible exact jobshellref18_elements.mono _ _ _)
      | (with_reducible exact jobshellref18_skip.mono _ _ _)
      | (with_reducible exact jobshellref18_text.mono _ _)
      | (with_reducible exact LeO.refl _)
      | (with_reducible exact LeO.none _)
      | (with_reducible refine LeO.ite ?_ ?_)
      | (with_reducible refine LeO.bind ?_ (fun _ => ?_))
      | exact ih0 _ _ _ _
      | exact ih1 _ _ _ _ _
      | exact ih2 _ _ _ _ _ _
      | exact ih3 _ _ _ _ _ _
      | exact ih4 _ _
      | exact jobshellref18_divide.mono _ _
      | exact jobshellref18_elements.mono _ _ _
      | exact jobshellref18_skip.mono _ _ _
      | exact jobshellref18_text.mono _ _
      | exact LeO.none _
      | refine LeO.ite ?_ ?_
      | refine LeO.bind ?_ (fun _ => ?_)
    · intro y0 y1 y2 y3 y4 y5
      unfold jobshellref18_Read.l2
      repeat' first
      | (with_reducible exact ih0 _ _ _ _)
      | (with_reducible exact ih1 _ _ _ _ _)
      | (with_reducible exact ih2 _ _ _ _ _ _)
      | (with_reducible exact ih3 _ _ _ _ _ _)
      | (with_reducible exact ih4 _ _)
      | (with_reducible exact jobshellref18_divide.mono _ _)
      | (with_reducible exact jobshellref18_elements.mono _ _ _)
      | (with_reducible exact jobshellref18_skip.mono _ _ _)
      | (with_reducible exact jobshellref18_text.mono _ _)
      | (with_reducible exact LeO.refl _)
      | (with_reducible exact LeO.none _)
      | (with_reducible refine LeO.ite ?_ ?_)
      | (with_reducible refine LeO.bind ?_ (fun _ => ?_))
      | exact ih0 _ _ _ _
      | exact ih1 _ _ _ _ _
      | exact ih2 _ _ _ _ _ _
      | exact ih3 _ _ _ _ _ _
      | exact ih4 _ _
      | exact jobshellref18_divide.mono _ _
      | exact jobshellref18_elements.mono _ _ _
      | exact jobshellref18_skip.mono _ _ _
      | exact jobshellref18_text.mono _ _
      | exact LeO.none _
      | refine LeO.ite ?_ ?_
      | refine LeO.bind ?_ (fun _ => ?_)
    · intro y0 y1
      unfold jobshellref18_Read.l3
      repeat' first
      | (with_reducible exact ih0 _ _ _ _)
      | (with_reducible exact ih1 _ _ _ _ _)
      | (with_reducible exact ih2 _ _ _ _ _ _)
      | (with_reducible exact ih3 _ _ _ _ _ _)
      | (with_reducible exact ih4 _ _)
      | (with_reducible exact jobshellref18_divide.mono _ _)
      | (with_reducible exact jobshellref18_elements.mono _ _ _)
      | (with_reducible exact jobshellref18_skip.mono _ _ _)
      | (with_reducible exact jobshellref18_text.mono _ _)
      | (with_reducible exact LeO.refl _)
      | (with_reducible exact LeO.none _)
      | (with_reducible refine LeO.ite ?_ ?_)
      | (with_reducible refine LeO.bind ?_ (fun _ => ?_))
      | exact ih0 _ _ _ _
      | exact ih1 _ _ _ _ _
      | exact ih2 _ _ _ _ _ _
      | exact ih3 _ _ _ _ _ _
      | exact ih4 _ _
      | exact jobshellref18_divide.mono _ _
      | exact jobshellref18_elements.mono _ _ _
      | exact jobshellref18_skip.mono _ _ _
      | exact jobshellref18_text.mono _ _
      | exact LeO.none _
      | refine LeO.ite ?_ ?_
      | refine LeO.bind ?_ (fun _ => ?_)
theorem jobshellref18_Read.mono : ∀ a0 a1 a2 k, LeO (jobshellref18_Read.f k a0 a1 a2) (jobshellref18_Read.f (k + 1) a0 a1 a2) := by
  intro a0 a1 a2 k
  obtain ⟨ih0, ih1, ih2, ih3, ih4⟩ := jobshellref18_Read.mono_l k
  unfold jobshellref18_Read.f
  repeat' first
      | (with_reducible exact ih0 _ _ _ _)
      | (with_reducible exact ih1 _ _ _ _ _)
      | (with_reducible exact ih2 _ _ _ _ _ _)
      | (with_reducible exact ih3 _ _ _ _ _ _)
      | (with_reducible exact ih4 _ _)
      | (with_reducible exact jobshellref18_divide.mono _ _)
      | (with_reducible exact jobshellref18_elements.mono _ _ _)
      | (with_reducible exact jobshellref18_skip.mono _ _ _)
      | (with_reducible exact jobshellref18_text.mono _ _)
      | (with_reducible exact LeO.refl _)
      | (with_reducible exact LeO.none _)
      | (with_reducible refine LeO.ite ?_ ?_)
      | (with_reducible refine LeO.bind ?_ (fun _ => ?_))
      | exact ih0 _ _ _ _
      | exact ih1 _ _ _ _ _
      | exact ih2 _ _ _ _ _ _
      | exact ih3 _ _ _ _ _ _
      | exact ih4 _ _
      | exact jobshellref18_divide.mono _ _
      | exact jobshellref18_elements.mono _ _ _
      | exact jobshellref18_skip.mono _ _ _
      | exact jobshellref18_text.mono _ _
      | exact LeO.none _
      | refine LeO.ite ?_ ?_
      | refine LeO.bind ?_ (fun _ => ?_)
set_option maxHeartbeats 3000000 in
set_option maxRecDepth 100000 in
theorem jobshellref18_Read.calls (k : Nat) (A0 : Option Addr) (c0 : Nat) (l0 : List (S38)) (a1 : ByteArray) (a2 : Int) (r : List ByteArray) (w : World) (hr0 : Kd.C k38 w A0 l0.length l0) (hc0 : l0.length ≤ c0) (h : jobshellref18_Read.f k l0 a1 a2 = some r) :
    Calls Try.prog 21 #[.slice A0 l0.length c0, .string a1, .int .i64 a2] w fun e w' => ∃ v0_ : Value, e = .returned (v0_) ∧ Kd.R Kd.string 9 w' w.heap.size (fun _ => True) v0_ r ∧ Below w.heap.size w w' := by
  have hu69 := Try.underlying69
  have HR0 := Aside0.mk hr0
  have HC0 := Aside0.mk hc0
  clear hr0 hc0
  have HB := Aside0.mk (Below.refl w.heap.size w)
  have H : ((jobshellref18_elements.f k l0 a1).bind fun t357 => (jobshellref18_Read.l0 k a2 ([] : List (S69)) t357 0)) = some r := h
  clear h
  replace H := Option.bind_eq_some_iff.mp H
  obtain ⟨t357, A40, H⟩ := H
  replace H : (jobshellref18_Read.l0 k a2 ([] : List (S69)) t357 0) = some r := H
  have A4 := Aside0.mk A40
  clear A40
  have H' := Aside0.mk H
  clear H
  go_enter Try.func21, Try.ntmps21
  go_wp2_with (first | ((with_reducible refine gate_callee (f := 30) rfl ?_); refine goesL_ (some 18) rfl rfl Try.func30 (by kernel_rfl) rfl #[.slice A0 l0.length c0, .string a1] rfl (by (try simp only [List.map_toArray, List.map_cons, List.map_nil]); first | done | rfl | (simp only [List.length_drop, List.length_take]; rfl)) ?_; (with_reducible refine (jobshellref18_elements.calls k _ _ l0 a1 t357 _ ?side1 ?side2 A4.out).mono ?_); (case side1 => repeat (first | exact HR0.out | (with_reducible refine Kd.C_alloc ?_ _) | (with_reducible refine Kd.C_drewN ?_ _) | (with_reducible refine Kd.C_drew ?_))); (case side2 => exact HC0.out); rintro e w5 ⟨v358, rfl, ho0, hb⟩; refine ⟨_, rfl, ?_⟩; have n0_ := Aside0.mk (Kd.R_lower ho0 (below_size (by repeat (first | (with_reducible first | exact HB.out | apply below_alloc | apply pw_below_drewN | apply below_drew1) | exact HB.out)))); have n1_ := Aside0.mk (below_step (by repeat (first | (with_reducible first | exact HB.out | apply below_alloc | apply pw_below_drewN | apply below_drew1) | exact HB.out)) hb); clear HB; have HO359 := n0_; have HB := n1_; clear n0_ n1_; (try clear hb); (try clear hb2); (try clear hk); (try clear hi); (try clear ho0)))
  go_loopg [7, 9] k (fun kq v7 v9 w' => ∃ (x7_1 : List (S69)) (x9_1 : Int), v9 = .int .i64 x9_1 ∧ Aside0 (jobshellref18_Read.l0 kq a2 x7_1 t357 x9_1 = some r) ∧ Aside0 (kq ≤ k) ∧ Aside0 (Kd.R k69 69 w' w.heap.size (fun k_ => some k_ ≠ (v358 : Value).ownBlock) v7 x7_1) ∧ Aside0 (Kd.R k69 69 w' w.heap.size (fun k_ => some k_ ≠ (v7 : Value).ownBlock) v358 t357) ∧ Aside0 (Below w.heap.size w w'))
  case atStart => exact ⟨(([] : List (S69))), (0), (by first | rfl | (simp; done) | (simp [*]; done)), H', ⟨Nat.le_refl _⟩, ⟨by first | exact Kd.R_nil _ _ _ _ _ | exact Kd.N_nil _ _ _ _ _ | exact Kd.V_nil _ _ _ _ _ | exact Kd.Q_nil _ _ _ _ _ | exact Kd.S_nil _ _ _ _ _⟩, ⟨by (with_reducible repeat (first | apply Kd.R_alloc | apply Kd.R_drewN | apply Kd.R_drew)); exact Kd.R_mono HO359.out (fun _ hk => (by simp [Value.ownBlock]))⟩, ⟨by repeat (first | (with_reducible first | exact HB.out | apply below_alloc | apply pw_below_drewN | apply below_drew1) | exact HB.out)⟩⟩
  case round =>
    clear H'
    try clear c2
    try clear p2
    try clear c3
    obtain ⟨x7_1, x9_1, rfl, HA, HK1, HO_7, HO_8, HB⟩ := hrel
    cases gk with
    | zero => exact absurd HA.out (by simp [jobshellref18_Read.l0])
    | succ k1 =>
      have H := HA.out
      clear HA
      simp only [jobshellref18_Read.l0] at H
      by_cases c6 : x9_1 < (t357.length : Int)
      · rw [if_pos c6] at H
        have c6b0 : decide (x9_1 < (t357.length : Int)) = true := decide_eq_true c6
        clear c6
        by_cases c7 : 0 ≤ x9_1
        · rw [if_pos c7] at H
          have c7b0 : decide (0 ≤ x9_1) = true := decide_eq_true c7
          clear c7
          by_cases c8 : ((rd_T69 t357 x9_1).f2) = 3
          · rw [if_pos c8] at H
            have c8b0 : (((rd_T69 t357 x9_1).f2) == 3) = true := beq_iff_eq.mpr c8
            have c8b1 : (((rd_T69 t357 x9_1).f2) != 3) = false := bne_eq_false_iff_eq.mpr c8
            clear c8
            have H' := Aside0.mk H
            clear H
            obtain ⟨Ao9, co9, eo9⟩ := Kd.R_slice HO_8.out
            subst eo9
            have p360 : 0 ≤ (x9_1 : Int) := of_decide_eq_true (by first | (with_reducible assumption) | assumption)
            have q360 : x9_1 < (t357.length : Int) := of_decide_eq_true (by first | (with_reducible assumption) | assumption)
            obtain ⟨ad360, e360, hx360_0, hx360_1, hx360_2⟩ := at_T69 (Kd.R_reads' HO_8.out).2.2 x9_1 p360 q360
            cases e360
            replace p360 := eq_true p360
            replace q360 := eq_true q360
            go_wp2
            go_roundg k1
            case measure => have := HK1.out; omega
            case rel => exact ⟨(x7_1), (wrap64 (x9_1 + 1)), (by first | rfl | (simp; done) | (simp [*]; done)), H', ⟨by have := HK1.out; omega⟩, ⟨by (with_reducible repeat (first | apply Kd.R_alloc | apply Kd.R_drewN | apply Kd.R_drew)); exact HO_7.out⟩, ⟨by (with_reducible repeat (first | apply Kd.R_alloc | apply Kd.R_drewN | apply Kd.R_drew)); exact HO_8.out⟩, ⟨by repeat (first | (with_reducible first | exact HB.out | apply below_alloc | apply pw_below_drewN | apply below_drew1) | exact HB.out)⟩⟩
          · rw [if_neg c8] at H
            have c8b0 : (((rd_T69 t357 x9_1).f2) == 3) = false := beq_eq_false_iff_ne.mpr c8
            have c8b1 : (((rd_T69 t357 x9_1).f2) != 3) = true := bne_iff_ne.mpr c8
            by_cases c10 : x7_1.length < 4398046511104
            · rw [if_pos c10] at H
              have LMc10 := Aside0.mk c10
              clear c10
              obtain ⟨y362, hy362⟩ : ∃ y_ : List (S69), y_ = (x7_1 ++ [(⟨(rd_T69 t357 x9_1).f0, (rd_T69 t357 x9_1).f1, (rd_T69 t357 x9_1).f2⟩ : S69)]) := ⟨_, rfl⟩
              replace H : (jobshellref18_Read.l0 k1 a2 y362 t357 (wrap64 (x9_1 + 1))) = some r := by first | (rw [hy362]; with_reducible exact H) | (have H2_ := (Option.bind_some _ _).symm.trans H; rw [hy362]; with_reducible exact H2_) | (have H2_ := (Option.bind_some _ _).symm.trans H; with_reducible exact H2_) | with_reducible exact H | (rw [hy362]; exact H) | exact H
              have Ny362 := Aside0.mk hy362
              clear hy362
              have H' := Aside0.mk H
              clear H
              obtain ⟨Ao11, co11, eo11⟩ := Kd.R_slice HO_8.out
              subst eo11
              have p360 : 0 ≤ (x9_1 : Int) := of_decide_eq_true (by first | (with_reducible assumption) | assumption)
              have q360 : x9_1 < (t357.length : Int) := of_decide_eq_true (by first | (with_reducible assumption) | assumption)
              obtain ⟨ad360, e360, hx360_0, hx360_1, hx360_2⟩ := at_T69 (Kd.R_reads' HO_8.out).2.2 x9_1 p360 q360
              cases e360
              replace p360 := eq_true p360
              replace q360 := eq_true q360
              have p361 : 0 ≤ (x9_1 : Int) := of_decide_eq_true (by first | (with_reducible assumption) | assumption)
              have q361 : x9_1 < (t357.length : Int) := of_decide_eq_true (by first | (with_reducible assumption) | assumption)
              obtain ⟨ad361, e361, hx361_0, hx361_1, hx361_2⟩ := at_T69 (Kd.R_reads' HO_8.out).2.2 x9_1 p361 q361
              obtain rfl : ad360 = ad361 := (by injection e361)
              replace p361 := eq_true p361
              replace q361 := eq_true q361
              go_wp2_with (first | ((with_reducible refine gate_builtin (b := .append) (xs := #[.tmp 31, .tmp 36]) rfl ?_); (try (refine gate_guard (by rfl) ?_; dsimp only)); at_builtin; refine Kd.R_append k69 (w0 := w) w.heap.size rfl (.tmp 31) (.tmp 36) 51 69 (.agg #[(.string ⟨#[]⟩), (.int .i64 0), (.int .i64 0)]) 32 rfl Try.underlying51 info69 rfl (by decide) (by omega) u7 x7_1 (⟨(rd_T69 t357 x9_1).f0, (rd_T69 t357 x9_1).f1, (rd_T69 t357 x9_1).f2⟩ : S69) [.string ((rd_T69 t357 x9_1).f0), .int .i64 ((rd_T69 t357 x9_1).f1), .int .i64 ((rd_T69 t357 x9_1).f2)] (fun k_ => some k_ ≠ (.slice (some ad360) t357.length co11 : Value).ownBlock) (fun _ => False) rfl rfl ?aP (fun _ hk => hk.elim) ?aF ?aO ?aB ?aS ?aL ?_; (case aP => exact k69_mkM _ _ _ (⟨(rd_T69 t357 x9_1).f0, (rd_T69 t357 x9_1).f1, (rd_T69 t357 x9_1).f2⟩ : S69)); (case aB => exact (by repeat (first | (with_reducible first | exact HB.out | apply below_alloc | apply pw_below_drewN | apply below_drew1) | exact HB.out))); (case aF => exact (fun k_ hk => Kd.fresh' (Kd.R_lt (by (with_reducible repeat (first | apply Kd.R_alloc | apply Kd.R_drewN | apply Kd.R_drew)); exact HO_8.out)) k_ hk)); (case aO => exact (by (with_reducible repeat (first | apply Kd.R_alloc | apply Kd.R_drewN | apply Kd.R_drew)); exact HO_7.out)); (case aS => exact (below_size (by repeat (first | (with_reducible first | exact HB.out | apply below_alloc | apply pw_below_drewN | apply below_drew1) | exact HB.out)))); (case aL => have := LMc10.out; omega); intro v363 w12 ho hb hg hat; rw [← Ny362.out] at ho; have n0_ := Aside0.mk (Kd.R_after (ok := (fun _ => True)) (by (with_reducible repeat (first | apply Kd.R_alloc | apply Kd.R_drewN | apply Kd.R_drew)); exact Kd.R_mono HO_8.out (fun _ hk => ⟨trivial, hk⟩)) hg hat); have n1_ := Aside0.mk (hb); have n2_ := Aside0.mk (ho); clear HO_8; clear HB; clear HO_7; have HO_8 := n0_; have HB := n1_; have HO364 := n2_; clear n0_ n1_ n2_; clear ho hb hg hat))
              go_roundg k1
              case measure => have := HK1.out; omega
              case rel => exact ⟨(y362), (wrap64 (x9_1 + 1)), (by first | rfl | (simp; done) | (simp [*]; done)), H', ⟨by have := HK1.out; omega⟩, ⟨by (with_reducible repeat (first | apply Kd.R_alloc | apply Kd.R_drewN | apply Kd.R_drew)); exact HO364.out⟩, ⟨by (with_reducible repeat (first | apply Kd.R_alloc | apply Kd.R_drewN | apply Kd.R_drew)); exact Kd.R_mono HO_8.out (fun _ hk => hk.2)⟩, ⟨by repeat (first | (with_reducible first | exact HB.out | apply below_alloc | apply pw_below_drewN | apply below_drew1) | exact HB.out)⟩⟩
            · rw [if_neg c10] at H
              exact absurd H (by simp)
        · rw [if_neg c7] at H
          exact absurd H (by simp)
      · rw [if_neg c6] at H
        have c6b0 : decide (x9_1 < (t357.length : Int)) = false := decide_eq_false c6
        clear c6
        by_cases c13 : a2 < 1
        · rw [if_pos c13] at H
          have c13b0 : decide (a2 < 1) = true := decide_eq_true c13
          clear c13
          obtain rfl := Option.some.inj H
          obtain ⟨Ao14, co14, eo14⟩ := Kd.R_slice HO_8.out
          subst eo14
          go_wp2
          go_ret
          exact ⟨_, by first | rfl | (simp [errW_none, errW_some] <;> rfl) | (simp [*, errW_none, errW_some] <;> rfl), by first | exact Kd.R_nil _ _ _ _ _ | exact Kd.N_nil _ _ _ _ _ | exact Kd.V_nil _ _ _ _ _ | exact Kd.Q_nil _ _ _ _ _ | exact Kd.S_nil _ _ _ _ _, by repeat (first | (with_reducible first | exact HB.out | apply below_alloc | apply pw_below_drewN | apply below_drew1) | exact HB.out)⟩
        · rw [if_neg c13] at H
          have c13b0 : decide (a2 < 1) = false := decide_eq_false c13
          clear c13
          replace H := Option.bind_eq_some_iff.mp H
          obtain ⟨t365, A150, H⟩ := H
          replace H : (jobshellref18_Read.l1 k1 a2 x7_1 ([] : List ByteArray) t365 0) = some r := H
          have A15 := Aside0.mk A150
          clear A150
          have H' := Aside0.mk H
          clear H
          obtain ⟨Ao16, co16, eo16⟩ := Kd.R_slice HO_8.out
          subst eo16
          obtain ⟨Ao17, co17, eo17⟩ := Kd.R_slice HO_7.out
          subst eo17
          go_wp2_with (first | ((with_reducible refine gate_callee (f := 38) rfl ?_); refine goesL_ (some 41) rfl rfl Try.func38 (by kernel_rfl) rfl #[.slice Ao17 x7_1.length co17, .int .i64 0] rfl (by (try simp only [List.map_toArray, List.map_cons, List.map_nil]); first | done | rfl | (simp only [List.length_drop, List.length_take]; rfl)) ?_; (with_reducible refine (jobshellref18_skip.calls k1 _ _ x7_1 0 t365 _ ?side1 ?side2 A15.out).mono ?_); (case side1 => repeat (first | exact (Kd.R_reads' HO_7.out).2.2 | (with_reducible refine Kd.C_alloc ?_ _) | (with_reducible refine Kd.C_drewN ?_ _) | (with_reducible refine Kd.C_drew ?_))); (case side2 => exact (Kd.R_reads' HO_7.out).2.1); rintro e w' ⟨rfl, ⟨nd, rfl⟩⟩; refine ⟨_, rfl, ?_⟩))
          go_loopg [10, 11, 12] k1 (fun kq v10 v11 v12 w' => ∃ (x10_2 : List ByteArray) (x11_2 : Int) (x12_2 : Int), v11 = .int .i64 x11_2 ∧ v12 = .int .i64 x12_2 ∧ Aside0 (jobshellref18_Read.l1 kq a2 x7_1 x10_2 x11_2 x12_2 = some r) ∧ Aside0 (kq ≤ k1) ∧ Aside0 (Kd.R k69 69 w' w.heap.size (fun _ => True) (.slice Ao17 x7_1.length co17) x7_1) ∧ Aside0 (Kd.R Kd.string 9 w' w.heap.size (fun _ => True) v10 x10_2) ∧ Aside0 (Below w.heap.size w w'))
          case atStart => exact ⟨(([] : List ByteArray)), (t365), (0), (by first | rfl | (simp; done) | (simp [*]; done)), (by first | rfl | (simp; done) | (simp [*]; done)), H', ⟨Nat.le_refl _⟩, ⟨by (with_reducible repeat (first | apply Kd.R_alloc | apply Kd.R_drewN | apply Kd.R_drew)); exact Kd.R_mono HO_7.out (fun _ hk => trivial)⟩, ⟨by first | exact Kd.R_nil _ _ _ _ _ | exact Kd.N_nil _ _ _ _ _ | exact Kd.V_nil _ _ _ _ _ | exact Kd.Q_nil _ _ _ _ _ | exact Kd.S_nil _ _ _ _ _⟩, ⟨by repeat (first | (with_reducible first | exact HB.out | apply below_alloc | apply pw_below_drewN | apply below_drew1) | exact HB.out)⟩⟩
          case round =>
            clear H'
            try clear c1
            try clear c2
            try clear p2
            try clear c3
            try clear p3
            try clear q3
            try clear hx3
            try clear c6
            try clear c6b0
            try clear p6
            try clear c7
            try clear c7b0
            try clear c8
            try clear c8b0
            try clear c8b1
            try clear c10
            try clear c13
            try clear c13b0
            try clear hx360_0
            try clear hx360_1
            try clear hx360_2
            try clear hx361_0
            try clear hx361_1
            try clear hx361_2
            try clear p2
            try clear p360
            try clear p361
            try clear q360
            try clear q361
            obtain ⟨x10_2, x11_2, x12_2, rfl, rfl, HA, HK2, HO_7, HO_10, HB⟩ := hrel
            cases gk with
            | zero => exact absurd HA.out (by simp [jobshellref18_Read.l1])
            | succ k2 =>
              have H := HA.out
              clear HA
              simp only [jobshellref18_Read.l1] at H
              by_cases c18 : x12_2 < (wrap64 (a2 - 1))
              · rw [if_pos c18] at H
                have c18b0 : decide (x12_2 < (wrap64 (a2 - 1))) = true := decide_eq_true c18
                clear c18
                have HC19 := Aside0.mk H
                clear H
                go_upto_block 4 with (fail)
                go_cut [13] (fun v13 wc => ∃ (kq : Nat) (x13_18 : Int), v13 = .int .i64 x13_18 ∧ Aside0 (jobshellref18_Read.j3 kq a2 x7_1 x10_2 x11_2 x12_2 x13_18 = some r) ∧ Aside0 (kq ≤ k2) ∧ Aside0 (Kd.R k69 69 wc w.heap.size (fun _ => True) (.slice Ao17 x7_1.length co17) x7_1) ∧ Aside0 (Kd.R Kd.string 9 wc w.heap.size (fun _ => True) u10 x10_2) ∧ Aside0 (Below w.heap.size w wc))
                case first =>
                  have H := HC19.out
                  clear HC19
                  have H' := Aside0.mk H
                  clear H
                  go_wp2
                  go_loopg [13] k2 (fun kq v13 w' => ∃ (x13_3 : Int), v13 = .int .i64 x13_3 ∧ Aside0 (jobshellref18_Read.l2 kq a2 x7_1 x10_2 x11_2 x12_2 x13_3 = some r) ∧ Aside0 (kq ≤ k2) ∧ Aside0 (Kd.R k69 69 w' w.heap.size (fun _ => True) (.slice Ao17 x7_1.length co17) x7_1) ∧ Aside0 (Kd.R Kd.string 9 w' w.heap.size (fun _ => True) u10 x10_2) ∧ Aside0 (Below w.heap.size w w'))
                  case atStart => exact ⟨(x11_2), (by first | rfl | (simp; done) | (simp [*]; done)), H', ⟨Nat.le_refl _⟩, ⟨by (with_reducible repeat (first | apply Kd.R_alloc | apply Kd.R_drewN | apply Kd.R_drew)); exact HO_7.out⟩, ⟨by (with_reducible repeat (first | apply Kd.R_alloc | apply Kd.R_drewN | apply Kd.R_drew)); exact HO_10.out⟩, ⟨by repeat (first | (with_reducible first | exact HB.out | apply below_alloc | apply pw_below_drewN | apply below_drew1) | exact HB.out)⟩⟩
                  case round =>
                    clear H'
                    try clear c1
                    try clear c2
                    try clear p2
                    try clear c3
                    try clear p3
                    try clear q3
                    try clear hx3
                    try clear c6
                    try clear c6b0
                    try clear p6
                    try clear c7
                    try clear c7b0
                    try clear c8
                    try clear c8b0
                    try clear c8b1
                    try clear c10
                    try clear c13
                    try clear c13b0
                    try clear c18
                    try clear c18b0
                    try clear hx360_0
                    try clear hx360_1
                    try clear hx360_2
                    try clear hx361_0
                    try clear hx361_1
                    try clear hx361_2
                    try clear p2
                    try clear p3
                    try clear p360
                    try clear p361
                    try clear p6
                    try clear q3
                    try clear q360
                    try clear q361
                    obtain ⟨x13_3, rfl, HA, HK3, HO_7, HO_10, HB⟩ := hrel
                    cases gk with
                    | zero => exact absurd HA.out (by simp [jobshellref18_Read.l2])
                    | succ k3 =>
                      have H := HA.out
                      clear HA
                      simp only [jobshellref18_Read.l2] at H
                      by_cases c20 : x13_3 < (x7_1.length : Int)
                      · rw [if_pos c20] at H
                        have c20b0 : decide (x13_3 < (x7_1.length : Int)) = true := decide_eq_true c20
                        clear c20
                        (first | rw [c20b0] | (simp only [i64_w, i32_w]; rw [c20b0]) | skip)
                        by_cases c21 : 0 ≤ x13_3
                        · rw [if_pos c21] at H
                          have c21b0 : decide (0 ≤ x13_3) = true := decide_eq_true c21
                          clear c21
                          by_cases c22 : ((rd_T69 x7_1 x13_3).f2) = 0
                          · rw [if_pos c22] at H
                            have c22b0 : (((rd_T69 x7_1 x13_3).f2) == 0) = true := beq_iff_eq.mpr c22
                            have c22b1 : (((rd_T69 x7_1 x13_3).f2) != 0) = false := bne_eq_false_iff_eq.mpr c22
                            clear c22
                            have H' := Aside0.mk H
                            clear H
                            have p366 : 0 ≤ (x13_3 : Int) := of_decide_eq_true (by first | (with_reducible assumption) | assumption)
                            have q366 : x13_3 < (x7_1.length : Int) := of_decide_eq_true (by first | (with_reducible assumption) | assumption)
                            obtain ⟨ad366, e366, hx366_0, hx366_1, hx366_2⟩ := at_T69 (Kd.R_reads' HO_7.out).2.2 x13_3 p366 q366
                            cases e366
                            replace p366 := eq_true p366
                            replace q366 := eq_true q366
                            go_wp2
                            go_roundg k3
                            case measure => have := HK1.out; have := HK2.out; have := HK3.out; omega
                            case rel => exact ⟨(wrap64 (x13_3 + 1)), (by first | rfl | (simp; done) | (simp [*]; done)), H', ⟨by have := HK1.out; have := HK2.out; have := HK3.out; omega⟩, ⟨by (with_reducible repeat (first | apply Kd.R_alloc | apply Kd.R_drewN | apply Kd.R_drew)); exact HO_7.out⟩, ⟨by (with_reducible repeat (first | apply Kd.R_alloc | apply Kd.R_drewN | apply Kd.R_drew)); exact HO_10.out⟩, ⟨by repeat (first | (with_reducible first | exact HB.out | apply below_alloc | apply pw_below_drewN | apply below_drew1) | exact HB.out)⟩⟩
                          · rw [if_neg c22] at H
                            have c22b0 : (((rd_T69 x7_1 x13_3).f2) == 0) = false := beq_eq_false_iff_ne.mpr c22
                            have c22b1 : (((rd_T69 x7_1 x13_3).f2) != 0) = true := bne_iff_ne.mpr c22
                            have H' := Aside0.mk H
                            clear H
                            have p366 : 0 ≤ (x13_3 : Int) := of_decide_eq_true (by first | (with_reducible assumption) | assumption)
                            have q366 : x13_3 < (x7_1.length : Int) := of_decide_eq_true (by first | (with_reducible assumption) | assumption)
                            obtain ⟨ad366, e366, hx366_0, hx366_1, hx366_2⟩ := at_T69 (Kd.R_reads' HO_7.out).2.2 x13_3 p366 q366
                            cases e366
                            replace p366 := eq_true p366
                            replace q366 := eq_true q366
                            go_wp2
                            go_meet
                            case rel => exact ⟨_, (x13_3), (by first | rfl | (simp; done) | (simp [*]; done)), H', ⟨by have := HK1.out; have := HK2.out; have := HK3.out; first | omega | exact Nat.le_refl _⟩, ⟨by (with_reducible repeat (first | apply Kd.R_alloc | apply Kd.R_drewN | apply Kd.R_drew)); exact HO_7.out⟩, ⟨by (with_reducible repeat (first | apply Kd.R_alloc | apply Kd.R_drewN | apply Kd.R_drew)); exact HO_10.out⟩, ⟨by repeat (first | (with_reducible first | exact HB.out | apply below_alloc | apply pw_below_drewN | apply below_drew1) | exact HB.out)⟩⟩
                        · rw [if_neg c21] at H
                          exact absurd H (by simp)
                      · rw [if_neg c20] at H
                        have c20b0 : decide (x13_3 < (x7_1.length : Int)) = false := decide_eq_false c20
                        clear c20
                        (first | rw [c20b0] | (simp only [i64_w, i32_w]; rw [c20b0]) | skip)
                        have H' := Aside0.mk H
                        clear H
                        go_wp2
                        go_meet
                        case rel => exact ⟨_, (x13_3), (by first | rfl | (simp; done) | (simp [*]; done)), H', ⟨by have := HK1.out; have := HK2.out; have := HK3.out; first | omega | exact Nat.le_refl _⟩, ⟨by (with_reducible repeat (first | apply Kd.R_alloc | apply Kd.R_drewN | apply Kd.R_drew)); exact HO_7.out⟩, ⟨by (with_reducible repeat (first | apply Kd.R_alloc | apply Kd.R_drewN | apply Kd.R_drew)); exact HO_10.out⟩, ⟨by repeat (first | (with_reducible first | exact HB.out | apply below_alloc | apply pw_below_drewN | apply below_drew1) | exact HB.out)⟩⟩
                case rest =>
                  clear HC19
                  try clear c1
                  try clear c2
                  try clear p2
                  try clear c3
                  try clear p3
                  try clear q3
                  try clear hx3
                  try clear c6
                  try clear c6b0
                  try clear p6
                  try clear c7
                  try clear c7b0
                  try clear c8
                  try clear c8b0
                  try clear c8b1
                  try clear c10
                  try clear c13
                  try clear c13b0
                  try clear c18
                  try clear c18b0
                  try clear c20
                  try clear c20b0
                  try clear c21
                  try clear c21b0
                  try clear c22
                  try clear c22b0
                  try clear c22b1
                  try clear hx360_0
                  try clear hx360_1
                  try clear hx360_2
                  try clear hx361_0
                  try clear hx361_1
                  try clear hx361_2
                  try clear hx366_0
                  try clear hx366_1
                  try clear hx366_2
                  try clear p2
                  try clear p3
                  try clear p360
                  try clear p361
                  try clear p366
                  try clear p6
                  try clear q3
                  try clear q360
                  try clear q361
                  try clear q366
                  obtain ⟨kq, x13_18, rfl, HA, HJ18, HO_7, HO_10, HB⟩ := hcut
                  cases kq with
                  | zero => exact absurd HA.out (by simp [jobshellref18_Read.j3])
                  | succ kj18 =>
                    have H := HA.out
                    clear HA
                    simp only [jobshellref18_Read.j3] at H
                    by_cases c23 : 0 ≤ x11_2
                    · rw [if_pos c23] at H
                      have c23b0 := eq_true c23
                      have c23b1 : decide (0 ≤ x11_2) = true := decide_eq_true c23
                      clear c23
                      by_cases c24 : x11_2 ≤ x13_18
                      · rw [if_pos c24] at H
                        have c24b0 := eq_true c24
                        have c24b1 : decide (x11_2 ≤ x13_18) = true := decide_eq_true c24
                        clear c24
                        by_cases c25 : x13_18 ≤ (x7_1.length : Int)
                        · rw [if_pos c25] at H
                          have c25b0 := eq_true c25
                          have c25b1 : decide (x13_18 ≤ (x7_1.length : Int)) = true := decide_eq_true c25
                          clear c25
                          obtain ⟨y367, hy367⟩ : ∃ y_ : List (S69), y_ = ((x7_1.take (x13_18 : Int).toNat).drop (x11_2 : Int).toNat) := ⟨_, rfl⟩
                          replace H : ((jobshellref18_text.f kj18 y367).bind fun t371 => (if x10_2.length < 8796093022208 then ((some (x10_2 ++ [t371] : List ByteArray)).bind fun y372 => ((jobshellref18_skip.f kj18 x7_1 x13_18).bind fun t375 => (if t375 < (x7_1.length : Int) then (if 0 ≤ t375 then (if ((rd_T69 x7_1 t375).f2) = 2 then ((jobshellref18_skip.f kj18 x7_1 (wrap64 (t375 + 1))).bind fun t377 => (jobshellref18_Read.l1 kj18 a2 x7_1 y372 t377 (wrap64 (x12_2 + 1)))) else (jobshellref18_Read.l1 kj18 a2 x7_1 y372 t375 (wrap64 (x12_2 + 1)))) else (none)) else (jobshellref18_Read.l1 kj18 a2 x7_1 y372 t375 (wrap64 (x12_2 + 1)))))) else (none))) = some r := by first | (rw [hy367]; with_reducible exact H) | (have H2_ := (Option.bind_some _ _).symm.trans H; rw [hy367]; with_reducible exact H2_) | (have H2_ := (Option.bind_some _ _).symm.trans H; with_reducible exact H2_) | with_reducible exact H | (rw [hy367]; exact H) | exact H
                          have Ny367 := Aside0.mk hy367
                          clear hy367
                          replace H := Option.bind_eq_some_iff.mp H
                          obtain ⟨t371, A260, H⟩ := H
                          replace H : (if x10_2.length < 8796093022208 then ((some (x10_2 ++ [t371] : List ByteArray)).bind fun y372 => ((jobshellref18_skip.f kj18 x7_1 x13_18).bind fun t375 => (if t375 < (x7_1.length : Int) then (if 0 ≤ t375 then (if ((rd_T69 x7_1 t375).f2) = 2 then ((jobshellref18_skip.f kj18 x7_1 (wrap64 (t375 + 1))).bind fun t377 => (jobshellref18_Read.l1 kj18 a2 x7_1 y372 t377 (wrap64 (x12_2 + 1)))) else (jobshellref18_Read.l1 kj18 a2 x7_1 y372 t375 (wrap64 (x12_2 + 1)))) else (none)) else (jobshellref18_Read.l1 kj18 a2 x7_1 y372 t375 (wrap64 (x12_2 + 1)))))) else (none)) = some r := H
                          have A26 := Aside0.mk A260
                          clear A260
                          by_cases c27 : x10_2.length < 8796093022208
                          · rw [if_pos c27] at H
                            have LMc27 := Aside0.mk c27
                            clear c27
                            obtain ⟨y372, hy372⟩ : ∃ y_ : List ByteArray, y_ = (x10_2 ++ [t371]) := ⟨_, rfl⟩
                            replace H : ((jobshellref18_skip.f kj18 x7_1 x13_18).bind fun t375 => (if t375 < (x7_1.length : Int) then (if 0 ≤ t375 then (if ((rd_T69 x7_1 t375).f2) = 2 then ((jobshellref18_skip.f kj18 x7_1 (wrap64 (t375 + 1))).bind fun t377 => (jobshellref18_Read.l1 kj18 a2 x7_1 y372 t377 (wrap64 (x12_2 + 1)))) else (jobshellref18_Read.l1 kj18 a2 x7_1 y372 t375 (wrap64 (x12_2 + 1)))) else (none)) else (jobshellref18_Read.l1 kj18 a2 x7_1 y372 t375 (wrap64 (x12_2 + 1))))) = some r := by first | (rw [hy372]; with_reducible exact H) | (have H2_ := (Option.bind_some _ _).symm.trans H; rw [hy372]; with_reducible exact H2_) | (have H2_ := (Option.bind_some _ _).symm.trans H; with_reducible exact H2_) | with_reducible exact H | (rw [hy372]; exact H) | exact H
                            have Ny372 := Aside0.mk hy372
                            clear hy372
                            replace H := Option.bind_eq_some_iff.mp H
                            obtain ⟨t375, A280, H⟩ := H
                            replace H : (if t375 < (x7_1.length : Int) then (if 0 ≤ t375 then (if ((rd_T69 x7_1 t375).f2) = 2 then ((jobshellref18_skip.f kj18 x7_1 (wrap64 (t375 + 1))).bind fun t377 => (jobshellref18_Read.l1 kj18 a2 x7_1 y372 t377 (wrap64 (x12_2 + 1)))) else (jobshellref18_Read.l1 kj18 a2 x7_1 y372 t375 (wrap64 (x12_2 + 1)))) else (none)) else (jobshellref18_Read.l1 kj18 a2 x7_1 y372 t375 (wrap64 (x12_2 + 1)))) = some r := H
                            have A28 := Aside0.mk A280
                            clear A280
                            by_cases c29 : t375 < (x7_1.length : Int)
                            · rw [if_pos c29] at H
                              have c29b0 : decide (t375 < (x7_1.length : Int)) = true := decide_eq_true c29
                              clear c29
                              by_cases c30 : 0 ≤ t375
                              · rw [if_pos c30] at H
                                have c30b0 : decide (0 ≤ t375) = true := decide_eq_true c30
                                clear c30
                                by_cases c31 : ((rd_T69 x7_1 t375).f2) = 2
                                · rw [if_pos c31] at H
                                  have c31b0 : (((rd_T69 x7_1 t375).f2) == 2) = true := beq_iff_eq.mpr c31
                                  have c31b1 : (((rd_T69 x7_1 t375).f2) != 2) = false := bne_eq_false_iff_eq.mpr c31
                                  clear c31
                                  replace H := Option.bind_eq_some_iff.mp H
                                  obtain ⟨t377, A320, H⟩ := H
                                  replace H : (jobshellref18_Read.l1 kj18 a2 x7_1 y372 t377 (wrap64 (x12_2 + 1))) = some r := H
                                  have A32 := Aside0.mk A320
                                  clear A320
                                  have H' := Aside0.mk H
                                  clear H
                                  have q33 : (x13_18 : Int) ≤ ((x7_1.length : Int) : Int) := of_decide_eq_true (by first | (with_reducible assumption) | assumption)
                                  obtain ⟨i033, hi033, _, hsz33, _⟩ := info_parts info69
                                  have hroom33 : x7_1.length ≤ co17 := (Kd.R_reads' HO_7.out).2.1
                                  have hC33 : Kd.C k69 _ Ao17 x7_1.length x7_1 := (Kd.R_reads' HO_7.out).2.2
                                  have ql33 : (x11_2 : Int) ≤ (x13_18 : Int) := of_decide_eq_true (by first | (with_reducible assumption) | assumption)
                                  have q033 : (0 : Int) ≤ (x11_2 : Int) := of_decide_eq_true (by first | (with_reducible assumption) | assumption)
                                  have hcut33 := cut_mid (P := Try.prog) 51 69 .i64 .i64 Try.underlying51 hi033 3 hsz33 Ao17 x7_1.length co17 x11_2 x13_18 q033 ql33 q33 hroom33
                                  have hr33 := Kd.C_mid (lo := (x11_2 : Int).toNat) (hi := (x13_18 : Int).toNat) (c := co17) hC33 (by omega) (by omega) hroom33
                                  obtain ⟨A33, hA33⟩ : ∃ A1, A1 = (if co17 = (x11_2 : Int).toNat then Ao17 else (Ao17 : Option Addr).map (·.add ((x11_2 : Int).toNat * 3))) := ⟨_, rfl⟩
                                  obtain ⟨c33, hc33⟩ : ∃ c1, c1 = co17 - (x11_2 : Int).toNat := ⟨_, rfl⟩
                                  have hy33 : y367.length = (x13_18 : Int).toNat - (x11_2 : Int).toNat := (by rw [Ny367.out, List.length_drop, List.length_take] <;> omega)
                                  rw [show ((x7_1).take (x13_18 : Int).toNat).drop (x11_2 : Int).toNat = y367 from Ny367.out.symm] at hr33
                                  replace hr33 : Kd.C k69 _ A33 y367.length y367 := (by rw [hA33]; exact hr33)
                                  rw [← hy33, ← hA33, ← hc33] at hcut33
                                  have HR370 := Aside0.mk hr33
                                  have HC370 := Aside0.mk (show y367.length ≤ c33 from by rw [hy33, hc33]; exact Nat.sub_le_sub_right (Nat.le_trans (by omega) hroom33) _)
                                  clear hr33 hC33 hroom33 hi033 hsz33 hc33
                                  have KY33 := Aside0.mk hy33
                                  have KA33 := Aside0.mk hA33
                                  clear hy33 hA33
                                  have KL33 := Aside0.mk (show (x13_18 : Int).toNat ≤ x7_1.length from by omega)
                                  have KM33 := Aside0.mk (show (x11_2 : Int).toNat ≤ (x13_18 : Int).toNat from by omega)
                                  replace q33 := eq_true q33
                                  go_wp2_with (first | ((with_reducible refine gate_callee (f := 39) rfl ?_); refine goesL_ (some 68) rfl rfl Try.func39 (by kernel_rfl) rfl #[.slice A33 y367.length c33] rfl (by (try simp only [List.map_toArray, List.map_cons, List.map_nil]); first | done | rfl | (simp only [List.length_drop, List.length_take]; rfl)) ?_; (with_reducible refine (jobshellref18_text.calls kj18 _ _ y367 t371 _ ?side1 ?side2 A26.out).mono ?_); (case side1 => repeat (first | exact (by repeat (first | (with_reducible exact HR370.out) | (with_reducible refine Kd.C_alloc ?_ _) | (with_reducible refine Kd.C_drewN ?_ _) | (with_reducible refine Kd.C_drew ?_) | exact HR370.out)) | (with_reducible refine Kd.C_alloc ?_ _) | (with_reducible refine Kd.C_drewN ?_ _) | (with_reducible refine Kd.C_drew ?_))); (case side2 => exact HC370.out); rintro e w' ⟨rfl, ⟨nd, rfl⟩⟩; refine ⟨_, rfl, ?_⟩) | ((with_reducible refine gate_builtin (b := .append) (xs := #[.tmp 63, .tmp 69]) rfl ?_); (try (refine gate_guard (by rfl) ?_; dsimp only)); at_builtin; refine Kd.R_append Kd.string (w0 := w) w.heap.size rfl (.tmp 63) (.tmp 69) 29 9 (.string ⟨#[]⟩) 16 rfl Try.underlying29 info9 rfl (by decide) (by omega) u10 x10_2 t371 [.string t371] (fun _ => True) (fun _ => False) rfl rfl ?aP (fun _ hk => hk.elim) ?aF ?aO ?aB ?aS ?aL ?_; (case aP => exact rfl); (case aB => exact (by repeat (first | (with_reducible first | exact HB.out | apply below_alloc | apply pw_below_drewN | apply below_drew1) | exact HB.out))); (case aF => exact (fun _ _ => trivial)); (case aO => exact (by (with_reducible repeat (first | apply Kd.R_alloc | apply Kd.R_drewN | apply Kd.R_drew)); exact HO_10.out)); (case aS => exact (below_size (by repeat (first | (with_reducible first | exact HB.out | apply below_alloc | apply pw_below_drewN | apply below_drew1) | exact HB.out)))); (case aL => have := LMc27.out; omega); intro v373 w34 ho hb hg hat; rw [← Ny372.out] at ho; have n0_ := Aside0.mk (Kd.R_over' (by (with_reducible repeat (first | apply Kd.R_alloc | apply Kd.R_drewN | apply Kd.R_drew)); exact HO_7.out) (Kd.R_typed (by (with_reducible repeat (first | apply Kd.R_alloc | apply Kd.R_drewN | apply Kd.R_drew)); exact HO_10.out)) (by decide) hg); have n1_ := Aside0.mk (hb); have n2_ := Aside0.mk ((show Kd.C k69 w34 A33 y367.length y367 from by rw [Ny367.out, KA33.out]; exact Kd.C_mid (lo := (x11_2 : Int).toNat) (hi := (x13_18 : Int).toNat) (c := co17) ((Kd.R_reads' (Kd.R_over' (by (with_reducible repeat (first | apply Kd.R_alloc | apply Kd.R_drewN | apply Kd.R_drew)); exact HO_7.out) (Kd.R_typed (by (with_reducible repeat (first | apply Kd.R_alloc | apply Kd.R_drewN | apply Kd.R_drew)); exact HO_10.out)) (by decide) hg)).2.2) KM33.out KL33.out ((Kd.R_reads' (Kd.R_over' (by (with_reducible repeat (first | apply Kd.R_alloc | apply Kd.R_drewN | apply Kd.R_drew)); exact HO_7.out) (Kd.R_typed (by (with_reducible repeat (first | apply Kd.R_alloc | apply Kd.R_drewN | apply Kd.R_drew)); exact HO_10.out)) (by decide) hg)).2.1))); have n3_ := Aside0.mk (ho); clear HO_7; clear HB; clear HR370; clear HO_10; have HO_7 := n0_; have HB := n1_; have HR370 := n2_; have HO374 := n3_; clear n0_ n1_ n2_ n3_; clear ho hb hg hat) | ((with_reducible refine gate_callee (f := 38) rfl ?_); refine goesL_ (some 73) rfl rfl Try.func38 (by kernel_rfl) rfl #[.slice Ao17 x7_1.length co17, .int .i64 x13_18] rfl (by (try simp only [List.map_toArray, List.map_cons, List.map_nil]); first | done | rfl | (simp only [List.length_drop, List.length_take]; rfl)) ?_; (with_reducible refine (jobshellref18_skip.calls kj18 _ _ x7_1 x13_18 t375 _ ?side1 ?side2 A28.out).mono ?_); (case side1 => repeat (first | exact (Kd.R_reads' HO_7.out).2.2 | (with_reducible refine Kd.C_alloc ?_ _) | (with_reducible refine Kd.C_drewN ?_ _) | (with_reducible refine Kd.C_drew ?_))); (case side2 => exact (Kd.R_reads' HO_7.out).2.1); rintro e w' ⟨rfl, ⟨nd, rfl⟩⟩; refine ⟨_, rfl, ?_⟩; have p376 : 0 ≤ (t375 : Int) := of_decide_eq_true (by first | (with_reducible assumption) | assumption); have q376 : t375 < (x7_1.length : Int) := of_decide_eq_true (by first | (with_reducible assumption) | assumption); obtain ⟨ad376, e376, hx376_0, hx376_1, hx376_2⟩ := at_T69 (Kd.R_reads' HO_7.out).2.2 t375 p376 q376; cases e376; replace p376 := eq_true p376; replace q376 := eq_true q376) | ((with_reducible refine gate_callee (f := 38) rfl ?_); refine goesL_ (some 89) rfl rfl Try.func38 (by kernel_rfl) rfl #[.slice (some ad376) x7_1.length co17, .int .i64 (wrap64 (t375 + 1))] rfl (by (try simp only [List.map_toArray, List.map_cons, List.map_nil]); first | done | rfl | (simp only [List.length_drop, List.length_take]; rfl)) ?_; (with_reducible refine (jobshellref18_skip.calls kj18 _ _ x7_1 (wrap64 (t375 + 1)) t377 _ ?side1 ?side2 A32.out).mono ?_); (case side1 => repeat (first | exact (Kd.R_reads' HO_7.out).2.2 | (with_reducible refine Kd.C_alloc ?_ _) | (with_reducible refine Kd.C_drewN ?_ _) | (with_reducible refine Kd.C_drew ?_))); (case side2 => exact (Kd.R_reads' HO_7.out).2.1); rintro e w' ⟨rfl, ⟨nd, rfl⟩⟩; refine ⟨_, rfl, ?_⟩))
                                  go_roundg kj18
                                  case measure => have := HK1.out; have := HK2.out; have := HJ18.out; omega
                                  case rel => exact ⟨(y372), (t377), (wrap64 (x12_2 + 1)), (by first | rfl | (simp; done) | (simp [*]; done)), (by first | rfl | (simp; done) | (simp [*]; done)), H', ⟨by have := HK1.out; have := HK2.out; have := HJ18.out; omega⟩, ⟨by (with_reducible repeat (first | apply Kd.R_alloc | apply Kd.R_drewN | apply Kd.R_drew)); exact HO_7.out⟩, ⟨by (with_reducible repeat (first | apply Kd.R_alloc | apply Kd.R_drewN | apply Kd.R_drew)); exact HO374.out⟩, ⟨by repeat (first | (with_reducible first | exact HB.out | apply below_alloc | apply pw_below_drewN | apply below_drew1) | exact HB.out)⟩⟩
                                · rw [if_neg c31] at H
                                  have c31b0 : (((rd_T69 x7_1 t375).f2) == 2) = false := beq_eq_false_iff_ne.mpr c31
                                  have c31b1 : (((rd_T69 x7_1 t375).f2) != 2) = true := bne_iff_ne.mpr c31
                                  have H' := Aside0.mk H
                                  clear H
                                  have q35 : (x13_18 : Int) ≤ ((x7_1.length : Int) : Int) := of_decide_eq_true (by first | (with_reducible assumption) | assumption)
                                  obtain ⟨i035, hi035, _, hsz35, _⟩ := info_parts info69
                                  have hroom35 : x7_1.length ≤ co17 := (Kd.R_reads' HO_7.out).2.1
                                  have hC35 : Kd.C k69 _ Ao17 x7_1.length x7_1 := (Kd.R_reads' HO_7.out).2.2
                                  have ql35 : (x11_2 : Int) ≤ (x13_18 : Int) := of_decide_eq_true (by first | (with_reducible assumption) | assumption)
                                  have q035 : (0 : Int) ≤ (x11_2 : Int) := of_decide_eq_true (by first | (with_reducible assumption) | assumption)
                                  have hcut35 := cut_mid (P := Try.prog) 51 69 .i64 .i64 Try.underlying51 hi035 3 hsz35 Ao17 x7_1.length co17 x11_2 x13_18 q035 ql35 q35 hroom35
                                  have hr35 := Kd.C_mid (lo := (x11_2 : Int).toNat) (hi := (x13_18 : Int).toNat) (c := co17) hC35 (by omega) (by omega) hroom35
                                  obtain ⟨A35, hA35⟩ : ∃ A1, A1 = (if co17 = (x11_2 : Int).toNat then Ao17 else (Ao17 : Option Addr).map (·.add ((x11_2 : Int).toNat * 3))) := ⟨_, rfl⟩
                                  obtain ⟨c35, hc35⟩ : ∃ c1, c1 = co17 - (x11_2 : Int).toNat := ⟨_, rfl⟩
                                  have hy35 : y367.length = (x13_18 : Int).toNat - (x11_2 : Int).toNat := (by rw [Ny367.out, List.length_drop, List.length_take] <;> omega)
                                  rw [show ((x7_1).take (x13_18 : Int).toNat).drop (x11_2 : Int).toNat = y367 from Ny367.out.symm] at hr35
                                  replace hr35 : Kd.C k69 _ A35 y367.length y367 := (by rw [hA35]; exact hr35)
                                  rw [← hy35, ← hA35, ← hc35] at hcut35
                                  have HR370 := Aside0.mk hr35
                                  have HC370 := Aside0.mk (show y367.length ≤ c35 from by rw [hy35, hc35]; exact Nat.sub_le_sub_right (Nat.le_trans (by omega) hroom35) _)
                                  clear hr35 hC35 hroom35 hi035 hsz35 hc35
                                  have KY35 := Aside0.mk hy35
                                  have KA35 := Aside0.mk hA35
                                  clear hy35 hA35
                                  have KL35 := Aside0.mk (show (x13_18 : Int).toNat ≤ x7_1.length from by omega)
                                  have KM35 := Aside0.mk (show (x11_2 : Int).toNat ≤ (x13_18 : Int).toNat from by omega)
                                  replace q35 := eq_true q35
                                  go_wp2_with (first | ((with_reducible refine gate_callee (f := 39) rfl ?_); refine goesL_ (some 68) rfl rfl Try.func39 (by kernel_rfl) rfl #[.slice A35 y367.length c35] rfl (by (try simp only [List.map_toArray, List.map_cons, List.map_nil]); first | done | rfl | (simp only [List.length_drop, List.length_take]; rfl)) ?_; (with_reducible refine (jobshellref18_text.calls kj18 _ _ y367 t371 _ ?side1 ?side2 A26.out).mono ?_); (case side1 => repeat (first | exact (by repeat (first | (with_reducible exact HR370.out) | (with_reducible refine Kd.C_alloc ?_ _) | (with_reducible refine Kd.C_drewN ?_ _) | (with_reducible refine Kd.C_drew ?_) | exact HR370.out)) | (with_reducible refine Kd.C_alloc ?_ _) | (with_reducible refine Kd.C_drewN ?_ _) | (with_reducible refine Kd.C_drew ?_))); (case side2 => exact HC370.out); rintro e w' ⟨rfl, ⟨nd, rfl⟩⟩; refine ⟨_, rfl, ?_⟩) | ((with_reducible refine gate_builtin (b := .append) (xs := #[.tmp 63, .tmp 69]) rfl ?_); (try (refine gate_guard (by rfl) ?_; dsimp only)); at_builtin; refine Kd.R_append Kd.string (w0 := w) w.heap.size rfl (.tmp 63) (.tmp 69) 29 9 (.string ⟨#[]⟩) 16 rfl Try.underlying29 info9 rfl (by decide) (by omega) u10 x10_2 t371 [.string t371] (fun _ => True) (fun _ => False) rfl rfl ?aP (fun _ hk => hk.elim) ?aF ?aO ?aB ?aS ?aL ?_; (case aP => exact rfl); (case aB => exact (by repeat (first | (with_reducible first | exact HB.out | apply below_alloc | apply pw_below_drewN | apply below_drew1) | exact HB.out))); (case aF => exact (fun _ _ => trivial)); (case aO => exact (by (with_reducible repeat (first | apply Kd.R_alloc | apply Kd.R_drewN | apply Kd.R_drew)); exact HO_10.out)); (case aS => exact (below_size (by repeat (first | (with_reducible first | exact HB.out | apply below_alloc | apply pw_below_drewN | apply below_drew1) | exact HB.out)))); (case aL => have := LMc27.out; omega); intro v373 w36 ho hb hg hat; rw [← Ny372.out] at ho; have n0_ := Aside0.mk (Kd.R_over' (by (with_reducible repeat (first | apply Kd.R_alloc | apply Kd.R_drewN | apply Kd.R_drew)); exact HO_7.out) (Kd.R_typed (by (with_reducible repeat (first | apply Kd.R_alloc | apply Kd.R_drewN | apply Kd.R_drew)); exact HO_10.out)) (by decide) hg); have n1_ := Aside0.mk (hb); have n2_ := Aside0.mk ((show Kd.C k69 w36 A35 y367.length y367 from by rw [Ny367.out, KA35.out]; exact Kd.C_mid (lo := (x11_2 : Int).toNat) (hi := (x13_18 : Int).toNat) (c := co17) ((Kd.R_reads' (Kd.R_over' (by (with_reducible repeat (first | apply Kd.R_alloc | apply Kd.R_drewN | apply Kd.R_drew)); exact HO_7.out) (Kd.R_typed (by (with_reducible repeat (first | apply Kd.R_alloc | apply Kd.R_drewN | apply Kd.R_drew)); exact HO_10.out)) (by decide) hg)).2.2) KM35.out KL35.out ((Kd.R_reads' (Kd.R_over' (by (with_reducible repeat (first | apply Kd.R_alloc | apply Kd.R_drewN | apply Kd.R_drew)); exact HO_7.out) (Kd.R_typed (by (with_reducible repeat (first | apply Kd.R_alloc | apply Kd.R_drewN | apply Kd.R_drew)); exact HO_10.out)) (by decide) hg)).2.1))); have n3_ := Aside0.mk (ho); clear HO_7; clear HB; clear HR370; clear HO_10; have HO_7 := n0_; have HB := n1_; have HR370 := n2_; have HO374 := n3_; clear n0_ n1_ n2_ n3_; clear ho hb hg hat) | ((with_reducible refine gate_callee (f := 38) rfl ?_); refine goesL_ (some 73) rfl rfl Try.func38 (by kernel_rfl) rfl #[.slice Ao17 x7_1.length co17, .int .i64 x13_18] rfl (by (try simp only [List.map_toArray, List.map_cons, List.map_nil]); first | done | rfl | (simp only [List.length_drop, List.length_take]; rfl)) ?_; (with_reducible refine (jobshellref18_skip.calls kj18 _ _ x7_1 x13_18 t375 _ ?side1 ?side2 A28.out).mono ?_); (case side1 => repeat (first | exact (Kd.R_reads' HO_7.out).2.2 | (with_reducible refine Kd.C_alloc ?_ _) | (with_reducible refine Kd.C_drewN ?_ _) | (with_reducible refine Kd.C_drew ?_))); (case side2 => exact (Kd.R_reads' HO_7.out).2.1); rintro e w' ⟨rfl, ⟨nd, rfl⟩⟩; refine ⟨_, rfl, ?_⟩; have p376 : 0 ≤ (t375 : Int) := of_decide_eq_true (by first | (with_reducible assumption) | assumption); have q376 : t375 < (x7_1.length : Int) := of_decide_eq_true (by first | (with_reducible assumption) | assumption); obtain ⟨ad376, e376, hx376_0, hx376_1, hx376_2⟩ := at_T69 (Kd.R_reads' HO_7.out).2.2 t375 p376 q376; cases e376; replace p376 := eq_true p376; replace q376 := eq_true q376))
                                  go_roundg kj18
                                  case measure => have := HK1.out; have := HK2.out; have := HJ18.out; omega
                                  case rel => exact ⟨(y372), (t375), (wrap64 (x12_2 + 1)), (by first | rfl | (simp; done) | (simp [*]; done)), (by first | rfl | (simp; done) | (simp [*]; done)), H', ⟨by have := HK1.out; have := HK2.out; have := HJ18.out; omega⟩, ⟨by (with_reducible repeat (first | apply Kd.R_alloc | apply Kd.R_drewN | apply Kd.R_drew)); exact HO_7.out⟩, ⟨by (with_reducible repeat (first | apply Kd.R_alloc | apply Kd.R_drewN | apply Kd.R_drew)); exact HO374.out⟩, ⟨by repeat (first | (with_reducible first | exact HB.out | apply below_alloc | apply pw_below_drewN | apply below_drew1) | exact HB.out)⟩⟩
                              · rw [if_neg c30] at H
                                exact absurd H (by simp)
                            · rw [if_neg c29] at H
                              have c29b0 : decide (t375 < (x7_1.length : Int)) = false := decide_eq_false c29
                              clear c29
                              have H' := Aside0.mk H
                              clear H
                              have q37 : (x13_18 : Int) ≤ ((x7_1.length : Int) : Int) := of_decide_eq_true (by first | (with_reducible assumption) | assumption)
                              obtain ⟨i037, hi037, _, hsz37, _⟩ := info_parts info69
                              have hroom37 : x7_1.length ≤ co17 := (Kd.R_reads' HO_7.out).2.1
                              have hC37 : Kd.C k69 _ Ao17 x7_1.length x7_1 := (Kd.R_reads' HO_7.out).2.2
                              have ql37 : (x11_2 : Int) ≤ (x13_18 : Int) := of_decide_eq_true (by first | (with_reducible assumption) | assumption)
                              have q037 : (0 : Int) ≤ (x11_2 : Int) := of_decide_eq_true (by first | (with_reducible assumption) | assumption)
                              have hcut37 := cut_mid (P := Try.prog) 51 69 .i64 .i64 Try.underlying51 hi037 3 hsz37 Ao17 x7_1.length co17 x11_2 x13_18 q037 ql37 q37 hroom37
                              have hr37 := Kd.C_mid (lo := (x11_2 : Int).toNat) (hi := (x13_18 : Int).toNat) (c := co17) hC37 (by omega) (by omega) hroom37
                              obtain ⟨A37, hA37⟩ : ∃ A1, A1 = (if co17 = (x11_2 : Int).toNat then Ao17 else (Ao17 : Option Addr).map (·.add ((x11_2 : Int).toNat * 3))) := ⟨_, rfl⟩
                              obtain ⟨c37, hc37⟩ : ∃ c1, c1 = co17 - (x11_2 : Int).toNat := ⟨_, rfl⟩
                              have hy37 : y367.length = (x13_18 : Int).toNat - (x11_2 : Int).toNat := (by rw [Ny367.out, List.length_drop, List.length_take] <;> omega)
                              rw [show ((x7_1).take (x13_18 : Int).toNat).drop (x11_2 : Int).toNat = y367 from Ny367.out.symm] at hr37
                              replace hr37 : Kd.C k69 _ A37 y367.length y367 := (by rw [hA37]; exact hr37)
                              rw [← hy37, ← hA37, ← hc37] at hcut37
                              have HR370 := Aside0.mk hr37
                              have HC370 := Aside0.mk (show y367.length ≤ c37 from by rw [hy37, hc37]; exact Nat.sub_le_sub_right (Nat.le_trans (by omega) hroom37) _)
                              clear hr37 hC37 hroom37 hi037 hsz37 hc37
                              have KY37 := Aside0.mk hy37
                              have KA37 := Aside0.mk hA37
                              clear hy37 hA37
                              have KL37 := Aside0.mk (show (x13_18 : Int).toNat ≤ x7_1.length from by omega)
                              have KM37 := Aside0.mk (show (x11_2 : Int).toNat ≤ (x13_18 : Int).toNat from by omega)
                              replace q37 := eq_true q37
                              go_wp2_with (first | ((with_reducible refine gate_callee (f := 39) rfl ?_); refine goesL_ (some 68) rfl rfl Try.func39 (by kernel_rfl) rfl #[.slice A37 y367.length c37] rfl (by (try simp only [List.map_toArray, List.map_cons, List.map_nil]); first | done | rfl | (simp only [List.length_drop, List.length_take]; rfl)) ?_; (with_reducible refine (jobshellref18_text.calls kj18 _ _ y367 t371 _ ?side1 ?side2 A26.out).mono ?_); (case side1 => repeat (first | exact (by repeat (first | (with_reducible exact HR370.out) | (with_reducible refine Kd.C_alloc ?_ _) | (with_reducible refine Kd.C_drewN ?_ _) | (with_reducible refine Kd.C_drew ?_) | exact HR370.out)) | (with_reducible refine Kd.C_alloc ?_ _) | (with_reducible refine Kd.C_drewN ?_ _) | (with_reducible refine Kd.C_drew ?_))); (case side2 => exact HC370.out); rintro e w' ⟨rfl, ⟨nd, rfl⟩⟩; refine ⟨_, rfl, ?_⟩) | ((with_reducible refine gate_builtin (b := .append) (xs := #[.tmp 63, .tmp 69]) rfl ?_); (try (refine gate_guard (by rfl) ?_; dsimp only)); at_builtin; refine Kd.R_append Kd.string (w0 := w) w.heap.size rfl (.tmp 63) (.tmp 69) 29 9 (.string ⟨#[]⟩) 16 rfl Try.underlying29 info9 rfl (by decide) (by omega) u10 x10_2 t371 [.string t371] (fun _ => True) (fun _ => False) rfl rfl ?aP (fun _ hk => hk.elim) ?aF ?aO ?aB ?aS ?aL ?_; (case aP => exact rfl); (case aB => exact (by repeat (first | (with_reducible first | exact HB.out | apply below_alloc | apply pw_below_drewN | apply below_drew1) | exact HB.out))); (case aF => exact (fun _ _ => trivial)); (case aO => exact (by (with_reducible repeat (first | apply Kd.R_alloc | apply Kd.R_drewN | apply Kd.R_drew)); exact HO_10.out)); (case aS => exact (below_size (by repeat (first | (with_reducible first | exact HB.out | apply below_alloc | apply pw_below_drewN | apply below_drew1) | exact HB.out)))); (case aL => have := LMc27.out; omega); intro v373 w38 ho hb hg hat; rw [← Ny372.out] at ho; have n0_ := Aside0.mk (Kd.R_over' (by (with_reducible repeat (first | apply Kd.R_alloc | apply Kd.R_drewN | apply Kd.R_drew)); exact HO_7.out) (Kd.R_typed (by (with_reducible repeat (first | apply Kd.R_alloc | apply Kd.R_drewN | apply Kd.R_drew)); exact HO_10.out)) (by decide) hg); have n1_ := Aside0.mk (hb); have n2_ := Aside0.mk ((show Kd.C k69 w38 A37 y367.length y367 from by rw [Ny367.out, KA37.out]; exact Kd.C_mid (lo := (x11_2 : Int).toNat) (hi := (x13_18 : Int).toNat) (c := co17) ((Kd.R_reads' (Kd.R_over' (by (with_reducible repeat (first | apply Kd.R_alloc | apply Kd.R_drewN | apply Kd.R_drew)); exact HO_7.out) (Kd.R_typed (by (with_reducible repeat (first | apply Kd.R_alloc | apply Kd.R_drewN | apply Kd.R_drew)); exact HO_10.out)) (by decide) hg)).2.2) KM37.out KL37.out ((Kd.R_reads' (Kd.R_over' (by (with_reducible repeat (first | apply Kd.R_alloc | apply Kd.R_drewN | apply Kd.R_drew)); exact HO_7.out) (Kd.R_typed (by (with_reducible repeat (first | apply Kd.R_alloc | apply Kd.R_drewN | apply Kd.R_drew)); exact HO_10.out)) (by decide) hg)).2.1))); have n3_ := Aside0.mk (ho); clear HO_7; clear HB; clear HR370; clear HO_10; have HO_7 := n0_; have HB := n1_; have HR370 := n2_; have HO374 := n3_; clear n0_ n1_ n2_ n3_; clear ho hb hg hat) | ((with_reducible refine gate_callee (f := 38) rfl ?_); refine goesL_ (some 73) rfl rfl Try.func38 (by kernel_rfl) rfl #[.slice Ao17 x7_1.length co17, .int .i64 x13_18] rfl (by (try simp only [List.map_toArray, List.map_cons, List.map_nil]); first | done | rfl | (simp only [List.length_drop, List.length_take]; rfl)) ?_; (with_reducible refine (jobshellref18_skip.calls kj18 _ _ x7_1 x13_18 t375 _ ?side1 ?side2 A28.out).mono ?_); (case side1 => repeat (first | exact (Kd.R_reads' HO_7.out).2.2 | (with_reducible refine Kd.C_alloc ?_ _) | (with_reducible refine Kd.C_drewN ?_ _) | (with_reducible refine Kd.C_drew ?_))); (case side2 => exact (Kd.R_reads' HO_7.out).2.1); rintro e w' ⟨rfl, ⟨nd, rfl⟩⟩; refine ⟨_, rfl, ?_⟩))
                              go_roundg kj18
                              case measure => have := HK1.out; have := HK2.out; have := HJ18.out; omega
                              case rel => exact ⟨(y372), (t375), (wrap64 (x12_2 + 1)), (by first | rfl | (simp; done) | (simp [*]; done)), (by first | rfl | (simp; done) | (simp [*]; done)), H', ⟨by have := HK1.out; have := HK2.out; have := HJ18.out; omega⟩, ⟨by (with_reducible repeat (first | apply Kd.R_alloc | apply Kd.R_drewN | apply Kd.R_drew)); exact HO_7.out⟩, ⟨by (with_reducible repeat (first | apply Kd.R_alloc | apply Kd.R_drewN | apply Kd.R_drew)); exact HO374.out⟩, ⟨by repeat (first | (with_reducible first | exact HB.out | apply below_alloc | apply pw_below_drewN | apply below_drew1) | exact HB.out)⟩⟩
                          · rw [if_neg c27] at H
                            exact absurd H (by simp)
                        · rw [if_neg c25] at H
                          exact absurd H (by simp)
                      · rw [if_neg c24] at H
                        exact absurd H (by simp)
                    · rw [if_neg c23] at H
                      exact absurd H (by simp)
              · rw [if_neg c18] at H
                have c18b0 : decide (x12_2 < (wrap64 (a2 - 1))) = false := decide_eq_false c18
                clear c18
                by_cases c39 : 0 ≤ x11_2
                · rw [if_pos c39] at H
                  have c39b0 := eq_true c39
                  have c39b1 : decide (0 ≤ x11_2) = true := decide_eq_true c39
                  clear c39
                  by_cases c40 : x11_2 ≤ (x7_1.length : Int)
                  · rw [if_pos c40] at H
                    have c40b0 := eq_true c40
                    have c40b1 : decide (x11_2 ≤ (x7_1.length : Int)) = true := decide_eq_true c40
                    clear c40
                    obtain ⟨y378, hy378⟩ : ∃ y_ : List (S69), y_ = (x7_1.drop (x11_2 : Int).toNat) := ⟨_, rfl⟩
                    replace H : ((jobshellref18_divide.f k2 y378).bind fun t381 => (if (t381.length : Int) = 1 then (if 0 < (t381.length : Int) then ((jobshellref18_text.f k2 (rd_L9 t381 0)).bind fun t385 => (if x10_2.length < 8796093022208 then (some (x10_2 ++ [t385])) else (none))) else (none)) else (jobshellref18_Read.l3 k2 x10_2 y378))) = some r := by first | (rw [hy378]; with_reducible exact H) | (have H2_ := (Option.bind_some _ _).symm.trans H; rw [hy378]; with_reducible exact H2_) | (have H2_ := (Option.bind_some _ _).symm.trans H; with_reducible exact H2_) | with_reducible exact H | (rw [hy378]; exact H) | exact H
                    have Ny378 := Aside0.mk hy378
                    clear hy378
                    replace H := Option.bind_eq_some_iff.mp H
                    obtain ⟨t381, A410, H⟩ := H
                    replace H : (if (t381.length : Int) = 1 then (if 0 < (t381.length : Int) then ((jobshellref18_text.f k2 (rd_L9 t381 0)).bind fun t385 => (if x10_2.length < 8796093022208 then (some (x10_2 ++ [t385])) else (none))) else (none)) else (jobshellref18_Read.l3 k2 x10_2 y378)) = some r := H
                    have A41 := Aside0.mk A410
                    clear A410
                    by_cases c42 : (t381.length : Int) = 1
                    · rw [if_pos c42] at H
                      have c42b0 : ((t381.length : Int) == 1) = true := beq_iff_eq.mpr c42
                      have c42b1 : ((t381.length : Int) != 1) = false := bne_eq_false_iff_eq.mpr c42
                      clear c42
                      by_cases c43 : 0 < (t381.length : Int)
                      · rw [if_pos c43] at H
                        have c43b0 : decide (0 < (t381.length : Int)) = true := decide_eq_true c43
                        have c43b1 : decide (0 < t381.length) = true := decide_eq_true (by omega)
                        clear c43
                        replace H := Option.bind_eq_some_iff.mp H
                        obtain ⟨t385, A440, H⟩ := H
                        replace H : (if x10_2.length < 8796093022208 then (some (x10_2 ++ [t385])) else (none)) = some r := H
                        have A44 := Aside0.mk A440
                        clear A440
                        by_cases c45 : x10_2.length < 8796093022208
                        · rw [if_pos c45] at H
                          have LMc45 := Aside0.mk c45
                          clear c45
                          obtain ⟨y386, hy386⟩ : ∃ y_ : List ByteArray, y_ = (x10_2 ++ [t385]) := ⟨_, rfl⟩
                          replace H : (some y386) = some r := by first | (rw [hy386]; with_reducible exact H) | (have H2_ := (Option.bind_some _ _).symm.trans H; rw [hy386]; with_reducible exact H2_) | (have H2_ := (Option.bind_some _ _).symm.trans H; with_reducible exact H2_) | with_reducible exact H | (rw [hy386]; exact H) | exact H
                          have Ny386 := Aside0.mk hy386
                          clear hy386
                          obtain rfl := Option.some.inj H
                          have q46 : (x11_2 : Int) ≤ ((x7_1.length : Int) : Int) := of_decide_eq_true (by first | (with_reducible assumption) | assumption)
                          obtain ⟨i046, hi046, _, hsz46, _⟩ := info_parts info69
                          have hcut46 := cut_from (P := Try.prog) 51 69 .i64 Try.underlying51 hi046 3 hsz46 Ao17 x7_1.length co17 x11_2 (of_decide_eq_true (by first | (with_reducible assumption) | assumption)) q46
                          have hr46 := Kd.Q_drop (k := (x11_2 : Int).toNat) (Kd.Q_of_R HO_7.out) (by omega)
                          obtain ⟨A46, hA46⟩ : ∃ A1, A1 = (if co17 = (x11_2 : Int).toNat then Ao17 else (Ao17 : Option Addr).map (·.add ((x11_2 : Int).toNat * 3))) := ⟨_, rfl⟩
                          obtain ⟨c46, hc46⟩ : ∃ c1, c1 = co17 - (x11_2 : Int).toNat := ⟨_, rfl⟩
                          have hy46 : y378.length = x7_1.length - (x11_2 : Int).toNat := (by rw [Ny378.out, List.length_drop])
                          rw [← Ny378.out] at hr46
                          rw [← hy46, ← hA46, ← hc46] at hcut46
                          replace hr46 : Kd.Q k69 69 wr w.heap.size (fun _ => True) (.slice A46 y378.length c46) y378 := (by rw [hA46, hc46, hy46]; exact hr46)
                          have HE46 : Aside0 ((Value.slice A46 y378.length c46).ownBlock = (.slice Ao17 x7_1.length co17 : Value).ownBlock) := ⟨by rw [hA46]; split <;> (cases (Ao17 : Option Addr) <;> first | rfl | (simp only [Option.map, Value.ownBlock, Addr.add]; split <;> rfl))⟩
                          clear hy46 hi046 hsz46 HO_7 hA46 hc46
                          have HO380 := Aside0.mk hr46
                          clear hr46
                          replace q46 := eq_true q46
                          go_wp2_with (first | ((with_reducible refine gate_callee (f := 29) rfl ?_); refine goesL_ (some 94) rfl rfl Try.func29 (by kernel_rfl) rfl #[.slice A46 y378.length c46] rfl (by (try simp only [List.map_toArray, List.map_cons, List.map_nil]); first | done | rfl | (simp only [List.length_drop, List.length_take]; rfl)) ?_; (with_reducible refine (jobshellref18_divide.calls k2 _ _ y378 t381 _ ?side1 ?side2 A41.out).mono ?_); (case side1 => repeat (first | exact (Kd.Q_reads' HO380.out).2.2 | (with_reducible refine Kd.C_alloc ?_ _) | (with_reducible refine Kd.C_drewN ?_ _) | (with_reducible refine Kd.C_drew ?_))); (case side2 => exact (Kd.Q_reads' HO380.out).2.1); rintro e w47 ⟨v382, rfl, ho0, hb⟩; refine ⟨_, rfl, ?_⟩; have n0_ := Aside0.mk (Kd.Q_below (by (with_reducible repeat (first | apply Kd.Q_alloc | apply Kd.Q_drewN | apply Kd.Q_drew)); exact HO380.out) hb); have n1_ := Aside0.mk (Kd.R_below (by (with_reducible repeat (first | apply Kd.R_alloc | apply Kd.R_drewN | apply Kd.R_drew)); exact HO_10.out) hb); have n2_ := Aside0.mk (Kd.S_lower (Kd.S_new' ho0 (Kd.Q_lt (by (with_reducible repeat (first | apply Kd.Q_alloc | apply Kd.Q_drewN | apply Kd.Q_drew)); exact HO380.out))) (below_size (by repeat (first | (with_reducible first | exact HB.out | apply below_alloc | apply pw_below_drewN | apply below_drew1) | exact HB.out)))); have n3_ := Aside0.mk (below_step (by repeat (first | (with_reducible first | exact HB.out | apply below_alloc | apply pw_below_drewN | apply below_drew1) | exact HB.out)) hb); clear HO380; clear HO_10; clear HB; have HO380 := n0_; have HO_10 := n1_; have HO383 := n2_; have HB := n3_; clear n0_ n1_ n2_ n3_; (try clear hb); (try clear hb2); (try clear hk); (try clear hi); (try clear ho0); obtain ⟨Ao48, co48, eo48⟩ := Kd.S_slice HO383.out; subst eo48; have p384 : 0 ≤ (0 : Int) := (by omega); have q384 : 0 < (t381.length : Int) := of_decide_eq_true (by first | (with_reducible assumption) | assumption); obtain ⟨ad384, A384_0, c384_0, e384, hx384_0, hl384_0, hi384_0⟩ := at_L9 (Kd.S_reads' HO383.out).2.2 0 p384 q384; cases e384; obtain ⟨ce384, hce384, hMe384, hcc384⟩ := Kd.S_get HO383.out [] 0 p384 (by first | exact q384 | exact of_decide_eq_true (by first | (with_reducible assumption) | assumption) | (have e_ := (Kd.S_reads' HO383.out).1; omega)); obtain ⟨ve384_0, rfl, ge384_0⟩ := hMe384; have hv384_0 := hcc384 0 _ rfl; rw [Nat.add_zero, show ((Kd.slice 69 k69)).sz = 1 from rfl, Nat.mul_one] at hv384_0; replace hv384_0 := Option.some.inj (hv384_0.symm.trans hx384_0); rw [hv384_0] at ge384_0; have HL384_0 := Aside0.mk (show Kd.R k69 69 _ _ _ _ (rd_L9 t381 0) from ge384_0); clear hv384_0 ge384_0; clear hcc384 hce384; have qi384 : (0 < t381.length) = True := eq_true (by omega); (try rw [show ((0 : Int)).toNat = 0 from rfl] at hx384_0); (try rw [Addr.add_zero'] at hx384_0); have HR384_0 := Aside0.mk hi384_0; have HC384_0 := Aside0.mk hl384_0; clear hi384_0 hl384_0; replace p384 := eq_true p384; replace q384 := eq_true q384) | ((with_reducible refine gate_callee (f := 39) rfl ?_); refine goesL_ (some 102) rfl rfl Try.func39 (by kernel_rfl) rfl #[.slice A384_0 (rd_L9 t381 0).length c384_0] rfl (by (try simp only [List.map_toArray, List.map_cons, List.map_nil]); first | done | rfl | (simp only [List.length_drop, List.length_take]; rfl)) ?_; (with_reducible refine (jobshellref18_text.calls k2 _ _ (rd_L9 t381 0) t385 _ ?side1 ?side2 A44.out).mono ?_); (case side1 => repeat (first | exact (by repeat (first | (with_reducible exact HR384_0.out) | (with_reducible refine Kd.C_alloc ?_ _) | (with_reducible refine Kd.C_drewN ?_ _) | (with_reducible refine Kd.C_drew ?_) | exact HR384_0.out)) | (with_reducible refine Kd.C_alloc ?_ _) | (with_reducible refine Kd.C_drewN ?_ _) | (with_reducible refine Kd.C_drew ?_))); (case side2 => exact HC384_0.out); rintro e w' ⟨rfl, ⟨nd, rfl⟩⟩; refine ⟨_, rfl, ?_⟩) | ((with_reducible refine gate_builtin (b := .append) (xs := #[.tmp 98, .tmp 103]) rfl ?_); (try (refine gate_guard (by rfl) ?_; dsimp only)); at_builtin; refine Kd.R_append Kd.string (w0 := w) w.heap.size rfl (.tmp 98) (.tmp 103) 29 9 (.string ⟨#[]⟩) 16 rfl Try.underlying29 info9 rfl (by decide) (by omega) u10 x10_2 t385 [.string t385] (fun _ => True) (fun _ => False) rfl rfl ?aP (fun _ hk => hk.elim) ?aF ?aO ?aB ?aS ?aL ?_; (case aP => exact rfl); (case aB => exact (by repeat (first | (with_reducible first | exact HB.out | apply below_alloc | apply pw_below_drewN | apply below_drew1) | exact HB.out))); (case aF => exact (fun _ _ => trivial)); (case aO => exact (by (with_reducible repeat (first | apply Kd.R_alloc | apply Kd.R_drewN | apply Kd.R_drew)); exact HO_10.out)); (case aS => exact (below_size (by repeat (first | (with_reducible first | exact HB.out | apply below_alloc | apply pw_below_drewN | apply below_drew1) | exact HB.out)))); (case aL => have := LMc45.out; omega); intro v387 w49 ho hb hg hat; rw [← Ny386.out] at ho; have n0_ := Aside0.mk (Kd.Q_over' (by (with_reducible repeat (first | apply Kd.Q_alloc | apply Kd.Q_drewN | apply Kd.Q_drew)); exact HO380.out) (Kd.R_typed (by (with_reducible repeat (first | apply Kd.R_alloc | apply Kd.R_drewN | apply Kd.R_drew)); exact HO_10.out)) (by decide) hg); have n1_ := Aside0.mk (Kd.S_over' (by (with_reducible repeat (first | apply Kd.S_alloc | apply Kd.S_drewN | apply Kd.S_drew)); exact HO383.out) (Kd.R_typed (by (with_reducible repeat (first | apply Kd.R_alloc | apply Kd.R_drewN | apply Kd.R_drew)); exact HO_10.out)) (by decide) hg); have n2_ := Aside0.mk (Kd.R_over' (by (with_reducible repeat (first | apply Kd.R_alloc | apply Kd.R_drewN | apply Kd.R_drew)); exact HL384_0.out) (Kd.R_typed (by (with_reducible repeat (first | apply Kd.R_alloc | apply Kd.R_drewN | apply Kd.R_drew)); exact HO_10.out)) (by decide) hg); have n3_ := Aside0.mk (hb); have n4_ := Aside0.mk (ho); clear HO380; clear HO383; clear HL384_0; clear HB; clear HO_10; have HO380 := n0_; have HO383 := n1_; have HL384_0 := n2_; have HB := n3_; have HO388 := n4_; clear n0_ n1_ n2_ n3_ n4_; clear ho hb hg hat))
                          go_ret
                          exact ⟨_, by first | rfl | (simp [errW_none, errW_some] <;> rfl) | (simp [*, errW_none, errW_some] <;> rfl), by (with_reducible repeat (first | apply Kd.R_alloc | apply Kd.R_drewN | apply Kd.R_drew)); exact HO388.out, by repeat (first | (with_reducible first | exact HB.out | apply below_alloc | apply pw_below_drewN | apply below_drew1) | exact HB.out)⟩
                        · rw [if_neg c45] at H
                          exact absurd H (by simp)
                      · rw [if_neg c43] at H
                        exact absurd H (by simp)
                    · rw [if_neg c42] at H
                      have c42b0 : ((t381.length : Int) == 1) = false := beq_eq_false_iff_ne.mpr c42
                      have c42b1 : ((t381.length : Int) != 1) = true := bne_iff_ne.mpr c42
                      have H' := Aside0.mk H
                      clear H
                      have q50 : (x11_2 : Int) ≤ ((x7_1.length : Int) : Int) := of_decide_eq_true (by first | (with_reducible assumption) | assumption)
                      obtain ⟨i050, hi050, _, hsz50, _⟩ := info_parts info69
                      have hcut50 := cut_from (P := Try.prog) 51 69 .i64 Try.underlying51 hi050 3 hsz50 Ao17 x7_1.length co17 x11_2 (of_decide_eq_true (by first | (with_reducible assumption) | assumption)) q50
                      have hr50 := Kd.Q_drop (k := (x11_2 : Int).toNat) (Kd.Q_of_R HO_7.out) (by omega)
                      obtain ⟨A50, hA50⟩ : ∃ A1, A1 = (if co17 = (x11_2 : Int).toNat then Ao17 else (Ao17 : Option Addr).map (·.add ((x11_2 : Int).toNat * 3))) := ⟨_, rfl⟩
                      obtain ⟨c50, hc50⟩ : ∃ c1, c1 = co17 - (x11_2 : Int).toNat := ⟨_, rfl⟩
                      have hy50 : y378.length = x7_1.length - (x11_2 : Int).toNat := (by rw [Ny378.out, List.length_drop])
                      rw [← Ny378.out] at hr50
                      rw [← hy50, ← hA50, ← hc50] at hcut50
                      replace hr50 : Kd.Q k69 69 wr w.heap.size (fun _ => True) (.slice A50 y378.length c50) y378 := (by rw [hA50, hc50, hy50]; exact hr50)
                      have HE50 : Aside0 ((Value.slice A50 y378.length c50).ownBlock = (.slice Ao17 x7_1.length co17 : Value).ownBlock) := ⟨by rw [hA50]; split <;> (cases (Ao17 : Option Addr) <;> first | rfl | (simp only [Option.map, Value.ownBlock, Addr.add]; split <;> rfl))⟩
                      clear hy50 hi050 hsz50 HO_7 hA50 hc50
                      have HO380 := Aside0.mk hr50
                      clear hr50
                      replace q50 := eq_true q50
                      go_wp2_with (first | ((with_reducible refine gate_callee (f := 29) rfl ?_); refine goesL_ (some 94) rfl rfl Try.func29 (by kernel_rfl) rfl #[.slice A50 y378.length c50] rfl (by (try simp only [List.map_toArray, List.map_cons, List.map_nil]); first | done | rfl | (simp only [List.length_drop, List.length_take]; rfl)) ?_; (with_reducible refine (jobshellref18_divide.calls k2 _ _ y378 t381 _ ?side1 ?side2 A41.out).mono ?_); (case side1 => repeat (first | exact (Kd.Q_reads' HO380.out).2.2 | (with_reducible refine Kd.C_alloc ?_ _) | (with_reducible refine Kd.C_drewN ?_ _) | (with_reducible refine Kd.C_drew ?_))); (case side2 => exact (Kd.Q_reads' HO380.out).2.1); rintro e w51 ⟨v382, rfl, ho0, hb⟩; refine ⟨_, rfl, ?_⟩; have n0_ := Aside0.mk (Kd.Q_below (by (with_reducible repeat (first | apply Kd.Q_alloc | apply Kd.Q_drewN | apply Kd.Q_drew)); exact HO380.out) hb); have n1_ := Aside0.mk (Kd.R_below (by (with_reducible repeat (first | apply Kd.R_alloc | apply Kd.R_drewN | apply Kd.R_drew)); exact HO_10.out) hb); have n2_ := Aside0.mk (Kd.S_lower (Kd.S_new' ho0 (Kd.Q_lt (by (with_reducible repeat (first | apply Kd.Q_alloc | apply Kd.Q_drewN | apply Kd.Q_drew)); exact HO380.out))) (below_size (by repeat (first | (with_reducible first | exact HB.out | apply below_alloc | apply pw_below_drewN | apply below_drew1) | exact HB.out)))); have n3_ := Aside0.mk (below_step (by repeat (first | (with_reducible first | exact HB.out | apply below_alloc | apply pw_below_drewN | apply below_drew1) | exact HB.out)) hb); clear HO380; clear HO_10; clear HB; have HO380 := n0_; have HO_10 := n1_; have HO383 := n2_; have HB := n3_; clear n0_ n1_ n2_ n3_; (try clear hb); (try clear hb2); (try clear hk); (try clear hi); (try clear ho0); obtain ⟨Ao52, co52, eo52⟩ := Kd.S_slice HO383.out; subst eo52))
                      go_loopg [14] k2 (fun kq v14 w' => ∃ (x14_3 : List (S69)), Aside0 (jobshellref18_Read.l3 kq x10_2 x14_3 = some r) ∧ Aside0 (kq ≤ k2) ∧ Aside0 (Kd.R Kd.string 9 w' w.heap.size (fun _ => True) u10 x10_2) ∧ Aside0 (Kd.Q k69 69 w' w.heap.size (fun _ => True) v14 x14_3) ∧ Aside0 (Below w.heap.size w w'))
                      case atStart => exact ⟨(y378), H', ⟨Nat.le_refl _⟩, ⟨by (with_reducible repeat (first | apply Kd.R_alloc | apply Kd.R_drewN | apply Kd.R_drew)); exact HO_10.out⟩, ⟨by (with_reducible repeat (first | apply Kd.Q_alloc | apply Kd.Q_drewN | apply Kd.Q_drew)); exact HO380.out⟩, ⟨by repeat (first | (with_reducible first | exact HB.out | apply below_alloc | apply pw_below_drewN | apply below_drew1) | exact HB.out)⟩⟩
                      case round =>
                        clear H'
                        try clear c1
                        try clear c2
                        try clear p2
                        try clear c3
                        try clear p3
                        try clear q3
                        try clear hx3
                        try clear qi3
                        try clear c4
                        try clear q4
                        try clear c5
                        try clear q5
                        try clear c6
                        try clear c6b0
                        try clear p6
                        try clear c7
                        try clear c7b0
                        try clear c8
                        try clear c8b0
                        try clear c8b1
                        try clear c10
                        try clear c13
                        try clear c13b0
                        try clear c18
                        try clear c18b0
                        try clear c20
                        try clear c20b0
                        try clear c21
                        try clear c21b0
                        try clear c22
                        try clear c22b0
                        try clear c22b1
                        try clear c23
                        try clear c23b0
                        try clear c23b1
                        try clear c24
                        try clear c24b0
                        try clear c24b1
                        try clear c25
                        try clear c25b0
                        try clear c25b1
                        try clear c27
                        try clear c29
                        try clear c29b0
                        try clear c30
                        try clear c30b0
                        try clear c31
                        try clear c31b0
                        try clear c31b1
                        try clear c33
                        try clear q33
                        try clear c35
                        try clear q35
                        try clear p36
                        try clear q36
                        try clear hx36
                        try clear c37
                        try clear p37
                        try clear q37
                        try clear hx37
                        try clear c38
                        try clear p38
                        try clear q38
                        try clear hx38
                        try clear qi38
                        try clear c39
                        try clear c39b0
                        try clear c39b1
                        try clear c40
                        try clear c40b0
                        try clear c40b1
                        try clear c42
                        try clear c42b0
                        try clear c42b1
                        try clear c43
                        try clear c43b0
                        try clear c43b1
                        try clear c45
                        try clear c46
                        try clear q46
                        try clear c50
                        try clear q50
                        try clear hx360_0
                        try clear hx360_1
                        try clear hx360_2
                        try clear hx361_0
                        try clear hx361_1
                        try clear hx361_2
                        try clear hx366_0
                        try clear hx366_1
                        try clear hx366_2
                        try clear hx376_0
                        try clear hx376_1
                        try clear hx376_2
                        try clear hx384_0
                        try clear p2
                        try clear p3
                        try clear p360
                        try clear p361
                        try clear p366
                        try clear p376
                        try clear p384
                        try clear p6
                        try clear q033
                        try clear q035
                        try clear q037
                        try clear q3
                        try clear q33
                        try clear q35
                        try clear q360
                        try clear q361
                        try clear q366
                        try clear q37
                        try clear q376
                        try clear q384
                        try clear q46
                        try clear q50
                        obtain ⟨x14_3, HA, HK3, HO_10, HO_14, HB⟩ := hrel
                        cases gk with
                        | zero => exact absurd HA.out (by simp [jobshellref18_Read.l3])
                        | succ k3 =>
                          have H := HA.out
                          clear HA
                          simp only [jobshellref18_Read.l3] at H
                          by_cases c53 : (x14_3.length : Int) > 0
                          · rw [if_pos c53] at H
                            have c53b0 : decide (0 < (x14_3.length : Int)) = true := decide_eq_true c53
                            have c53b1 : decide (0 < x14_3.length) = true := decide_eq_true (by omega)
                            clear c53
                            obtain ⟨ji54, hji54⟩ : ∃ j_ : Int, (wrap64 ((x14_3.length : Int) - 1)) = j_ := ⟨_, rfl⟩
                            replace H : (if 0 ≤ (ji54) then (if (ji54) < (x14_3.length : Int) then (if ((rd_T69 x14_3 (ji54)).f2) = 1 then (if (ji54) ≤ (x14_3.length : Int) then (jobshellref18_Read.l3 k3 x10_2 (x14_3.take ((ji54) : Int).toNat)) else (none)) else ((jobshellref18_text.f k3 x14_3).bind fun t393 => (if x10_2.length < 8796093022208 then (some (x10_2 ++ [t393])) else (none)))) else (none)) else (none)) = some r := by first | (rw [hji54] at H; exact H) | (simp only [hji54] at H ⊢; exact H)
                            have hji54w : (IntKind.i64.wrap ((x14_3.length : Int) - 1)) = ji54 := (i64_w _).trans hji54
                            by_cases c55 : 0 ≤ (ji54)
                            · rw [if_pos c55] at H
                              have c55b0 : decide (0 ≤ (ji54)) = true := decide_eq_true c55
                              clear c55
                              by_cases c56 : (ji54) < (x14_3.length : Int)
                              · rw [if_pos c56] at H
                                have c56b0 : decide ((ji54) < (x14_3.length : Int)) = true := decide_eq_true c56
                                clear c56
                                by_cases c57 : ((rd_T69 x14_3 (ji54)).f2) = 1
                                · rw [if_pos c57] at H
                                  have c57b0 : (((rd_T69 x14_3 (ji54)).f2) == 1) = true := beq_iff_eq.mpr c57
                                  have c57b1 : (((rd_T69 x14_3 (ji54)).f2) != 1) = false := bne_eq_false_iff_eq.mpr c57
                                  clear c57
                                  by_cases c58 : (ji54) ≤ (x14_3.length : Int)
                                  · rw [if_pos c58] at H
                                    have c58b0 := eq_true c58
                                    have c58b1 : decide ((ji54) ≤ (x14_3.length : Int)) = true := decide_eq_true c58
                                    clear c58
                                    obtain ⟨y390, hy390⟩ : ∃ y_ : List (S69), y_ = (x14_3.take ((ji54) : Int).toNat) := ⟨_, rfl⟩
                                    replace H : (jobshellref18_Read.l3 k3 x10_2 y390) = some r := by first | (rw [hy390]; with_reducible exact H) | (have H2_ := (Option.bind_some _ _).symm.trans H; rw [hy390]; with_reducible exact H2_) | (have H2_ := (Option.bind_some _ _).symm.trans H; with_reducible exact H2_) | with_reducible exact H | (rw [hy390]; exact H) | exact H
                                    have Ny390 := Aside0.mk hy390
                                    clear hy390
                                    have H' := Aside0.mk H
                                    clear H
                                    obtain ⟨Ao59, co59, eo59, _⟩ := Kd.Q_slice HO_14.out
                                    subst eo59
                                    have p389 : 0 ≤ ((ji54) : Int) := of_decide_eq_true (by first | (with_reducible assumption) | assumption)
                                    have q389 : (ji54) < (x14_3.length : Int) := of_decide_eq_true (by first | (with_reducible assumption) | assumption)
                                    obtain ⟨ad389, e389, hx389_0, hx389_1, hx389_2⟩ := at_T69 (Kd.Q_reads' HO_14.out).2.2 (ji54) p389 q389
                                    cases e389
                                    replace p389 := eq_true p389
                                    replace q389 := eq_true q389
                                    have q60 : ((ji54) : Int) ≤ ((x14_3.length : Int) : Int) := of_decide_eq_true (by first | (with_reducible assumption) | assumption)
                                    obtain ⟨i060, hi060, _, hsz60, _⟩ := info_parts info69
                                    have hcut60 := cut_to (P := Try.prog) 51 69 .i64 Try.underlying51 hi060 (some ad389) x14_3.length co59 (ji54) (of_decide_eq_true (by first | (with_reducible assumption) | assumption)) q60 (Kd.Q_reads' HO_14.out).2.1
                                    have hr60 := Kd.Q_take (m := ((ji54) : Int).toNat) HO_14.out (by omega)
                                    have hy60 : y390.length = ((ji54) : Int).toNat := (by rw [Ny390.out, List.length_take]; omega)
                                    rw [← Ny390.out] at hr60
                                    rw [← hy60] at hr60 hcut60
                                    clear hy60 hi060 hsz60 HO_14
                                    have HO392 := Aside0.mk hr60
                                    clear hr60
                                    replace q60 := eq_true q60
                                    go_wp2
                                    go_roundg k3
                                    case measure => have := HK1.out; have := HK2.out; have := HK3.out; omega
                                    case rel => exact ⟨(y390), H', ⟨by have := HK1.out; have := HK2.out; have := HK3.out; omega⟩, ⟨by (with_reducible repeat (first | apply Kd.R_alloc | apply Kd.R_drewN | apply Kd.R_drew)); exact HO_10.out⟩, ⟨by (with_reducible repeat (first | apply Kd.Q_alloc | apply Kd.Q_drewN | apply Kd.Q_drew)); exact HO392.out⟩, ⟨by repeat (first | (with_reducible first | exact HB.out | apply below_alloc | apply pw_below_drewN | apply below_drew1) | exact HB.out)⟩⟩
                                  · rw [if_neg c58] at H
                                    exact absurd H (by simp)
                                · rw [if_neg c57] at H
                                  have c57b0 : (((rd_T69 x14_3 (ji54)).f2) == 1) = false := beq_eq_false_iff_ne.mpr c57
                                  have c57b1 : (((rd_T69 x14_3 (ji54)).f2) != 1) = true := bne_iff_ne.mpr c57
                                  replace H := Option.bind_eq_some_iff.mp H
                                  obtain ⟨t393, A610, H⟩ := H
                                  replace H : (if x10_2.length < 8796093022208 then (some (x10_2 ++ [t393])) else (none)) = some r := H
                                  have A61 := Aside0.mk A610
                                  clear A610
                                  by_cases c62 : x10_2.length < 8796093022208
                                  · rw [if_pos c62] at H
                                    have LMc62 := Aside0.mk c62
                                    clear c62
                                    obtain ⟨y394, hy394⟩ : ∃ y_ : List ByteArray, y_ = (x10_2 ++ [t393]) := ⟨_, rfl⟩
                                    replace H : (some y394) = some r := by first | (rw [hy394]; with_reducible exact H) | (have H2_ := (Option.bind_some _ _).symm.trans H; rw [hy394]; with_reducible exact H2_) | (have H2_ := (Option.bind_some _ _).symm.trans H; with_reducible exact H2_) | with_reducible exact H | (rw [hy394]; exact H) | exact H
                                    have Ny394 := Aside0.mk hy394
                                    clear hy394
                                    obtain rfl := Option.some.inj H
                                    obtain ⟨Ao63, co63, eo63, _⟩ := Kd.Q_slice HO_14.out
                                    subst eo63
                                    have p389 : 0 ≤ ((ji54) : Int) := of_decide_eq_true (by first | (with_reducible assumption) | assumption)
                                    have q389 : (ji54) < (x14_3.length : Int) := of_decide_eq_true (by first | (with_reducible assumption) | assumption)
                                    obtain ⟨ad389, e389, hx389_0, hx389_1, hx389_2⟩ := at_T69 (Kd.Q_reads' HO_14.out).2.2 (ji54) p389 q389
                                    cases e389
                                    replace p389 := eq_true p389
                                    replace q389 := eq_true q389
                                    go_wp2_with (first | ((with_reducible refine gate_callee (f := 39) rfl ?_); refine goesL_ (some 125) rfl rfl Try.func39 (by kernel_rfl) rfl #[.slice (some ad389) x14_3.length co63] rfl (by (try simp only [List.map_toArray, List.map_cons, List.map_nil]); first | done | rfl | (simp only [List.length_drop, List.length_take]; rfl)) ?_; (with_reducible refine (jobshellref18_text.calls k3 _ _ x14_3 t393 _ ?side1 ?side2 A61.out).mono ?_); (case side1 => repeat (first | exact (Kd.Q_reads' HO_14.out).2.2 | (with_reducible refine Kd.C_alloc ?_ _) | (with_reducible refine Kd.C_drewN ?_ _) | (with_reducible refine Kd.C_drew ?_))); (case side2 => exact (Kd.Q_reads' HO_14.out).2.1); rintro e w' ⟨rfl, ⟨nd, rfl⟩⟩; refine ⟨_, rfl, ?_⟩) | ((with_reducible refine gate_builtin (b := .append) (xs := #[.tmp 123, .tmp 126]) rfl ?_); (try (refine gate_guard (by rfl) ?_; dsimp only)); at_builtin; refine Kd.R_append Kd.string (w0 := w) w.heap.size rfl (.tmp 123) (.tmp 126) 29 9 (.string ⟨#[]⟩) 16 rfl Try.underlying29 info9 rfl (by decide) (by omega) u10 x10_2 t393 [.string t393] (fun _ => True) (fun _ => False) rfl rfl ?aP (fun _ hk => hk.elim) ?aF ?aO ?aB ?aS ?aL ?_; (case aP => exact rfl); (case aB => exact (by repeat (first | (with_reducible first | exact HB.out | apply below_alloc | apply pw_below_drewN | apply below_drew1) | exact HB.out))); (case aF => exact (fun _ _ => trivial)); (case aO => exact (by (with_reducible repeat (first | apply Kd.R_alloc | apply Kd.R_drewN | apply Kd.R_drew)); exact HO_10.out)); (case aS => exact (below_size (by repeat (first | (with_reducible first | exact HB.out | apply below_alloc | apply pw_below_drewN | apply below_drew1) | exact HB.out)))); (case aL => have := LMc62.out; omega); intro v395 w64 ho hb hg hat; rw [← Ny394.out] at ho; have n0_ := Aside0.mk (Kd.Q_over' (by (with_reducible repeat (first | apply Kd.Q_alloc | apply Kd.Q_drewN | apply Kd.Q_drew)); exact HO_14.out) (Kd.R_typed (by (with_reducible repeat (first | apply Kd.R_alloc | apply Kd.R_drewN | apply Kd.R_drew)); exact HO_10.out)) (by decide) hg); have n1_ := Aside0.mk (hb); have n2_ := Aside0.mk (ho); clear HO_14; clear HB; clear HO_10; have HO_14 := n0_; have HB := n1_; have HO396 := n2_; clear n0_ n1_ n2_; clear ho hb hg hat))
                                    go_ret
                                    exact ⟨_, by first | rfl | (simp [errW_none, errW_some] <;> rfl) | (simp only [← hji54]; first | rfl | (simp [errW_none, errW_some] <;> rfl)) | (simp [*, errW_none, errW_some] <;> rfl), by (with_reducible repeat (first | apply Kd.R_alloc | apply Kd.R_drewN | apply Kd.R_drew)); exact HO396.out, by repeat (first | (with_reducible first | exact HB.out | apply below_alloc | apply pw_below_drewN | apply below_drew1) | exact HB.out)⟩
                                  · rw [if_neg c62] at H
                                    exact absurd H (by simp)
                              · rw [if_neg c56] at H
                                exact absurd H (by simp)
                            · rw [if_neg c55] at H
                              exact absurd H (by simp)
                          · rw [if_neg c53] at H
                            have c53b0 : decide (0 < (x14_3.length : Int)) = false := decide_eq_false c53
                            have c53b1 : decide (0 < x14_3.length) = false := decide_eq_false (by omega)
                            clear c53
                            replace H := Option.bind_eq_some_iff.mp H
                            obtain ⟨t397, A650, H⟩ := H
                            replace H : (if x10_2.length < 8796093022208 then (some (x10_2 ++ [t397])) else (none)) = some r := H
                            have A65 := Aside0.mk A650
                            clear A650
                            by_cases c66 : x10_2.length < 8796093022208
                            · rw [if_pos c66] at H
                              have LMc66 := Aside0.mk c66
                              clear c66
                              obtain ⟨y398, hy398⟩ : ∃ y_ : List ByteArray, y_ = (x10_2 ++ [t397]) := ⟨_, rfl⟩
                              replace H : (some y398) = some r := by first | (rw [hy398]; with_reducible exact H) | (have H2_ := (Option.bind_some _ _).symm.trans H; rw [hy398]; with_reducible exact H2_) | (have H2_ := (Option.bind_some _ _).symm.trans H; with_reducible exact H2_) | with_reducible exact H | (rw [hy398]; exact H) | exact H
                              have Ny398 := Aside0.mk hy398
                              clear hy398
                              obtain rfl := Option.some.inj H
                              obtain ⟨Ao67, co67, eo67, _⟩ := Kd.Q_slice HO_14.out
                              subst eo67
                              go_wp2_with (first | ((with_reducible refine gate_callee (f := 39) rfl ?_); refine goesL_ (some 125) rfl rfl Try.func39 (by kernel_rfl) rfl #[.slice Ao67 x14_3.length co67] rfl (by (try simp only [List.map_toArray, List.map_cons, List.map_nil]); first | done | rfl | (simp only [List.length_drop, List.length_take]; rfl)) ?_; (with_reducible refine (jobshellref18_text.calls k3 _ _ x14_3 t397 _ ?side1 ?side2 A65.out).mono ?_); (case side1 => repeat (first | exact (Kd.Q_reads' HO_14.out).2.2 | (with_reducible refine Kd.C_alloc ?_ _) | (with_reducible refine Kd.C_drewN ?_ _) | (with_reducible refine Kd.C_drew ?_))); (case side2 => exact (Kd.Q_reads' HO_14.out).2.1); rintro e w' ⟨rfl, ⟨nd, rfl⟩⟩; refine ⟨_, rfl, ?_⟩) | ((with_reducible refine gate_builtin (b := .append) (xs := #[.tmp 123, .tmp 126]) rfl ?_); (try (refine gate_guard (by rfl) ?_; dsimp only)); at_builtin; refine Kd.R_append Kd.string (w0 := w) w.heap.size rfl (.tmp 123) (.tmp 126) 29 9 (.string ⟨#[]⟩) 16 rfl Try.underlying29 info9 rfl (by decide) (by omega) u10 x10_2 t397 [.string t397] (fun _ => True) (fun _ => False) rfl rfl ?aP (fun _ hk => hk.elim) ?aF ?aO ?aB ?aS ?aL ?_; (case aP => exact rfl); (case aB => exact (by repeat (first | (with_reducible first | exact HB.out | apply below_alloc | apply pw_below_drewN | apply below_drew1) | exact HB.out))); (case aF => exact (fun _ _ => trivial)); (case aO => exact (by (with_reducible repeat (first | apply Kd.R_alloc | apply Kd.R_drewN | apply Kd.R_drew)); exact HO_10.out)); (case aS => exact (below_size (by repeat (first | (with_reducible first | exact HB.out | apply below_alloc | apply pw_below_drewN | apply below_drew1) | exact HB.out)))); (case aL => have := LMc66.out; omega); intro v399 w68 ho hb hg hat; rw [← Ny398.out] at ho; have n0_ := Aside0.mk (Kd.Q_over' (by (with_reducible repeat (first | apply Kd.Q_alloc | apply Kd.Q_drewN | apply Kd.Q_drew)); exact HO_14.out) (Kd.R_typed (by (with_reducible repeat (first | apply Kd.R_alloc | apply Kd.R_drewN | apply Kd.R_drew)); exact HO_10.out)) (by decide) hg); have n1_ := Aside0.mk (hb); have n2_ := Aside0.mk (ho); clear HO_14; clear HB; clear HO_10; have HO_14 := n0_; have HB := n1_; have HO400 := n2_; clear n0_ n1_ n2_; clear ho hb hg hat))
                              go_ret
                              exact ⟨_, by first | rfl | (simp [errW_none, errW_some] <;> rfl) | (simp [*, errW_none, errW_some] <;> rfl), by (with_reducible repeat (first | apply Kd.R_alloc | apply Kd.R_drewN | apply Kd.R_drew)); exact HO400.out, by repeat (first | (with_reducible first | exact HB.out | apply below_alloc | apply pw_below_drewN | apply below_drew1) | exact HB.out)⟩
                            · rw [if_neg c66] at H
                              exact absurd H (by simp)
                  · rw [if_neg c40] at H
                    exact absurd H (by simp)
                · rw [if_neg c39] at H
                  exact absurd H (by simp)

end Go.Proofs.Ytbkhdgfehgfjpaa.PAll
