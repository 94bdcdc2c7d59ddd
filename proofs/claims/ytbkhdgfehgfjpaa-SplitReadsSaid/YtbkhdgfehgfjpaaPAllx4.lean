-- Written for this claim by a program of the session (wip/ext).
import Derived.Test.YtbkhdgfehgfjpaaPAllx0
import Derived.Test.YtbkhdgfehgfjpaaPAllx2
import Derived.Test.YtbkhdgfehgfjpaaPAllx3
namespace Go.Proofs.Ytbkhdgfehgfjpaa.PAll
open Go.RowKit Go.Proofs.YtbkhdgfehgfjpaaW.PrintWords Go.Proofs.YtbkhdgfehgfjpaaW.PrintLast Go.Proofs.YtbkhdgfehgfjpaaW.PrintMore
attribute [local go_sem] max2_int min2_int max_two min_two max_three min_three max_four min_four   -- for this text's walks alone
set_option linter.unusedVariables false
set_option linter.unusedSimpArgs false

/-! ### split_divide: function 26 -/
mutual
def split_divide.l0 : Nat → List (S66) → ByteArray → List (List (S66)) → Int → Int → Option ((List (List (S66))))
  | 0, _, _, _, _, _ => none
  | k + 1, x0, x1, x5, x6, x7 => if x7 < (x0.length : Int) then (if 0 ≤ x7 then ((split_role.f k ((rd_T66 x0 x7).f0) ((rd_T66 x0 x7).f1) x1).bind fun t116 => (if t116 = 0 then (split_divide.l0 k x0 x1 x5 x6 (wrap64 (x7 + 1))) else (if t116 = 3 then (if x7 > x6 then (if 0 ≤ x6 then (if x6 ≤ x7 then (if x7 ≤ (x0.length : Int) then (if x5.length < 5864062014805 then (split_divide.l0 k x0 x1 (x5 ++ [((x0.take (x7 : Int).toNat).drop (x6 : Int).toNat)]) (wrap64 (x7 + 1)) (wrap64 (x7 + 1))) else (none)) else (none)) else (none)) else (none)) else (split_divide.l0 k x0 x1 x5 (wrap64 (x7 + 1)) (wrap64 (x7 + 1)))) else (if t116 = 1 then ((split_behind.f k x0 x7 x1).bind fun t125 => (if x7 > x6 then (if t125 < (x0.length : Int) then (if 0 ≤ t125 then ((split_role.f k ((rd_T66 x0 t125).f0) ((rd_T66 x0 t125).f1) x1).bind fun t127 => (split_divide.j1 k x0 x1 x5 x6 x7 t125 (t127 == 2))) else (none)) else (split_divide.j1 k x0 x1 x5 x6 x7 t125 false)) else (split_divide.j1 k x0 x1 x5 x6 x7 t125 false))) else (if t116 = 2 then (if 0 ≤ x6 then (if x6 ≤ x7 then (if x7 ≤ (x0.length : Int) then (if x5.length < 5864062014805 then ((split_behind.f k x0 (wrap64 (x7 + 1)) x1).bind fun t153 => (split_divide.l0 k x0 x1 (x5 ++ [((x0.take (x7 : Int).toNat).drop (x6 : Int).toNat)]) t153 t153)) else (none)) else (none)) else (none)) else (none)) else (split_divide.l0 k x0 x1 x5 x7 x7)))))) else (none)) else (if x6 < (x0.length : Int) then (if 0 ≤ x6 then (if x6 ≤ (x0.length : Int) then (if x5.length < 5864062014805 then (some (x5 ++ [(x0.drop (x6 : Int).toNat)])) else (none)) else (none)) else (none)) else (some x5))
def split_divide.j1 : Nat → List (S66) → ByteArray → List (List (S66)) → Int → Int → Int → Bool → Option ((List (List (S66))))
  | 0, _, _, _, _, _, _, _ => none
  | k + 1, x0, x1, x5, x6, x8, x9, x63 => if x63 = true then ((split_behind.f k x0 (wrap64 (x9 + 1)) x1).bind fun t128 => (if x8 > x6 then (if 0 ≤ x6 then (if x6 ≤ x8 then (if x8 ≤ (x0.length : Int) then (if x5.length < 5864062014805 then (split_divide.l0 k x0 x1 (x5 ++ [((x0.take (x8 : Int).toNat).drop (x6 : Int).toNat)]) t128 t128) else (none)) else (none)) else (none)) else (none)) else (split_divide.l0 k x0 x1 x5 t128 t128))) else (if x8 > x6 then (if 0 ≤ x6 then (if x6 ≤ x8 then (if x8 ≤ (x0.length : Int) then (if x5.length < 5864062014805 then (split_divide.l0 k x0 x1 (x5 ++ [((x0.take (x8 : Int).toNat).drop (x6 : Int).toNat)]) x9 x9) else (none)) else (none)) else (none)) else (none)) else (split_divide.l0 k x0 x1 x5 x9 x9))
end
def split_divide.f (k : Nat) (l0 : List (S66)) (a1 : ByteArray) : Option ((List (List (S66)))) := split_divide.l0 k l0 a1 ([] : List (List (S66))) 0 0
theorem split_divide.mono_l : ∀ k, (∀ y0 y1 y2 y3 y4, LeO (split_divide.l0 k y0 y1 y2 y3 y4) (split_divide.l0 (k + 1) y0 y1 y2 y3 y4)) ∧ (∀ y0 y1 y2 y3 y4 y5 y6, LeO (split_divide.j1 k y0 y1 y2 y3 y4 y5 y6) (split_divide.j1 (k + 1) y0 y1 y2 y3 y4 y5 y6))
  | 0 => ⟨fun _ _ _ _ _ r h => by simp [split_divide.l0] at h, fun _ _ _ _ _ _ _ r h => by simp [split_divide.j1] at h⟩
  | k + 1 => by
    obtain ⟨ih0, ih1⟩ := split_divide.mono_l k
    refine ⟨?_, ?_⟩
    · intro y0 y1 y2 y3 y4
      unfold split_divide.l0
      repeat' first
      | (with_reducible exact ih0 _ _ _ _ _)
      | (with_reducible exact ih1 _ _ _ _ _ _ _)
      | (with_reducible exact split_behind.mono _ _ _ _)
      | (with_reducible exact split_role.mono _ _ _ _)
      | (with_reducible exact LeO.refl _)
      | (with_reducible exact LeO.none _)
      | (with_reducible refine LeO.ite ?_ ?_)
      | (with_reducible refine LeO.bind ?_ (fun _ => ?_))
      | exact ih0 _ _ _ _ _
      | exact ih1 _ _ _ _ _ _ _
      | exact split_behind.mono _ _ _ _
      | exact split_role.mono _ _ _ _
      | exact LeO.none _
      | refine LeO.ite ?_ ?_
      | refine LeO.bind ?_ (fun _ => ?_)
    · intro y0 y1 y2 y3 y4 y5 y6
      unfold split_divide.j1
      repeat' first
      | (with_reducible exact ih0 _ _ _ _ _)
      | (with_reducible exact ih1 _ _ _ _ _ _ _)
      | (with_reducible exact split_behind.mono _ _ _ _)
      | (with_reducible exact split_role.mono _ _ _ _)
      | (with_reducible exact LeO.refl _)
      | (with_reducible exact LeO.none _)
      | (with_reducible refine LeO.ite ?_ ?_)
      | (with_reducible refine LeO.bind ?_ (fun _ => ?_))
      | exact ih0 _ _ _ _ _
      | exact ih1 _ _ _ _ _ _ _
      | exact split_behind.mono _ _ _ _
      | exact split_role.mono _ _ _ _
      | exact LeO.none _
      | refine LeO.ite ?_ ?_
      | refine LeO.bind ?_ (fun _ => ?_)
theorem split_divide.mono : ∀ a0 a1 k, LeO (split_divide.f k a0 a1) (split_divide.f (k + 1) a0 a1) := by
  intro a0 a1 k
  obtain ⟨ih0, ih1⟩ := split_divide.mono_l k
  unfold split_divide.f
  repeat' first
      | (with_reducible exact ih0 _ _ _ _ _)
      | (with_reducible exact ih1 _ _ _ _ _ _ _)
      | (with_reducible exact split_behind.mono _ _ _ _)
      | (with_reducible exact split_role.mono _ _ _ _)
      | (with_reducible exact LeO.refl _)
      | (with_reducible exact LeO.none _)
      | (with_reducible refine LeO.ite ?_ ?_)
      | (with_reducible refine LeO.bind ?_ (fun _ => ?_))
      | exact ih0 _ _ _ _ _
      | exact ih1 _ _ _ _ _ _ _
      | exact split_behind.mono _ _ _ _
      | exact split_role.mono _ _ _ _
      | exact LeO.none _
      | refine LeO.ite ?_ ?_
      | refine LeO.bind ?_ (fun _ => ?_)
set_option maxHeartbeats 3000000 in
set_option maxRecDepth 100000 in
theorem split_divide.calls (k : Nat) (P0_ : Nat → Prop) (A0 : Option Addr) (c0 : Nat) (l0 : List (S66)) (a1 : ByteArray) (r : List (List (S66))) (w : World) (hs0 : Kd.V k66 66 w w.heap.size (fun k_ => P0_ k_) (.slice A0 l0.length c0) l0) (h : split_divide.f k l0 a1 = some r) :
    Calls Try.prog 26 #[.slice A0 l0.length c0, .string a1] w fun e w' => ∃ v0_ : Value, e = .returned (v0_) ∧ Kd.N (Kd.slice 66 k66) 46 w' w.heap.size (fun k_ => (P0_ k_ ∨ w.heap.size ≤ k_)) v0_ r ∧ Below w.heap.size w w' := by
  have hu66 := Try.underlying66
  have HO0 := Aside0.mk (show Kd.V k66 66 w w.heap.size (fun k_ => (P0_ k_ ∨ w.heap.size ≤ k_)) (.slice A0 l0.length c0) l0 from Kd.V_mono hs0 (fun k_ hk => .inl hk))
  have HB := Aside0.mk (Below.refl w.heap.size w)
  have H : (split_divide.l0 k l0 a1 ([] : List (List (S66))) 0 0) = some r := h
  clear h
  have H' := Aside0.mk H
  clear H
  go_enter Try.func26, Try.ntmps26
  go_wp2
  go_loopg [5, 6, 7] k (fun kq v5 v6 v7 w' => ∃ (x5_1 : List (List (S66))) (x6_1 : Int) (x7_1 : Int), v6 = .int .i64 x6_1 ∧ v7 = .int .i64 x7_1 ∧ Aside0 (split_divide.l0 kq l0 a1 x5_1 x6_1 x7_1 = some r) ∧ Aside0 (kq ≤ k) ∧ Aside0 (Kd.V k66 66 w' w.heap.size (fun k_ => (P0_ k_ ∨ w.heap.size ≤ k_) ∧ some k_ ≠ (v5 : Value).ownBlock) (.slice A0 l0.length c0) l0) ∧ Aside0 (Kd.N (Kd.slice 66 k66) 46 w' w.heap.size (fun k_ => (P0_ k_ ∨ w.heap.size ≤ k_)) v5 x5_1) ∧ Aside0 (Below w.heap.size w w'))
  case atStart => exact ⟨(([] : List (List (S66)))), (0), (0), (by first | rfl | (simp; done) | (simp [*]; done)), (by first | rfl | (simp; done) | (simp [*]; done)), H', ⟨Nat.le_refl _⟩, ⟨by (with_reducible repeat (first | apply Kd.V_alloc | apply Kd.V_drewN | apply Kd.V_drew)); exact Kd.V_mono HO0.out (fun _ hk => ⟨hk, (by simp [Value.ownBlock])⟩)⟩, ⟨by first | exact Kd.S_nil _ _ _ _ _ | exact Kd.N_nil _ _ _ _ _ | exact Kd.V_nil _ _ _ _ _ | exact Kd.Q_nil _ _ _ _ _ | exact Kd.R_nil _ _ _ _ _⟩, ⟨by repeat (first | (with_reducible first | exact HB.out | apply below_alloc | apply pw_below_drewN | apply below_drew1) | exact HB.out)⟩⟩
  case round =>
    clear H'
    try clear c2
    try clear p2
    obtain ⟨x5_1, x6_1, x7_1, rfl, rfl, HA, HK1, HO_0, HO_5, HB⟩ := hrel
    cases gk with
    | zero => exact absurd HA.out (by simp [split_divide.l0])
    | succ k1 =>
      have H := HA.out
      clear HA
      simp only [split_divide.l0] at H
      by_cases c3 : x7_1 < (l0.length : Int)
      · rw [if_pos c3] at H
        have c3b0 : decide (x7_1 < (l0.length : Int)) = true := decide_eq_true c3
        clear c3
        by_cases c4 : 0 ≤ x7_1
        · rw [if_pos c4] at H
          have c4b0 : decide (0 ≤ x7_1) = true := decide_eq_true c4
          clear c4
          replace H := Option.bind_eq_some_iff.mp H
          obtain ⟨t116, A50, H⟩ := H
          replace H : (if t116 = 0 then (split_divide.l0 k1 l0 a1 x5_1 x6_1 (wrap64 (x7_1 + 1))) else (if t116 = 3 then (if x7_1 > x6_1 then (if 0 ≤ x6_1 then (if x6_1 ≤ x7_1 then (if x7_1 ≤ (l0.length : Int) then (if x5_1.length < 5864062014805 then (split_divide.l0 k1 l0 a1 (x5_1 ++ [((l0.take (x7_1 : Int).toNat).drop (x6_1 : Int).toNat)]) (wrap64 (x7_1 + 1)) (wrap64 (x7_1 + 1))) else (none)) else (none)) else (none)) else (none)) else (split_divide.l0 k1 l0 a1 x5_1 (wrap64 (x7_1 + 1)) (wrap64 (x7_1 + 1)))) else (if t116 = 1 then ((split_behind.f k1 l0 x7_1 a1).bind fun t125 => (if x7_1 > x6_1 then (if t125 < (l0.length : Int) then (if 0 ≤ t125 then ((split_role.f k1 ((rd_T66 l0 t125).f0) ((rd_T66 l0 t125).f1) a1).bind fun t127 => (split_divide.j1 k1 l0 a1 x5_1 x6_1 x7_1 t125 (t127 == 2))) else (none)) else (split_divide.j1 k1 l0 a1 x5_1 x6_1 x7_1 t125 false)) else (split_divide.j1 k1 l0 a1 x5_1 x6_1 x7_1 t125 false))) else (if t116 = 2 then (if 0 ≤ x6_1 then (if x6_1 ≤ x7_1 then (if x7_1 ≤ (l0.length : Int) then (if x5_1.length < 5864062014805 then ((split_behind.f k1 l0 (wrap64 (x7_1 + 1)) a1).bind fun t153 => (split_divide.l0 k1 l0 a1 (x5_1 ++ [((l0.take (x7_1 : Int).toNat).drop (x6_1 : Int).toNat)]) t153 t153)) else (none)) else (none)) else (none)) else (none)) else (split_divide.l0 k1 l0 a1 x5_1 x7_1 x7_1))))) = some r := H
          have A5 := Aside0.mk A50
          clear A50
          by_cases c6 : t116 = 0
          · rw [if_pos c6] at H
            have c6b0 : (t116 == 0) = true := beq_iff_eq.mpr c6
            have c6b1 : (t116 != 0) = false := bne_eq_false_iff_eq.mpr c6
            clear c6
            have H' := Aside0.mk H
            clear H
            have p115 : 0 ≤ (x7_1 : Int) := of_decide_eq_true (by first | (with_reducible assumption) | assumption)
            have q115 : x7_1 < (l0.length : Int) := of_decide_eq_true (by first | (with_reducible assumption) | assumption)
            obtain ⟨ad115, e115, hx115_0, hx115_1⟩ := at_T66 (Kd.V_reads' HO_0.out).2.2 x7_1 p115 q115
            cases e115
            replace p115 := eq_true p115
            replace q115 := eq_true q115
            go_wp2_with (first | ((with_reducible refine gate_callee (f := 36) rfl ?_); refine goesL_ (some 20) rfl rfl Try.func36 (by kernel_rfl) rfl #[.agg #[.string ((rd_T66 l0 x7_1).f0), .int .i64 ((rd_T66 l0 x7_1).f1)], .string a1] rfl (by (try simp only [List.map_toArray, List.map_cons, List.map_nil]); first | done | rfl | (simp only [List.length_drop, List.length_take]; rfl)) ?_; (with_reducible refine (split_role.calls k1 ((rd_T66 l0 x7_1).f0) ((rd_T66 l0 x7_1).f1) a1 t116 _ A5.out).mono ?_); rintro e w7 ⟨rfl, hb⟩; refine ⟨_, rfl, ?_⟩; have n0_ := Aside0.mk (Kd.V_below (by (with_reducible repeat (first | apply Kd.V_alloc | apply Kd.V_drewN | apply Kd.V_drew)); exact HO_0.out) hb); have n1_ := Aside0.mk (Kd.N_below (by (with_reducible repeat (first | apply Kd.N_alloc | apply Kd.N_drewN | apply Kd.N_drew)); exact HO_5.out) hb); have n2_ := Aside0.mk (below_step (by repeat (first | (with_reducible first | exact HB.out | apply below_alloc | apply pw_below_drewN | apply below_drew1) | exact HB.out)) hb); clear HO_0; clear HO_5; clear HB; have HO_0 := n0_; have HO_5 := n1_; have HB := n2_; clear n0_ n1_ n2_; (try clear hb); (try clear hb2); (try clear hk); (try clear hi)))
            go_roundg k1
            case measure => have := HK1.out; omega
            case rel => exact ⟨(x5_1), (x6_1), (wrap64 (x7_1 + 1)), (by first | rfl | (simp; done) | (simp [*]; done)), (by first | rfl | (simp; done) | (simp [*]; done)), H', ⟨by have := HK1.out; omega⟩, ⟨by (with_reducible repeat (first | apply Kd.V_alloc | apply Kd.V_drewN | apply Kd.V_drew)); exact HO_0.out⟩, ⟨by (with_reducible repeat (first | apply Kd.N_alloc | apply Kd.N_drewN | apply Kd.N_drew)); exact HO_5.out⟩, ⟨by repeat (first | (with_reducible first | exact HB.out | apply below_alloc | apply pw_below_drewN | apply below_drew1) | exact HB.out)⟩⟩
          · rw [if_neg c6] at H
            have c6b0 : (t116 == 0) = false := beq_eq_false_iff_ne.mpr c6
            have c6b1 : (t116 != 0) = true := bne_iff_ne.mpr c6
            by_cases c8 : t116 = 3
            · rw [if_pos c8] at H
              have c8b0 : (t116 == 3) = true := beq_iff_eq.mpr c8
              have c8b1 : (t116 != 3) = false := bne_eq_false_iff_eq.mpr c8
              clear c8
              by_cases c9 : x7_1 > x6_1
              · rw [if_pos c9] at H
                have c9b0 : decide (x6_1 < x7_1) = true := decide_eq_true c9
                clear c9
                by_cases c10 : 0 ≤ x6_1
                · rw [if_pos c10] at H
                  have c10b0 := eq_true c10
                  have c10b1 : decide (0 ≤ x6_1) = true := decide_eq_true c10
                  clear c10
                  by_cases c11 : x6_1 ≤ x7_1
                  · rw [if_pos c11] at H
                    have c11b0 := eq_true c11
                    have c11b1 : decide (x6_1 ≤ x7_1) = true := decide_eq_true c11
                    clear c11
                    by_cases c12 : x7_1 ≤ (l0.length : Int)
                    · rw [if_pos c12] at H
                      have c12b0 := eq_true c12
                      have c12b1 : decide (x7_1 ≤ (l0.length : Int)) = true := decide_eq_true c12
                      clear c12
                      obtain ⟨y117, hy117⟩ : ∃ y_ : List (S66), y_ = ((l0.take (x7_1 : Int).toNat).drop (x6_1 : Int).toNat) := ⟨_, rfl⟩
                      replace H : (if x5_1.length < 5864062014805 then (split_divide.l0 k1 l0 a1 (x5_1 ++ [y117]) (wrap64 (x7_1 + 1)) (wrap64 (x7_1 + 1))) else (none)) = some r := by first | (rw [hy117]; with_reducible exact H) | (have H2_ := (Option.bind_some _ _).symm.trans H; rw [hy117]; with_reducible exact H2_) | (have H2_ := (Option.bind_some _ _).symm.trans H; with_reducible exact H2_) | with_reducible exact H | (rw [hy117]; exact H) | exact H
                      have Ny117 := Aside0.mk hy117
                      clear hy117
                      by_cases c13 : x5_1.length < 5864062014805
                      · rw [if_pos c13] at H
                        have LMc13 := Aside0.mk c13
                        clear c13
                        obtain ⟨y122, hy122⟩ : ∃ y_ : List (List (S66)), y_ = (x5_1 ++ [y117]) := ⟨_, rfl⟩
                        replace H : (split_divide.l0 k1 l0 a1 y122 (wrap64 (x7_1 + 1)) (wrap64 (x7_1 + 1))) = some r := by first | (rw [hy122]; with_reducible exact H) | (have H2_ := (Option.bind_some _ _).symm.trans H; rw [hy122]; with_reducible exact H2_) | (have H2_ := (Option.bind_some _ _).symm.trans H; with_reducible exact H2_) | with_reducible exact H | (rw [hy122]; exact H) | exact H
                        have Ny122 := Aside0.mk hy122
                        clear hy122
                        have H' := Aside0.mk H
                        clear H
                        have p115 : 0 ≤ (x7_1 : Int) := of_decide_eq_true (by first | (with_reducible assumption) | assumption)
                        have q115 : x7_1 < (l0.length : Int) := of_decide_eq_true (by first | (with_reducible assumption) | assumption)
                        obtain ⟨ad115, e115, hx115_0, hx115_1⟩ := at_T66 (Kd.V_reads' HO_0.out).2.2 x7_1 p115 q115
                        cases e115
                        replace p115 := eq_true p115
                        replace q115 := eq_true q115
                        go_wp2_with (first | ((with_reducible refine gate_callee (f := 36) rfl ?_); refine goesL_ (some 20) rfl rfl Try.func36 (by kernel_rfl) rfl #[.agg #[.string ((rd_T66 l0 x7_1).f0), .int .i64 ((rd_T66 l0 x7_1).f1)], .string a1] rfl (by (try simp only [List.map_toArray, List.map_cons, List.map_nil]); first | done | rfl | (simp only [List.length_drop, List.length_take]; rfl)) ?_; (with_reducible refine (split_role.calls k1 ((rd_T66 l0 x7_1).f0) ((rd_T66 l0 x7_1).f1) a1 t116 _ A5.out).mono ?_); rintro e w14 ⟨rfl, hb⟩; refine ⟨_, rfl, ?_⟩; have n0_ := Aside0.mk (Kd.V_below (by (with_reducible repeat (first | apply Kd.V_alloc | apply Kd.V_drewN | apply Kd.V_drew)); exact HO_0.out) hb); have n1_ := Aside0.mk (Kd.N_below (by (with_reducible repeat (first | apply Kd.N_alloc | apply Kd.N_drewN | apply Kd.N_drew)); exact HO_5.out) hb); have n2_ := Aside0.mk (below_step (by repeat (first | (with_reducible first | exact HB.out | apply below_alloc | apply pw_below_drewN | apply below_drew1) | exact HB.out)) hb); clear HO_0; clear HO_5; clear HB; have HO_0 := n0_; have HO_5 := n1_; have HB := n2_; clear n0_ n1_ n2_; (try clear hb); (try clear hb2); (try clear hk); (try clear hi); have q15 : (x7_1 : Int) ≤ ((l0.length : Int) : Int) := of_decide_eq_true (by first | (with_reducible assumption) | assumption); obtain ⟨i015, hi015, _, hsz15, _⟩ := info_parts info66; have hroom15 : l0.length ≤ c0 := (Kd.V_reads' HO_0.out).2.1; have hC15 : Kd.F k66 _ _ (some ad115) l0.length l0 := (Kd.V_at (base := w.heap.size) HO_0.out).2.2; have ql15 : (x6_1 : Int) ≤ (x7_1 : Int) := of_decide_eq_true (by first | (with_reducible assumption) | assumption); have q015 : (0 : Int) ≤ (x6_1 : Int) := of_decide_eq_true (by first | (with_reducible assumption) | assumption); have hr15 := Kd.F_mid3 (lo := (x6_1 : Int).toNat) (hi := (x7_1 : Int).toNat) hC15 (by omega) (by omega); obtain ⟨A15, hA15⟩ : ∃ A1, A1 = (if (x7_1 : Int).toNat = (x6_1 : Int).toNat then (some ad115) else ((some ad115) : Option Addr).map (·.add ((x6_1 : Int).toNat * 2))) := ⟨_, rfl⟩; obtain ⟨c15, hc15⟩ : ∃ c1, c1 = (x7_1 : Int).toNat - (x6_1 : Int).toNat := ⟨_, rfl⟩; have hcut15 := cut_mid3 (P := Try.prog) 46 66 .i64 .i64 .i64 Try.underlying46 hi015 2 hsz15 (some ad115) l0.length c0 x6_1 x7_1 q015 ql15 q15 hroom15 c15 hc15; have hy15 : y117.length = (x7_1 : Int).toNat - (x6_1 : Int).toNat := (by rw [Ny117.out, List.length_drop, List.length_take] <;> omega); rw [show ((l0).take (x7_1 : Int).toNat).drop (x6_1 : Int).toNat = y117 from Ny117.out.symm] at hr15; replace hr15 : Kd.F k66 _ _ A15 y117.length y117 := (by rw [hA15]; exact hr15); rw [← hy15, ← hA15] at hcut15; have HO121 := Aside0.mk (show Kd.V k66 66 _ w.heap.size _ (.slice A15 y117.length c15) y117 from Kd.V_mk (by rw [hy15, hc15]; exact Nat.le_refl _) hr15); have HC121 := Aside0.mk (show y117.length ≤ c15 from by rw [hy15, hc15]; exact Nat.le_refl _); clear hr15 hC15 hroom15 hi015 hsz15 hc15; have KY15 := Aside0.mk hy15; have KA15 := Aside0.mk hA15; clear hy15 hA15; replace q15 := eq_true q15) | ((with_reducible refine gate_builtin (b := .append) (xs := #[.tmp 32, .tmp 38]) rfl ?_); (try (refine gate_guard (by rfl) ?_; dsimp only)); at_builtin; refine Kd.N_append (Kd.slice 66 k66) (w0 := w) w.heap.size rfl (.tmp 32) (.tmp 38) 44 46 (.slice none 0 0) 24 rfl Try.underlying44 info46 rfl (by decide) (by omega) u5 x5_1 y117 [.slice A15 y117.length c15] (fun k_ => (P0_ k_ ∨ w.heap.size ≤ k_)) (fun k_ => ((fun k_ => (P0_ k_ ∨ w.heap.size ≤ k_))) k_ ∧ some k_ ≠ (u5 : Value).ownBlock) rfl rfl ?aP (fun _ hk => hk) ?aF ?aO ?aB ?aS ?aL ?_; (case aP => exact (Kd.FK_slice_mk (Kd.V_reads' (Kd.V_mono (ok' := (fun k_ => ((fun k_ => (P0_ k_ ∨ w.heap.size ≤ k_))) k_ ∧ some k_ ≠ (u5 : Value).ownBlock)) (HO121.out) (fun k_ hk => ⟨hk.1, hk.2⟩))).2.1 (Kd.V_F (Kd.V_mono (ok' := (fun k_ => ((fun k_ => (P0_ k_ ∨ w.heap.size ≤ k_))) k_ ∧ some k_ ≠ (u5 : Value).ownBlock)) (HO121.out) (fun k_ hk => ⟨hk.1, hk.2⟩))))); (case aB => exact (by repeat (first | (with_reducible first | exact HB.out | apply below_alloc | apply pw_below_drewN | apply below_drew1) | exact HB.out))); (case aF => exact (fun k_ hk => (.inr (Nat.le_trans (below_size (by repeat (first | (with_reducible first | exact HB.out | apply below_alloc | apply pw_below_drewN | apply below_drew1) | exact HB.out))) hk)))); (case aO => exact (by (with_reducible repeat (first | apply Kd.N_alloc | apply Kd.N_drewN | apply Kd.N_drew)); exact HO_5.out)); (case aS => exact (below_size (by repeat (first | (with_reducible first | exact HB.out | apply below_alloc | apply pw_below_drewN | apply below_drew1) | exact HB.out)))); (case aL => have := LMc13.out; omega); intro v123 w16 ho hb hg hat; rw [← Ny122.out] at ho; have n0_ := Aside0.mk (Kd.V_afterv (ok := (fun k_ => (P0_ k_ ∨ w.heap.size ≤ k_))) (by (with_reducible repeat (first | apply Kd.V_alloc | apply Kd.V_drewN | apply Kd.V_drew)); exact HO_0.out) hg hat); have n1_ := Aside0.mk (Kd.V_afterv (ok := (fun k_ => (P0_ k_ ∨ w.heap.size ≤ k_))) (by (with_reducible repeat (first | apply Kd.V_alloc | apply Kd.V_drewN | apply Kd.V_drew)); exact HO121.out) hg hat); have n2_ := Aside0.mk (hb); have n3_ := Aside0.mk (ho); clear HO_0; clear HO121; clear HB; clear HO_5; have HO_0 := n0_; have HO121 := n1_; have HB := n2_; have HO124 := n3_; clear n0_ n1_ n2_ n3_; clear ho hb hg hat))
                        go_roundg k1
                        case measure => have := HK1.out; omega
                        case rel => exact ⟨(y122), (wrap64 (x7_1 + 1)), (wrap64 (x7_1 + 1)), (by first | rfl | (simp; done) | (simp [*]; done)), (by first | rfl | (simp; done) | (simp [*]; done)), H', ⟨by have := HK1.out; omega⟩, ⟨by (with_reducible repeat (first | apply Kd.V_alloc | apply Kd.V_drewN | apply Kd.V_drew)); exact HO_0.out⟩, ⟨by (with_reducible repeat (first | apply Kd.N_alloc | apply Kd.N_drewN | apply Kd.N_drew)); exact HO124.out⟩, ⟨by repeat (first | (with_reducible first | exact HB.out | apply below_alloc | apply pw_below_drewN | apply below_drew1) | exact HB.out)⟩⟩
                      · rw [if_neg c13] at H
                        exact absurd H (by simp)
                    · rw [if_neg c12] at H
                      exact absurd H (by simp)
                  · rw [if_neg c11] at H
                    exact absurd H (by simp)
                · rw [if_neg c10] at H
                  exact absurd H (by simp)
              · rw [if_neg c9] at H
                have c9b0 : decide (x6_1 < x7_1) = false := decide_eq_false c9
                clear c9
                have H' := Aside0.mk H
                clear H
                have p115 : 0 ≤ (x7_1 : Int) := of_decide_eq_true (by first | (with_reducible assumption) | assumption)
                have q115 : x7_1 < (l0.length : Int) := of_decide_eq_true (by first | (with_reducible assumption) | assumption)
                obtain ⟨ad115, e115, hx115_0, hx115_1⟩ := at_T66 (Kd.V_reads' HO_0.out).2.2 x7_1 p115 q115
                cases e115
                replace p115 := eq_true p115
                replace q115 := eq_true q115
                go_wp2_with (first | ((with_reducible refine gate_callee (f := 36) rfl ?_); refine goesL_ (some 20) rfl rfl Try.func36 (by kernel_rfl) rfl #[.agg #[.string ((rd_T66 l0 x7_1).f0), .int .i64 ((rd_T66 l0 x7_1).f1)], .string a1] rfl (by (try simp only [List.map_toArray, List.map_cons, List.map_nil]); first | done | rfl | (simp only [List.length_drop, List.length_take]; rfl)) ?_; (with_reducible refine (split_role.calls k1 ((rd_T66 l0 x7_1).f0) ((rd_T66 l0 x7_1).f1) a1 t116 _ A5.out).mono ?_); rintro e w17 ⟨rfl, hb⟩; refine ⟨_, rfl, ?_⟩; have n0_ := Aside0.mk (Kd.V_below (by (with_reducible repeat (first | apply Kd.V_alloc | apply Kd.V_drewN | apply Kd.V_drew)); exact HO_0.out) hb); have n1_ := Aside0.mk (Kd.N_below (by (with_reducible repeat (first | apply Kd.N_alloc | apply Kd.N_drewN | apply Kd.N_drew)); exact HO_5.out) hb); have n2_ := Aside0.mk (below_step (by repeat (first | (with_reducible first | exact HB.out | apply below_alloc | apply pw_below_drewN | apply below_drew1) | exact HB.out)) hb); clear HO_0; clear HO_5; clear HB; have HO_0 := n0_; have HO_5 := n1_; have HB := n2_; clear n0_ n1_ n2_; (try clear hb); (try clear hb2); (try clear hk); (try clear hi)))
                go_roundg k1
                case measure => have := HK1.out; omega
                case rel => exact ⟨(x5_1), (wrap64 (x7_1 + 1)), (wrap64 (x7_1 + 1)), (by first | rfl | (simp; done) | (simp [*]; done)), (by first | rfl | (simp; done) | (simp [*]; done)), H', ⟨by have := HK1.out; omega⟩, ⟨by (with_reducible repeat (first | apply Kd.V_alloc | apply Kd.V_drewN | apply Kd.V_drew)); exact HO_0.out⟩, ⟨by (with_reducible repeat (first | apply Kd.N_alloc | apply Kd.N_drewN | apply Kd.N_drew)); exact HO_5.out⟩, ⟨by repeat (first | (with_reducible first | exact HB.out | apply below_alloc | apply pw_below_drewN | apply below_drew1) | exact HB.out)⟩⟩
            · rw [if_neg c8] at H
              have c8b0 : (t116 == 3) = false := beq_eq_false_iff_ne.mpr c8
              have c8b1 : (t116 != 3) = true := bne_iff_ne.mpr c8
              by_cases c18 : t116 = 1
              · rw [if_pos c18] at H
                have c18b0 : (t116 == 1) = true := beq_iff_eq.mpr c18
                have c18b1 : (t116 != 1) = false := bne_eq_false_iff_eq.mpr c18
                clear c18
                replace H := Option.bind_eq_some_iff.mp H
                obtain ⟨t125, A190, H⟩ := H
                replace H : (if x7_1 > x6_1 then (if t125 < (l0.length : Int) then (if 0 ≤ t125 then ((split_role.f k1 ((rd_T66 l0 t125).f0) ((rd_T66 l0 t125).f1) a1).bind fun t127 => (split_divide.j1 k1 l0 a1 x5_1 x6_1 x7_1 t125 (t127 == 2))) else (none)) else (split_divide.j1 k1 l0 a1 x5_1 x6_1 x7_1 t125 false)) else (split_divide.j1 k1 l0 a1 x5_1 x6_1 x7_1 t125 false)) = some r := H
                have A19 := Aside0.mk A190
                clear A190
                have HC20 := Aside0.mk H
                clear H
                have p115 : 0 ≤ (x7_1 : Int) := of_decide_eq_true (by first | (with_reducible assumption) | assumption)
                have q115 : x7_1 < (l0.length : Int) := of_decide_eq_true (by first | (with_reducible assumption) | assumption)
                obtain ⟨ad115, e115, hx115_0, hx115_1⟩ := at_T66 (Kd.V_reads' HO_0.out).2.2 x7_1 p115 q115
                cases e115
                replace p115 := eq_true p115
                replace q115 := eq_true q115
                go_upto_region 15 with (first | ((with_reducible refine gate_callee (f := 36) rfl ?_); refine goesL_ (some 20) rfl rfl Try.func36 (by kernel_rfl) rfl #[.agg #[.string ((rd_T66 l0 x7_1).f0), .int .i64 ((rd_T66 l0 x7_1).f1)], .string a1] rfl (by (try simp only [List.map_toArray, List.map_cons, List.map_nil]); first | done | rfl | (simp only [List.length_drop, List.length_take]; rfl)) ?_; (with_reducible refine (split_role.calls k1 ((rd_T66 l0 x7_1).f0) ((rd_T66 l0 x7_1).f1) a1 t116 _ A5.out).mono ?_); rintro e w21 ⟨rfl, hb⟩; refine ⟨_, rfl, ?_⟩; have n0_ := Aside0.mk (Kd.V_below (by (with_reducible repeat (first | apply Kd.V_alloc | apply Kd.V_drewN | apply Kd.V_drew)); exact HO_0.out) hb); have n1_ := Aside0.mk (Kd.N_below (by (with_reducible repeat (first | apply Kd.N_alloc | apply Kd.N_drewN | apply Kd.N_drew)); exact HO_5.out) hb); have n2_ := Aside0.mk (below_step (by repeat (first | (with_reducible first | exact HB.out | apply below_alloc | apply pw_below_drewN | apply below_drew1) | exact HB.out)) hb); clear HO_0; clear HO_5; clear HB; have HO_0 := n0_; have HO_5 := n1_; have HB := n2_; clear n0_ n1_ n2_; (try clear hb); (try clear hb2); (try clear hk); (try clear hi)) | ((with_reducible refine gate_callee (f := 35) rfl ?_); refine goesL_ (some 45) rfl rfl Try.func35 (by kernel_rfl) rfl #[.slice (some ad115) l0.length c0, .int .i64 x7_1, .string a1] rfl (by (try simp only [List.map_toArray, List.map_cons, List.map_nil]); first | done | rfl | (simp only [List.length_drop, List.length_take]; rfl)) ?_; (with_reducible refine (split_behind.calls k1 _ _ l0 x7_1 a1 t125 _ ?side1 ?side2 A19.out).mono ?_); (case side1 => repeat (first | exact (Kd.V_reads' HO_0.out).2.2 | (with_reducible refine Kd.C_alloc ?_ _) | (with_reducible refine Kd.C_drewN ?_ _) | (with_reducible refine Kd.C_drew ?_))); (case side2 => exact (Kd.V_reads' HO_0.out).2.1); rintro e w22 ⟨rfl, hb⟩; refine ⟨_, rfl, ?_⟩; have n0_ := Aside0.mk (Kd.V_below (by (with_reducible repeat (first | apply Kd.V_alloc | apply Kd.V_drewN | apply Kd.V_drew)); exact HO_0.out) hb); have n1_ := Aside0.mk (Kd.N_below (by (with_reducible repeat (first | apply Kd.N_alloc | apply Kd.N_drewN | apply Kd.N_drew)); exact HO_5.out) hb); have n2_ := Aside0.mk (below_step (by repeat (first | (with_reducible first | exact HB.out | apply below_alloc | apply pw_below_drewN | apply below_drew1) | exact HB.out)) hb); clear HO_0; clear HO_5; clear HB; have HO_0 := n0_; have HO_5 := n1_; have HB := n2_; clear n0_ n1_ n2_; (try clear hb); (try clear hb2); (try clear hk); (try clear hi)))
                (try simp only [Act.put, List.setIfInBounds_toArray, List.set_cons_zero, List.set_cons_succ])
                go_cut [63] (fun v63 wc => ∃ (kq : Nat) (x63_19 : Bool), v63 = .bool x63_19 ∧ Aside0 (split_divide.j1 kq l0 a1 x5_1 x6_1 x7_1 t125 x63_19 = some r) ∧ Aside0 (kq ≤ k1) ∧ Aside0 (Kd.V k66 66 wc w.heap.size (fun k_ => (P0_ k_ ∨ w.heap.size ≤ k_) ∧ some k_ ≠ (u5 : Value).ownBlock) (.slice (some ad115) l0.length c0) l0) ∧ Aside0 (Kd.N (Kd.slice 66 k66) 46 wc w.heap.size (fun k_ => (P0_ k_ ∨ w.heap.size ≤ k_)) u5 x5_1) ∧ Aside0 (Below w.heap.size w wc))
                case first =>
                  have H := HC20.out
                  clear HC20
                  by_cases c23 : x7_1 > x6_1
                  · rw [if_pos c23] at H
                    have c23b0 : decide (x6_1 < x7_1) = true := decide_eq_true c23
                    clear c23
                    (first | rw [c23b0] | (simp only [i64_w, i32_w]; rw [c23b0]) | skip)
                    by_cases c24 : t125 < (l0.length : Int)
                    · rw [if_pos c24] at H
                      have c24b0 : decide (t125 < (l0.length : Int)) = true := decide_eq_true c24
                      clear c24
                      by_cases c25 : 0 ≤ t125
                      · rw [if_pos c25] at H
                        have c25b0 : decide (0 ≤ t125) = true := decide_eq_true c25
                        clear c25
                        replace H := Option.bind_eq_some_iff.mp H
                        obtain ⟨t127, A260, H⟩ := H
                        replace H : (split_divide.j1 k1 l0 a1 x5_1 x6_1 x7_1 t125 (t127 == 2)) = some r := H
                        have A26 := Aside0.mk A260
                        clear A260
                        have H' := Aside0.mk H
                        clear H
                        have p126 : 0 ≤ (t125 : Int) := of_decide_eq_true (by first | (with_reducible assumption) | assumption)
                        have q126 : t125 < (l0.length : Int) := of_decide_eq_true (by first | (with_reducible assumption) | assumption)
                        obtain ⟨ad126, e126, hx126_0, hx126_1⟩ := at_T66 (Kd.V_reads' HO_0.out).2.2 t125 p126 q126
                        obtain rfl : ad115 = ad126 := (by injection e126)
                        replace p126 := eq_true p126
                        replace q126 := eq_true q126
                        go_wp2_with (first | (go_at_call 36; (with_reducible refine (split_role.calls k1 ((rd_T66 l0 t125).f0) ((rd_T66 l0 t125).f1) a1 t127 _ A26.out).mono ?_); rintro e w27 ⟨rfl, hb⟩; have n0_ := Aside0.mk (Kd.V_below (by (with_reducible repeat (first | apply Kd.V_alloc | apply Kd.V_drewN | apply Kd.V_drew)); exact HO_0.out) hb); have n1_ := Aside0.mk (Kd.N_below (by (with_reducible repeat (first | apply Kd.N_alloc | apply Kd.N_drewN | apply Kd.N_drew)); exact HO_5.out) hb); have n2_ := Aside0.mk (below_step (by repeat (first | (with_reducible first | exact HB.out | apply below_alloc | apply pw_below_drewN | apply below_drew1) | exact HB.out)) hb); clear HO_0; clear HO_5; clear HB; have HO_0 := n0_; have HO_5 := n1_; have HB := n2_; clear n0_ n1_ n2_; (try clear hb); (try clear hb2); (try clear hk); (try clear hi)))
                        go_meet
                        case rel => exact ⟨_, ((t127 == 2)), (by first | rfl | (simp; done) | (simp [*]; done)), H', ⟨by have := HK1.out; first | omega | exact Nat.le_refl _⟩, ⟨by (with_reducible repeat (first | apply Kd.V_alloc | apply Kd.V_drewN | apply Kd.V_drew)); exact HO_0.out⟩, ⟨by (with_reducible repeat (first | apply Kd.N_alloc | apply Kd.N_drewN | apply Kd.N_drew)); exact HO_5.out⟩, ⟨by repeat (first | (with_reducible first | exact HB.out | apply below_alloc | apply pw_below_drewN | apply below_drew1) | exact HB.out)⟩⟩
                      · rw [if_neg c25] at H
                        exact absurd H (by simp)
                    · rw [if_neg c24] at H
                      have c24b0 : decide (t125 < (l0.length : Int)) = false := decide_eq_false c24
                      clear c24
                      have H' := Aside0.mk H
                      clear H
                      go_wp2
                      go_meet
                      case rel => exact ⟨_, (false), (by first | rfl | (simp; done) | (simp [*]; done)), H', ⟨by have := HK1.out; first | omega | exact Nat.le_refl _⟩, ⟨by (with_reducible repeat (first | apply Kd.V_alloc | apply Kd.V_drewN | apply Kd.V_drew)); exact HO_0.out⟩, ⟨by (with_reducible repeat (first | apply Kd.N_alloc | apply Kd.N_drewN | apply Kd.N_drew)); exact HO_5.out⟩, ⟨by repeat (first | (with_reducible first | exact HB.out | apply below_alloc | apply pw_below_drewN | apply below_drew1) | exact HB.out)⟩⟩
                  · rw [if_neg c23] at H
                    have c23b0 : decide (x6_1 < x7_1) = false := decide_eq_false c23
                    clear c23
                    (first | rw [c23b0] | (simp only [i64_w, i32_w]; rw [c23b0]) | skip)
                    have H' := Aside0.mk H
                    clear H
                    go_wp2
                    go_meet
                    case rel => exact ⟨_, (false), (by first | rfl | (simp; done) | (simp [*]; done)), H', ⟨by have := HK1.out; first | omega | exact Nat.le_refl _⟩, ⟨by (with_reducible repeat (first | apply Kd.V_alloc | apply Kd.V_drewN | apply Kd.V_drew)); exact HO_0.out⟩, ⟨by (with_reducible repeat (first | apply Kd.N_alloc | apply Kd.N_drewN | apply Kd.N_drew)); exact HO_5.out⟩, ⟨by repeat (first | (with_reducible first | exact HB.out | apply below_alloc | apply pw_below_drewN | apply below_drew1) | exact HB.out)⟩⟩
                case rest =>
                  clear HC20
                  try clear c1
                  try clear p1
                  try clear q1
                  try clear hx1
                  try clear c2
                  try clear p2
                  try clear c3
                  try clear c3b0
                  try clear c4
                  try clear c4b0
                  try clear c6
                  try clear c6b0
                  try clear c6b1
                  try clear p6
                  try clear c8
                  try clear c8b0
                  try clear c8b1
                  try clear c9
                  try clear c9b0
                  try clear c10
                  try clear c10b0
                  try clear c10b1
                  try clear c11
                  try clear c11b0
                  try clear c11b1
                  try clear p11
                  try clear q11
                  try clear hx11
                  try clear c12
                  try clear c12b0
                  try clear c12b1
                  try clear p12
                  try clear q12
                  try clear hx12
                  try clear c13
                  try clear c15
                  try clear q15
                  try clear c18
                  try clear c18b0
                  try clear c18b1
                  try clear c23
                  try clear c23b0
                  try clear c24
                  try clear c24b0
                  try clear c25
                  try clear c25b0
                  try clear c26
                  try clear hx115_0
                  try clear hx115_1
                  try clear hx126_0
                  try clear hx126_1
                  try clear p115
                  try clear p126
                  try clear p2
                  try clear q015
                  try clear q115
                  try clear q126
                  try clear q15
                  obtain ⟨kq, x63_19, rfl, HA, HJ19, HO_0, HO_5, HB⟩ := hcut
                  cases kq with
                  | zero => exact absurd HA.out (by simp [split_divide.j1])
                  | succ kj19 =>
                    have H := HA.out
                    clear HA
                    simp only [split_divide.j1] at H
                    by_cases c28 : x63_19 = true
                    · subst c28
                      have H1 : ((split_behind.f kj19 l0 (wrap64 (t125 + 1)) a1).bind fun t128 => (if x7_1 > x6_1 then (if 0 ≤ x6_1 then (if x6_1 ≤ x7_1 then (if x7_1 ≤ (l0.length : Int) then (if x5_1.length < 5864062014805 then (split_divide.l0 kj19 l0 a1 (x5_1 ++ [((l0.take (x7_1 : Int).toNat).drop (x6_1 : Int).toNat)]) t128 t128) else (none)) else (none)) else (none)) else (none)) else (split_divide.l0 kj19 l0 a1 x5_1 t128 t128))) = some r := by rw [if_pos rfl] at H; exact H
                      clear H
                      have H := H1
                      clear H1
                      replace H := Option.bind_eq_some_iff.mp H
                      obtain ⟨t128, A290, H⟩ := H
                      replace H : (if x7_1 > x6_1 then (if 0 ≤ x6_1 then (if x6_1 ≤ x7_1 then (if x7_1 ≤ (l0.length : Int) then (if x5_1.length < 5864062014805 then (split_divide.l0 kj19 l0 a1 (x5_1 ++ [((l0.take (x7_1 : Int).toNat).drop (x6_1 : Int).toNat)]) t128 t128) else (none)) else (none)) else (none)) else (none)) else (split_divide.l0 kj19 l0 a1 x5_1 t128 t128)) = some r := H
                      have A29 := Aside0.mk A290
                      clear A290
                      by_cases c30 : x7_1 > x6_1
                      · rw [if_pos c30] at H
                        have c30b0 : decide (x6_1 < x7_1) = true := decide_eq_true c30
                        clear c30
                        by_cases c31 : 0 ≤ x6_1
                        · rw [if_pos c31] at H
                          have c31b0 := eq_true c31
                          have c31b1 : decide (0 ≤ x6_1) = true := decide_eq_true c31
                          clear c31
                          by_cases c32 : x6_1 ≤ x7_1
                          · rw [if_pos c32] at H
                            have c32b0 := eq_true c32
                            have c32b1 : decide (x6_1 ≤ x7_1) = true := decide_eq_true c32
                            clear c32
                            by_cases c33 : x7_1 ≤ (l0.length : Int)
                            · rw [if_pos c33] at H
                              have c33b0 := eq_true c33
                              have c33b1 : decide (x7_1 ≤ (l0.length : Int)) = true := decide_eq_true c33
                              clear c33
                              obtain ⟨y129, hy129⟩ : ∃ y_ : List (S66), y_ = ((l0.take (x7_1 : Int).toNat).drop (x6_1 : Int).toNat) := ⟨_, rfl⟩
                              replace H : (if x5_1.length < 5864062014805 then (split_divide.l0 kj19 l0 a1 (x5_1 ++ [y129]) t128 t128) else (none)) = some r := by first | (rw [hy129]; with_reducible exact H) | (have H2_ := (Option.bind_some _ _).symm.trans H; rw [hy129]; with_reducible exact H2_) | (have H2_ := (Option.bind_some _ _).symm.trans H; with_reducible exact H2_) | with_reducible exact H | (rw [hy129]; exact H) | exact H
                              have Ny129 := Aside0.mk hy129
                              clear hy129
                              by_cases c34 : x5_1.length < 5864062014805
                              · rw [if_pos c34] at H
                                have LMc34 := Aside0.mk c34
                                clear c34
                                obtain ⟨y134, hy134⟩ : ∃ y_ : List (List (S66)), y_ = (x5_1 ++ [y129]) := ⟨_, rfl⟩
                                replace H : (split_divide.l0 kj19 l0 a1 y134 t128 t128) = some r := by first | (rw [hy134]; with_reducible exact H) | (have H2_ := (Option.bind_some _ _).symm.trans H; rw [hy134]; with_reducible exact H2_) | (have H2_ := (Option.bind_some _ _).symm.trans H; with_reducible exact H2_) | with_reducible exact H | (rw [hy134]; exact H) | exact H
                                have Ny134 := Aside0.mk hy134
                                clear hy134
                                have H' := Aside0.mk H
                                clear H
                                go_wp2_with (first | ((with_reducible refine gate_callee (f := 35) rfl ?_); refine goesL_ (some 68) rfl rfl Try.func35 (by kernel_rfl) rfl #[.slice (some ad115) l0.length c0, .int .i64 (wrap64 (t125 + 1)), .string a1] rfl (by (try simp only [List.map_toArray, List.map_cons, List.map_nil]); first | done | rfl | (simp only [List.length_drop, List.length_take]; rfl)) ?_; (with_reducible refine (split_behind.calls kj19 _ _ l0 (wrap64 (t125 + 1)) a1 t128 _ ?side1 ?side2 A29.out).mono ?_); (case side1 => repeat (first | exact (Kd.V_reads' HO_0.out).2.2 | (with_reducible refine Kd.C_alloc ?_ _) | (with_reducible refine Kd.C_drewN ?_ _) | (with_reducible refine Kd.C_drew ?_))); (case side2 => exact (Kd.V_reads' HO_0.out).2.1); rintro e w35 ⟨rfl, hb⟩; refine ⟨_, rfl, ?_⟩; have n0_ := Aside0.mk (Kd.V_below (by (with_reducible repeat (first | apply Kd.V_alloc | apply Kd.V_drewN | apply Kd.V_drew)); exact HO_0.out) hb); have n1_ := Aside0.mk (Kd.N_below (by (with_reducible repeat (first | apply Kd.N_alloc | apply Kd.N_drewN | apply Kd.N_drew)); exact HO_5.out) hb); have n2_ := Aside0.mk (below_step (by repeat (first | (with_reducible first | exact HB.out | apply below_alloc | apply pw_below_drewN | apply below_drew1) | exact HB.out)) hb); clear HO_0; clear HO_5; clear HB; have HO_0 := n0_; have HO_5 := n1_; have HB := n2_; clear n0_ n1_ n2_; (try clear hb); (try clear hb2); (try clear hk); (try clear hi); have q36 : (x7_1 : Int) ≤ ((l0.length : Int) : Int) := of_decide_eq_true (by first | (with_reducible assumption) | assumption); obtain ⟨i036, hi036, _, hsz36, _⟩ := info_parts info66; have hroom36 : l0.length ≤ c0 := (Kd.V_reads' HO_0.out).2.1; have hC36 : Kd.F k66 _ _ (some ad115) l0.length l0 := (Kd.V_at (base := w.heap.size) HO_0.out).2.2; have ql36 : (x6_1 : Int) ≤ (x7_1 : Int) := of_decide_eq_true (by first | (with_reducible assumption) | assumption); have q036 : (0 : Int) ≤ (x6_1 : Int) := of_decide_eq_true (by first | (with_reducible assumption) | assumption); have hr36 := Kd.F_mid3 (lo := (x6_1 : Int).toNat) (hi := (x7_1 : Int).toNat) hC36 (by omega) (by omega); obtain ⟨A36, hA36⟩ : ∃ A1, A1 = (if (x7_1 : Int).toNat = (x6_1 : Int).toNat then (some ad115) else ((some ad115) : Option Addr).map (·.add ((x6_1 : Int).toNat * 2))) := ⟨_, rfl⟩; obtain ⟨c36, hc36⟩ : ∃ c1, c1 = (x7_1 : Int).toNat - (x6_1 : Int).toNat := ⟨_, rfl⟩; have hcut36 := cut_mid3 (P := Try.prog) 46 66 .i64 .i64 .i64 Try.underlying46 hi036 2 hsz36 (some ad115) l0.length c0 x6_1 x7_1 q036 ql36 q36 hroom36 c36 hc36; have hy36 : y129.length = (x7_1 : Int).toNat - (x6_1 : Int).toNat := (by rw [Ny129.out, List.length_drop, List.length_take] <;> omega); rw [show ((l0).take (x7_1 : Int).toNat).drop (x6_1 : Int).toNat = y129 from Ny129.out.symm] at hr36; replace hr36 : Kd.F k66 _ _ A36 y129.length y129 := (by rw [hA36]; exact hr36); rw [← hy36, ← hA36] at hcut36; have HO133 := Aside0.mk (show Kd.V k66 66 _ w.heap.size _ (.slice A36 y129.length c36) y129 from Kd.V_mk (by rw [hy36, hc36]; exact Nat.le_refl _) hr36); have HC133 := Aside0.mk (show y129.length ≤ c36 from by rw [hy36, hc36]; exact Nat.le_refl _); clear hr36 hC36 hroom36 hi036 hsz36 hc36; have KY36 := Aside0.mk hy36; have KA36 := Aside0.mk hA36; clear hy36 hA36; replace q36 := eq_true q36) | ((with_reducible refine gate_builtin (b := .append) (xs := #[.tmp 72, .tmp 78]) rfl ?_); (try (refine gate_guard (by rfl) ?_; dsimp only)); at_builtin; refine Kd.N_append (Kd.slice 66 k66) (w0 := w) w.heap.size rfl (.tmp 72) (.tmp 78) 44 46 (.slice none 0 0) 24 rfl Try.underlying44 info46 rfl (by decide) (by omega) u5 x5_1 y129 [.slice A36 y129.length c36] (fun k_ => (P0_ k_ ∨ w.heap.size ≤ k_)) (fun k_ => ((fun k_ => (P0_ k_ ∨ w.heap.size ≤ k_))) k_ ∧ some k_ ≠ (u5 : Value).ownBlock) rfl rfl ?aP (fun _ hk => hk) ?aF ?aO ?aB ?aS ?aL ?_; (case aP => exact (Kd.FK_slice_mk (Kd.V_reads' (Kd.V_mono (ok' := (fun k_ => ((fun k_ => (P0_ k_ ∨ w.heap.size ≤ k_))) k_ ∧ some k_ ≠ (u5 : Value).ownBlock)) (HO133.out) (fun k_ hk => ⟨hk.1, hk.2⟩))).2.1 (Kd.V_F (Kd.V_mono (ok' := (fun k_ => ((fun k_ => (P0_ k_ ∨ w.heap.size ≤ k_))) k_ ∧ some k_ ≠ (u5 : Value).ownBlock)) (HO133.out) (fun k_ hk => ⟨hk.1, hk.2⟩))))); (case aB => exact (by repeat (first | (with_reducible first | exact HB.out | apply below_alloc | apply pw_below_drewN | apply below_drew1) | exact HB.out))); (case aF => exact (fun k_ hk => (.inr (Nat.le_trans (below_size (by repeat (first | (with_reducible first | exact HB.out | apply below_alloc | apply pw_below_drewN | apply below_drew1) | exact HB.out))) hk)))); (case aO => exact (by (with_reducible repeat (first | apply Kd.N_alloc | apply Kd.N_drewN | apply Kd.N_drew)); exact HO_5.out)); (case aS => exact (below_size (by repeat (first | (with_reducible first | exact HB.out | apply below_alloc | apply pw_below_drewN | apply below_drew1) | exact HB.out)))); (case aL => have := LMc34.out; omega); intro v135 w37 ho hb hg hat; rw [← Ny134.out] at ho; have n0_ := Aside0.mk (Kd.V_afterv (ok := (fun k_ => (P0_ k_ ∨ w.heap.size ≤ k_))) (by (with_reducible repeat (first | apply Kd.V_alloc | apply Kd.V_drewN | apply Kd.V_drew)); exact HO_0.out) hg hat); have n1_ := Aside0.mk (Kd.V_afterv (ok := (fun k_ => (P0_ k_ ∨ w.heap.size ≤ k_))) (by (with_reducible repeat (first | apply Kd.V_alloc | apply Kd.V_drewN | apply Kd.V_drew)); exact HO133.out) hg hat); have n2_ := Aside0.mk (hb); have n3_ := Aside0.mk (ho); clear HO_0; clear HO133; clear HB; clear HO_5; have HO_0 := n0_; have HO133 := n1_; have HB := n2_; have HO136 := n3_; clear n0_ n1_ n2_ n3_; clear ho hb hg hat))
                                go_roundg kj19
                                case measure => have := HK1.out; have := HJ19.out; omega
                                case rel => exact ⟨(y134), (t128), (t128), (by first | rfl | (simp; done) | (simp [*]; done)), (by first | rfl | (simp; done) | (simp [*]; done)), H', ⟨by have := HK1.out; have := HJ19.out; omega⟩, ⟨by (with_reducible repeat (first | apply Kd.V_alloc | apply Kd.V_drewN | apply Kd.V_drew)); exact HO_0.out⟩, ⟨by (with_reducible repeat (first | apply Kd.N_alloc | apply Kd.N_drewN | apply Kd.N_drew)); exact HO136.out⟩, ⟨by repeat (first | (with_reducible first | exact HB.out | apply below_alloc | apply pw_below_drewN | apply below_drew1) | exact HB.out)⟩⟩
                              · rw [if_neg c34] at H
                                exact absurd H (by simp)
                            · rw [if_neg c33] at H
                              exact absurd H (by simp)
                          · rw [if_neg c32] at H
                            exact absurd H (by simp)
                        · rw [if_neg c31] at H
                          exact absurd H (by simp)
                      · rw [if_neg c30] at H
                        have c30b0 : decide (x6_1 < x7_1) = false := decide_eq_false c30
                        clear c30
                        have H' := Aside0.mk H
                        clear H
                        go_wp2_with (first | ((with_reducible refine gate_callee (f := 35) rfl ?_); refine goesL_ (some 68) rfl rfl Try.func35 (by kernel_rfl) rfl #[.slice (some ad115) l0.length c0, .int .i64 (wrap64 (t125 + 1)), .string a1] rfl (by (try simp only [List.map_toArray, List.map_cons, List.map_nil]); first | done | rfl | (simp only [List.length_drop, List.length_take]; rfl)) ?_; (with_reducible refine (split_behind.calls kj19 _ _ l0 (wrap64 (t125 + 1)) a1 t128 _ ?side1 ?side2 A29.out).mono ?_); (case side1 => repeat (first | exact (Kd.V_reads' HO_0.out).2.2 | (with_reducible refine Kd.C_alloc ?_ _) | (with_reducible refine Kd.C_drewN ?_ _) | (with_reducible refine Kd.C_drew ?_))); (case side2 => exact (Kd.V_reads' HO_0.out).2.1); rintro e w38 ⟨rfl, hb⟩; refine ⟨_, rfl, ?_⟩; have n0_ := Aside0.mk (Kd.V_below (by (with_reducible repeat (first | apply Kd.V_alloc | apply Kd.V_drewN | apply Kd.V_drew)); exact HO_0.out) hb); have n1_ := Aside0.mk (Kd.N_below (by (with_reducible repeat (first | apply Kd.N_alloc | apply Kd.N_drewN | apply Kd.N_drew)); exact HO_5.out) hb); have n2_ := Aside0.mk (below_step (by repeat (first | (with_reducible first | exact HB.out | apply below_alloc | apply pw_below_drewN | apply below_drew1) | exact HB.out)) hb); clear HO_0; clear HO_5; clear HB; have HO_0 := n0_; have HO_5 := n1_; have HB := n2_; clear n0_ n1_ n2_; (try clear hb); (try clear hb2); (try clear hk); (try clear hi)))
                        go_roundg kj19
                        case measure => have := HK1.out; have := HJ19.out; omega
                        case rel => exact ⟨(x5_1), (t128), (t128), (by first | rfl | (simp; done) | (simp [*]; done)), (by first | rfl | (simp; done) | (simp [*]; done)), H', ⟨by have := HK1.out; have := HJ19.out; omega⟩, ⟨by (with_reducible repeat (first | apply Kd.V_alloc | apply Kd.V_drewN | apply Kd.V_drew)); exact HO_0.out⟩, ⟨by (with_reducible repeat (first | apply Kd.N_alloc | apply Kd.N_drewN | apply Kd.N_drew)); exact HO_5.out⟩, ⟨by repeat (first | (with_reducible first | exact HB.out | apply below_alloc | apply pw_below_drewN | apply below_drew1) | exact HB.out)⟩⟩
                    · replace c28 := Bool.eq_false_iff.mpr c28
                      subst c28
                      have H1 : (if x7_1 > x6_1 then (if 0 ≤ x6_1 then (if x6_1 ≤ x7_1 then (if x7_1 ≤ (l0.length : Int) then (if x5_1.length < 5864062014805 then (split_divide.l0 kj19 l0 a1 (x5_1 ++ [((l0.take (x7_1 : Int).toNat).drop (x6_1 : Int).toNat)]) t125 t125) else (none)) else (none)) else (none)) else (none)) else (split_divide.l0 kj19 l0 a1 x5_1 t125 t125)) = some r := by rw [if_neg (show ¬ (false = true) by decide)] at H; exact H
                      clear H
                      have H := H1
                      clear H1
                      by_cases c39 : x7_1 > x6_1
                      · rw [if_pos c39] at H
                        have c39b0 : decide (x6_1 < x7_1) = true := decide_eq_true c39
                        clear c39
                        by_cases c40 : 0 ≤ x6_1
                        · rw [if_pos c40] at H
                          have c40b0 := eq_true c40
                          have c40b1 : decide (0 ≤ x6_1) = true := decide_eq_true c40
                          clear c40
                          by_cases c41 : x6_1 ≤ x7_1
                          · rw [if_pos c41] at H
                            have c41b0 := eq_true c41
                            have c41b1 : decide (x6_1 ≤ x7_1) = true := decide_eq_true c41
                            clear c41
                            by_cases c42 : x7_1 ≤ (l0.length : Int)
                            · rw [if_pos c42] at H
                              have c42b0 := eq_true c42
                              have c42b1 : decide (x7_1 ≤ (l0.length : Int)) = true := decide_eq_true c42
                              clear c42
                              obtain ⟨y137, hy137⟩ : ∃ y_ : List (S66), y_ = ((l0.take (x7_1 : Int).toNat).drop (x6_1 : Int).toNat) := ⟨_, rfl⟩
                              replace H : (if x5_1.length < 5864062014805 then (split_divide.l0 kj19 l0 a1 (x5_1 ++ [y137]) t125 t125) else (none)) = some r := by first | (rw [hy137]; with_reducible exact H) | (have H2_ := (Option.bind_some _ _).symm.trans H; rw [hy137]; with_reducible exact H2_) | (have H2_ := (Option.bind_some _ _).symm.trans H; with_reducible exact H2_) | with_reducible exact H | (rw [hy137]; exact H) | exact H
                              have Ny137 := Aside0.mk hy137
                              clear hy137
                              by_cases c43 : x5_1.length < 5864062014805
                              · rw [if_pos c43] at H
                                have LMc43 := Aside0.mk c43
                                clear c43
                                obtain ⟨y142, hy142⟩ : ∃ y_ : List (List (S66)), y_ = (x5_1 ++ [y137]) := ⟨_, rfl⟩
                                replace H : (split_divide.l0 kj19 l0 a1 y142 t125 t125) = some r := by first | (rw [hy142]; with_reducible exact H) | (have H2_ := (Option.bind_some _ _).symm.trans H; rw [hy142]; with_reducible exact H2_) | (have H2_ := (Option.bind_some _ _).symm.trans H; with_reducible exact H2_) | with_reducible exact H | (rw [hy142]; exact H) | exact H
                                have Ny142 := Aside0.mk hy142
                                clear hy142
                                have H' := Aside0.mk H
                                clear H
                                have q44 : (x7_1 : Int) ≤ ((l0.length : Int) : Int) := of_decide_eq_true (by first | (with_reducible assumption) | assumption)
                                obtain ⟨i044, hi044, _, hsz44, _⟩ := info_parts info66
                                have hroom44 : l0.length ≤ c0 := (Kd.V_reads' HO_0.out).2.1
                                have hC44 : Kd.F k66 _ _ (some ad115) l0.length l0 := (Kd.V_at (base := w.heap.size) HO_0.out).2.2
                                have ql44 : (x6_1 : Int) ≤ (x7_1 : Int) := of_decide_eq_true (by first | (with_reducible assumption) | assumption)
                                have q044 : (0 : Int) ≤ (x6_1 : Int) := of_decide_eq_true (by first | (with_reducible assumption) | assumption)
                                have hr44 := Kd.F_mid3 (lo := (x6_1 : Int).toNat) (hi := (x7_1 : Int).toNat) hC44 (by omega) (by omega)
                                obtain ⟨A44, hA44⟩ : ∃ A1, A1 = (if (x7_1 : Int).toNat = (x6_1 : Int).toNat then (some ad115) else ((some ad115) : Option Addr).map (·.add ((x6_1 : Int).toNat * 2))) := ⟨_, rfl⟩
                                obtain ⟨c44, hc44⟩ : ∃ c1, c1 = (x7_1 : Int).toNat - (x6_1 : Int).toNat := ⟨_, rfl⟩
                                have hcut44 := cut_mid3 (P := Try.prog) 46 66 .i64 .i64 .i64 Try.underlying46 hi044 2 hsz44 (some ad115) l0.length c0 x6_1 x7_1 q044 ql44 q44 hroom44 c44 hc44
                                have hy44 : y137.length = (x7_1 : Int).toNat - (x6_1 : Int).toNat := (by rw [Ny137.out, List.length_drop, List.length_take] <;> omega)
                                rw [show ((l0).take (x7_1 : Int).toNat).drop (x6_1 : Int).toNat = y137 from Ny137.out.symm] at hr44
                                replace hr44 : Kd.F k66 _ _ A44 y137.length y137 := (by rw [hA44]; exact hr44)
                                rw [← hy44, ← hA44] at hcut44
                                have HO141 := Aside0.mk (show Kd.V k66 66 _ w.heap.size _ (.slice A44 y137.length c44) y137 from Kd.V_mk (by rw [hy44, hc44]; exact Nat.le_refl _) hr44)
                                have HC141 := Aside0.mk (show y137.length ≤ c44 from by rw [hy44, hc44]; exact Nat.le_refl _)
                                clear hr44 hC44 hroom44 hi044 hsz44 hc44
                                have KY44 := Aside0.mk hy44
                                have KA44 := Aside0.mk hA44
                                clear hy44 hA44
                                replace q44 := eq_true q44
                                go_wp2_with (first | ((with_reducible refine gate_builtin (b := .append) (xs := #[.tmp 72, .tmp 78]) rfl ?_); (try (refine gate_guard (by rfl) ?_; dsimp only)); at_builtin; refine Kd.N_append (Kd.slice 66 k66) (w0 := w) w.heap.size rfl (.tmp 72) (.tmp 78) 44 46 (.slice none 0 0) 24 rfl Try.underlying44 info46 rfl (by decide) (by omega) u5 x5_1 y137 [.slice A44 y137.length c44] (fun k_ => (P0_ k_ ∨ w.heap.size ≤ k_)) (fun k_ => ((fun k_ => (P0_ k_ ∨ w.heap.size ≤ k_))) k_ ∧ some k_ ≠ (u5 : Value).ownBlock) rfl rfl ?aP (fun _ hk => hk) ?aF ?aO ?aB ?aS ?aL ?_; (case aP => exact (Kd.FK_slice_mk (Kd.V_reads' (Kd.V_mono (ok' := (fun k_ => ((fun k_ => (P0_ k_ ∨ w.heap.size ≤ k_))) k_ ∧ some k_ ≠ (u5 : Value).ownBlock)) (HO141.out) (fun k_ hk => ⟨hk.1, hk.2⟩))).2.1 (Kd.V_F (Kd.V_mono (ok' := (fun k_ => ((fun k_ => (P0_ k_ ∨ w.heap.size ≤ k_))) k_ ∧ some k_ ≠ (u5 : Value).ownBlock)) (HO141.out) (fun k_ hk => ⟨hk.1, hk.2⟩))))); (case aB => exact (by repeat (first | (with_reducible first | exact HB.out | apply below_alloc | apply pw_below_drewN | apply below_drew1) | exact HB.out))); (case aF => exact (fun k_ hk => (.inr (Nat.le_trans (below_size (by repeat (first | (with_reducible first | exact HB.out | apply below_alloc | apply pw_below_drewN | apply below_drew1) | exact HB.out))) hk)))); (case aO => exact (by (with_reducible repeat (first | apply Kd.N_alloc | apply Kd.N_drewN | apply Kd.N_drew)); exact HO_5.out)); (case aS => exact (below_size (by repeat (first | (with_reducible first | exact HB.out | apply below_alloc | apply pw_below_drewN | apply below_drew1) | exact HB.out)))); (case aL => have := LMc43.out; omega); intro v143 w45 ho hb hg hat; rw [← Ny142.out] at ho; have n0_ := Aside0.mk (Kd.V_afterv (ok := (fun k_ => (P0_ k_ ∨ w.heap.size ≤ k_))) (by (with_reducible repeat (first | apply Kd.V_alloc | apply Kd.V_drewN | apply Kd.V_drew)); exact HO_0.out) hg hat); have n1_ := Aside0.mk (Kd.V_afterv (ok := (fun k_ => (P0_ k_ ∨ w.heap.size ≤ k_))) (by (with_reducible repeat (first | apply Kd.V_alloc | apply Kd.V_drewN | apply Kd.V_drew)); exact HO141.out) hg hat); have n2_ := Aside0.mk (hb); have n3_ := Aside0.mk (ho); clear HO_0; clear HO141; clear HB; clear HO_5; have HO_0 := n0_; have HO141 := n1_; have HB := n2_; have HO144 := n3_; clear n0_ n1_ n2_ n3_; clear ho hb hg hat))
                                go_roundg kj19
                                case measure => have := HK1.out; have := HJ19.out; omega
                                case rel => exact ⟨(y142), (t125), (t125), (by first | rfl | (simp; done) | (simp [*]; done)), (by first | rfl | (simp; done) | (simp [*]; done)), H', ⟨by have := HK1.out; have := HJ19.out; omega⟩, ⟨by (with_reducible repeat (first | apply Kd.V_alloc | apply Kd.V_drewN | apply Kd.V_drew)); exact HO_0.out⟩, ⟨by (with_reducible repeat (first | apply Kd.N_alloc | apply Kd.N_drewN | apply Kd.N_drew)); exact HO144.out⟩, ⟨by repeat (first | (with_reducible first | exact HB.out | apply below_alloc | apply pw_below_drewN | apply below_drew1) | exact HB.out)⟩⟩
                              · rw [if_neg c43] at H
                                exact absurd H (by simp)
                            · rw [if_neg c42] at H
                              exact absurd H (by simp)
                          · rw [if_neg c41] at H
                            exact absurd H (by simp)
                        · rw [if_neg c40] at H
                          exact absurd H (by simp)
                      · rw [if_neg c39] at H
                        have c39b0 : decide (x6_1 < x7_1) = false := decide_eq_false c39
                        clear c39
                        have H' := Aside0.mk H
                        clear H
                        go_wp2
                        go_roundg kj19
                        case measure => have := HK1.out; have := HJ19.out; omega
                        case rel => exact ⟨(x5_1), (t125), (t125), (by first | rfl | (simp; done) | (simp [*]; done)), (by first | rfl | (simp; done) | (simp [*]; done)), H', ⟨by have := HK1.out; have := HJ19.out; omega⟩, ⟨by (with_reducible repeat (first | apply Kd.V_alloc | apply Kd.V_drewN | apply Kd.V_drew)); exact HO_0.out⟩, ⟨by (with_reducible repeat (first | apply Kd.N_alloc | apply Kd.N_drewN | apply Kd.N_drew)); exact HO_5.out⟩, ⟨by repeat (first | (with_reducible first | exact HB.out | apply below_alloc | apply pw_below_drewN | apply below_drew1) | exact HB.out)⟩⟩
              · rw [if_neg c18] at H
                have c18b0 : (t116 == 1) = false := beq_eq_false_iff_ne.mpr c18
                have c18b1 : (t116 != 1) = true := bne_iff_ne.mpr c18
                by_cases c46 : t116 = 2
                · rw [if_pos c46] at H
                  have c46b0 : (t116 == 2) = true := beq_iff_eq.mpr c46
                  have c46b1 : (t116 != 2) = false := bne_eq_false_iff_eq.mpr c46
                  clear c46
                  by_cases c47 : 0 ≤ x6_1
                  · rw [if_pos c47] at H
                    have c47b0 := eq_true c47
                    have c47b1 : decide (0 ≤ x6_1) = true := decide_eq_true c47
                    clear c47
                    by_cases c48 : x6_1 ≤ x7_1
                    · rw [if_pos c48] at H
                      have c48b0 := eq_true c48
                      have c48b1 : decide (x6_1 ≤ x7_1) = true := decide_eq_true c48
                      clear c48
                      by_cases c49 : x7_1 ≤ (l0.length : Int)
                      · rw [if_pos c49] at H
                        have c49b0 := eq_true c49
                        have c49b1 : decide (x7_1 ≤ (l0.length : Int)) = true := decide_eq_true c49
                        clear c49
                        obtain ⟨y145, hy145⟩ : ∃ y_ : List (S66), y_ = ((l0.take (x7_1 : Int).toNat).drop (x6_1 : Int).toNat) := ⟨_, rfl⟩
                        replace H : (if x5_1.length < 5864062014805 then ((split_behind.f k1 l0 (wrap64 (x7_1 + 1)) a1).bind fun t153 => (split_divide.l0 k1 l0 a1 (x5_1 ++ [y145]) t153 t153)) else (none)) = some r := by first | (rw [hy145]; with_reducible exact H) | (have H2_ := (Option.bind_some _ _).symm.trans H; rw [hy145]; with_reducible exact H2_) | (have H2_ := (Option.bind_some _ _).symm.trans H; with_reducible exact H2_) | with_reducible exact H | (rw [hy145]; exact H) | exact H
                        have Ny145 := Aside0.mk hy145
                        clear hy145
                        by_cases c50 : x5_1.length < 5864062014805
                        · rw [if_pos c50] at H
                          have LMc50 := Aside0.mk c50
                          clear c50
                          obtain ⟨y150, hy150⟩ : ∃ y_ : List (List (S66)), y_ = (x5_1 ++ [y145]) := ⟨_, rfl⟩
                          replace H : ((split_behind.f k1 l0 (wrap64 (x7_1 + 1)) a1).bind fun t153 => (split_divide.l0 k1 l0 a1 y150 t153 t153)) = some r := by first | (rw [hy150]; with_reducible exact H) | (have H2_ := (Option.bind_some _ _).symm.trans H; rw [hy150]; with_reducible exact H2_) | (have H2_ := (Option.bind_some _ _).symm.trans H; with_reducible exact H2_) | with_reducible exact H | (rw [hy150]; exact H) | exact H
                          have Ny150 := Aside0.mk hy150
                          clear hy150
                          replace H := Option.bind_eq_some_iff.mp H
                          obtain ⟨t153, A510, H⟩ := H
                          replace H : (split_divide.l0 k1 l0 a1 y150 t153 t153) = some r := H
                          have A51 := Aside0.mk A510
                          clear A510
                          have H' := Aside0.mk H
                          clear H
                          have p115 : 0 ≤ (x7_1 : Int) := of_decide_eq_true (by first | (with_reducible assumption) | assumption)
                          have q115 : x7_1 < (l0.length : Int) := of_decide_eq_true (by first | (with_reducible assumption) | assumption)
                          obtain ⟨ad115, e115, hx115_0, hx115_1⟩ := at_T66 (Kd.V_reads' HO_0.out).2.2 x7_1 p115 q115
                          cases e115
                          replace p115 := eq_true p115
                          replace q115 := eq_true q115
                          go_wp2_with (first | ((with_reducible refine gate_callee (f := 36) rfl ?_); refine goesL_ (some 20) rfl rfl Try.func36 (by kernel_rfl) rfl #[.agg #[.string ((rd_T66 l0 x7_1).f0), .int .i64 ((rd_T66 l0 x7_1).f1)], .string a1] rfl (by (try simp only [List.map_toArray, List.map_cons, List.map_nil]); first | done | rfl | (simp only [List.length_drop, List.length_take]; rfl)) ?_; (with_reducible refine (split_role.calls k1 ((rd_T66 l0 x7_1).f0) ((rd_T66 l0 x7_1).f1) a1 t116 _ A5.out).mono ?_); rintro e w52 ⟨rfl, hb⟩; refine ⟨_, rfl, ?_⟩; have n0_ := Aside0.mk (Kd.V_below (by (with_reducible repeat (first | apply Kd.V_alloc | apply Kd.V_drewN | apply Kd.V_drew)); exact HO_0.out) hb); have n1_ := Aside0.mk (Kd.N_below (by (with_reducible repeat (first | apply Kd.N_alloc | apply Kd.N_drewN | apply Kd.N_drew)); exact HO_5.out) hb); have n2_ := Aside0.mk (below_step (by repeat (first | (with_reducible first | exact HB.out | apply below_alloc | apply pw_below_drewN | apply below_drew1) | exact HB.out)) hb); clear HO_0; clear HO_5; clear HB; have HO_0 := n0_; have HO_5 := n1_; have HB := n2_; clear n0_ n1_ n2_; (try clear hb); (try clear hb2); (try clear hk); (try clear hi); have q53 : (x7_1 : Int) ≤ ((l0.length : Int) : Int) := of_decide_eq_true (by first | (with_reducible assumption) | assumption); obtain ⟨i053, hi053, _, hsz53, _⟩ := info_parts info66; have hroom53 : l0.length ≤ c0 := (Kd.V_reads' HO_0.out).2.1; have hC53 : Kd.F k66 _ _ (some ad115) l0.length l0 := (Kd.V_at (base := w.heap.size) HO_0.out).2.2; have ql53 : (x6_1 : Int) ≤ (x7_1 : Int) := of_decide_eq_true (by first | (with_reducible assumption) | assumption); have q053 : (0 : Int) ≤ (x6_1 : Int) := of_decide_eq_true (by first | (with_reducible assumption) | assumption); have hr53 := Kd.F_mid3 (lo := (x6_1 : Int).toNat) (hi := (x7_1 : Int).toNat) hC53 (by omega) (by omega); obtain ⟨A53, hA53⟩ : ∃ A1, A1 = (if (x7_1 : Int).toNat = (x6_1 : Int).toNat then (some ad115) else ((some ad115) : Option Addr).map (·.add ((x6_1 : Int).toNat * 2))) := ⟨_, rfl⟩; obtain ⟨c53, hc53⟩ : ∃ c1, c1 = (x7_1 : Int).toNat - (x6_1 : Int).toNat := ⟨_, rfl⟩; have hcut53 := cut_mid3 (P := Try.prog) 46 66 .i64 .i64 .i64 Try.underlying46 hi053 2 hsz53 (some ad115) l0.length c0 x6_1 x7_1 q053 ql53 q53 hroom53 c53 hc53; have hy53 : y145.length = (x7_1 : Int).toNat - (x6_1 : Int).toNat := (by rw [Ny145.out, List.length_drop, List.length_take] <;> omega); rw [show ((l0).take (x7_1 : Int).toNat).drop (x6_1 : Int).toNat = y145 from Ny145.out.symm] at hr53; replace hr53 : Kd.F k66 _ _ A53 y145.length y145 := (by rw [hA53]; exact hr53); rw [← hy53, ← hA53] at hcut53; have HO149 := Aside0.mk (show Kd.V k66 66 _ w.heap.size _ (.slice A53 y145.length c53) y145 from Kd.V_mk (by rw [hy53, hc53]; exact Nat.le_refl _) hr53); have HC149 := Aside0.mk (show y145.length ≤ c53 from by rw [hy53, hc53]; exact Nat.le_refl _); clear hr53 hC53 hroom53 hi053 hsz53 hc53; have KY53 := Aside0.mk hy53; have KA53 := Aside0.mk hA53; clear hy53 hA53; replace q53 := eq_true q53) | ((with_reducible refine gate_builtin (b := .append) (xs := #[.tmp 83, .tmp 89]) rfl ?_); (try (refine gate_guard (by rfl) ?_; dsimp only)); at_builtin; refine Kd.N_append (Kd.slice 66 k66) (w0 := w) w.heap.size rfl (.tmp 83) (.tmp 89) 44 46 (.slice none 0 0) 24 rfl Try.underlying44 info46 rfl (by decide) (by omega) u5 x5_1 y145 [.slice A53 y145.length c53] (fun k_ => (P0_ k_ ∨ w.heap.size ≤ k_)) (fun k_ => ((fun k_ => (P0_ k_ ∨ w.heap.size ≤ k_))) k_ ∧ some k_ ≠ (u5 : Value).ownBlock) rfl rfl ?aP (fun _ hk => hk) ?aF ?aO ?aB ?aS ?aL ?_; (case aP => exact (Kd.FK_slice_mk (Kd.V_reads' (Kd.V_mono (ok' := (fun k_ => ((fun k_ => (P0_ k_ ∨ w.heap.size ≤ k_))) k_ ∧ some k_ ≠ (u5 : Value).ownBlock)) (HO149.out) (fun k_ hk => ⟨hk.1, hk.2⟩))).2.1 (Kd.V_F (Kd.V_mono (ok' := (fun k_ => ((fun k_ => (P0_ k_ ∨ w.heap.size ≤ k_))) k_ ∧ some k_ ≠ (u5 : Value).ownBlock)) (HO149.out) (fun k_ hk => ⟨hk.1, hk.2⟩))))); (case aB => exact (by repeat (first | (with_reducible first | exact HB.out | apply below_alloc | apply pw_below_drewN | apply below_drew1) | exact HB.out))); (case aF => exact (fun k_ hk => (.inr (Nat.le_trans (below_size (by repeat (first | (with_reducible first | exact HB.out | apply below_alloc | apply pw_below_drewN | apply below_drew1) | exact HB.out))) hk)))); (case aO => exact (by (with_reducible repeat (first | apply Kd.N_alloc | apply Kd.N_drewN | apply Kd.N_drew)); exact HO_5.out)); (case aS => exact (below_size (by repeat (first | (with_reducible first | exact HB.out | apply below_alloc | apply pw_below_drewN | apply below_drew1) | exact HB.out)))); (case aL => have := LMc50.out; omega); intro v151 w54 ho hb hg hat; rw [← Ny150.out] at ho; have n0_ := Aside0.mk (Kd.V_afterv (ok := (fun k_ => (P0_ k_ ∨ w.heap.size ≤ k_))) (by (with_reducible repeat (first | apply Kd.V_alloc | apply Kd.V_drewN | apply Kd.V_drew)); exact HO_0.out) hg hat); have n1_ := Aside0.mk (Kd.V_afterv (ok := (fun k_ => (P0_ k_ ∨ w.heap.size ≤ k_))) (by (with_reducible repeat (first | apply Kd.V_alloc | apply Kd.V_drewN | apply Kd.V_drew)); exact HO149.out) hg hat); have n2_ := Aside0.mk (hb); have n3_ := Aside0.mk (ho); clear HO_0; clear HO149; clear HB; clear HO_5; have HO_0 := n0_; have HO149 := n1_; have HB := n2_; have HO152 := n3_; clear n0_ n1_ n2_ n3_; clear ho hb hg hat) | ((with_reducible refine gate_callee (f := 35) rfl ?_); refine goesL_ (some 95) rfl rfl Try.func35 (by kernel_rfl) rfl #[.slice (some ad115) l0.length c0, .int .i64 (wrap64 (x7_1 + 1)), .string a1] rfl (by (try simp only [List.map_toArray, List.map_cons, List.map_nil]); first | done | rfl | (simp only [List.length_drop, List.length_take]; rfl)) ?_; (with_reducible refine (split_behind.calls k1 _ _ l0 (wrap64 (x7_1 + 1)) a1 t153 _ ?side1 ?side2 A51.out).mono ?_); (case side1 => repeat (first | exact (Kd.V_reads' HO_0.out).2.2 | (with_reducible refine Kd.C_alloc ?_ _) | (with_reducible refine Kd.C_drewN ?_ _) | (with_reducible refine Kd.C_drew ?_))); (case side2 => exact (Kd.V_reads' HO_0.out).2.1); rintro e w55 ⟨rfl, hb⟩; refine ⟨_, rfl, ?_⟩; have n0_ := Aside0.mk (Kd.V_below (by (with_reducible repeat (first | apply Kd.V_alloc | apply Kd.V_drewN | apply Kd.V_drew)); exact HO_0.out) hb); have n1_ := Aside0.mk (Kd.V_below (by (with_reducible repeat (first | apply Kd.V_alloc | apply Kd.V_drewN | apply Kd.V_drew)); exact HO149.out) hb); have n2_ := Aside0.mk (Kd.N_below (by (with_reducible repeat (first | apply Kd.N_alloc | apply Kd.N_drewN | apply Kd.N_drew)); exact HO152.out) hb); have n3_ := Aside0.mk (below_step (by repeat (first | (with_reducible first | exact HB.out | apply below_alloc | apply pw_below_drewN | apply below_drew1) | exact HB.out)) hb); clear HO_0; clear HO149; clear HO152; clear HB; have HO_0 := n0_; have HO149 := n1_; have HO152 := n2_; have HB := n3_; clear n0_ n1_ n2_ n3_; (try clear hb); (try clear hb2); (try clear hk); (try clear hi)))
                          go_roundg k1
                          case measure => have := HK1.out; omega
                          case rel => exact ⟨(y150), (t153), (t153), (by first | rfl | (simp; done) | (simp [*]; done)), (by first | rfl | (simp; done) | (simp [*]; done)), H', ⟨by have := HK1.out; omega⟩, ⟨by (with_reducible repeat (first | apply Kd.V_alloc | apply Kd.V_drewN | apply Kd.V_drew)); exact HO_0.out⟩, ⟨by (with_reducible repeat (first | apply Kd.N_alloc | apply Kd.N_drewN | apply Kd.N_drew)); exact HO152.out⟩, ⟨by repeat (first | (with_reducible first | exact HB.out | apply below_alloc | apply pw_below_drewN | apply below_drew1) | exact HB.out)⟩⟩
                        · rw [if_neg c50] at H
                          exact absurd H (by simp)
                      · rw [if_neg c49] at H
                        exact absurd H (by simp)
                    · rw [if_neg c48] at H
                      exact absurd H (by simp)
                  · rw [if_neg c47] at H
                    exact absurd H (by simp)
                · rw [if_neg c46] at H
                  have c46b0 : (t116 == 2) = false := beq_eq_false_iff_ne.mpr c46
                  have c46b1 : (t116 != 2) = true := bne_iff_ne.mpr c46
                  have H' := Aside0.mk H
                  clear H
                  have p115 : 0 ≤ (x7_1 : Int) := of_decide_eq_true (by first | (with_reducible assumption) | assumption)
                  have q115 : x7_1 < (l0.length : Int) := of_decide_eq_true (by first | (with_reducible assumption) | assumption)
                  obtain ⟨ad115, e115, hx115_0, hx115_1⟩ := at_T66 (Kd.V_reads' HO_0.out).2.2 x7_1 p115 q115
                  cases e115
                  replace p115 := eq_true p115
                  replace q115 := eq_true q115
                  go_wp2_with (first | ((with_reducible refine gate_callee (f := 36) rfl ?_); refine goesL_ (some 20) rfl rfl Try.func36 (by kernel_rfl) rfl #[.agg #[.string ((rd_T66 l0 x7_1).f0), .int .i64 ((rd_T66 l0 x7_1).f1)], .string a1] rfl (by (try simp only [List.map_toArray, List.map_cons, List.map_nil]); first | done | rfl | (simp only [List.length_drop, List.length_take]; rfl)) ?_; (with_reducible refine (split_role.calls k1 ((rd_T66 l0 x7_1).f0) ((rd_T66 l0 x7_1).f1) a1 t116 _ A5.out).mono ?_); rintro e w56 ⟨rfl, hb⟩; refine ⟨_, rfl, ?_⟩; have n0_ := Aside0.mk (Kd.V_below (by (with_reducible repeat (first | apply Kd.V_alloc | apply Kd.V_drewN | apply Kd.V_drew)); exact HO_0.out) hb); have n1_ := Aside0.mk (Kd.N_below (by (with_reducible repeat (first | apply Kd.N_alloc | apply Kd.N_drewN | apply Kd.N_drew)); exact HO_5.out) hb); have n2_ := Aside0.mk (below_step (by repeat (first | (with_reducible first | exact HB.out | apply below_alloc | apply pw_below_drewN | apply below_drew1) | exact HB.out)) hb); clear HO_0; clear HO_5; clear HB; have HO_0 := n0_; have HO_5 := n1_; have HB := n2_; clear n0_ n1_ n2_; (try clear hb); (try clear hb2); (try clear hk); (try clear hi)))
                  go_roundg k1
                  case measure => have := HK1.out; omega
                  case rel => exact ⟨(x5_1), (x7_1), (x7_1), (by first | rfl | (simp; done) | (simp [*]; done)), (by first | rfl | (simp; done) | (simp [*]; done)), H', ⟨by have := HK1.out; omega⟩, ⟨by (with_reducible repeat (first | apply Kd.V_alloc | apply Kd.V_drewN | apply Kd.V_drew)); exact HO_0.out⟩, ⟨by (with_reducible repeat (first | apply Kd.N_alloc | apply Kd.N_drewN | apply Kd.N_drew)); exact HO_5.out⟩, ⟨by repeat (first | (with_reducible first | exact HB.out | apply below_alloc | apply pw_below_drewN | apply below_drew1) | exact HB.out)⟩⟩
        · rw [if_neg c4] at H
          exact absurd H (by simp)
      · rw [if_neg c3] at H
        have c3b0 : decide (x7_1 < (l0.length : Int)) = false := decide_eq_false c3
        clear c3
        by_cases c57 : x6_1 < (l0.length : Int)
        · rw [if_pos c57] at H
          have c57b0 : decide (x6_1 < (l0.length : Int)) = true := decide_eq_true c57
          clear c57
          by_cases c58 : 0 ≤ x6_1
          · rw [if_pos c58] at H
            have c58b0 := eq_true c58
            have c58b1 : decide (0 ≤ x6_1) = true := decide_eq_true c58
            clear c58
            by_cases c59 : x6_1 ≤ (l0.length : Int)
            · rw [if_pos c59] at H
              have c59b0 := eq_true c59
              have c59b1 : decide (x6_1 ≤ (l0.length : Int)) = true := decide_eq_true c59
              clear c59
              obtain ⟨y107, hy107⟩ : ∃ y_ : List (S66), y_ = (l0.drop (x6_1 : Int).toNat) := ⟨_, rfl⟩
              replace H : (if x5_1.length < 5864062014805 then (some (x5_1 ++ [y107])) else (none)) = some r := by first | (rw [hy107]; with_reducible exact H) | (have H2_ := (Option.bind_some _ _).symm.trans H; rw [hy107]; with_reducible exact H2_) | (have H2_ := (Option.bind_some _ _).symm.trans H; with_reducible exact H2_) | with_reducible exact H | (rw [hy107]; exact H) | exact H
              have Ny107 := Aside0.mk hy107
              clear hy107
              by_cases c60 : x5_1.length < 5864062014805
              · rw [if_pos c60] at H
                have LMc60 := Aside0.mk c60
                clear c60
                obtain ⟨y112, hy112⟩ : ∃ y_ : List (List (S66)), y_ = (x5_1 ++ [y107]) := ⟨_, rfl⟩
                replace H : (some y112) = some r := by first | (rw [hy112]; with_reducible exact H) | (have H2_ := (Option.bind_some _ _).symm.trans H; rw [hy112]; with_reducible exact H2_) | (have H2_ := (Option.bind_some _ _).symm.trans H; with_reducible exact H2_) | with_reducible exact H | (rw [hy112]; exact H) | exact H
                have Ny112 := Aside0.mk hy112
                clear hy112
                obtain rfl := Option.some.inj H
                have q61 : (x6_1 : Int) ≤ ((l0.length : Int) : Int) := of_decide_eq_true (by first | (with_reducible assumption) | assumption)
                obtain ⟨i061, hi061, _, hsz61, _⟩ := info_parts info66
                have hroom61 : l0.length ≤ c0 := (Kd.V_reads' HO_0.out).2.1
                have hC61 : Kd.F k66 _ _ A0 l0.length l0 := (Kd.V_at (base := w.heap.size) HO_0.out).2.2
                have q061 : (0 : Int) ≤ (x6_1 : Int) := of_decide_eq_true (by first | (with_reducible assumption) | assumption)
                have hcut61 := cut_from (P := Try.prog) 46 66 .i64 Try.underlying46 hi061 2 hsz61 A0 l0.length c0 x6_1 q061 q61
                have hr61 := Kd.F_cut (m := (x6_1 : Int).toNat) (c := c0) hC61 (by omega) hroom61
                obtain ⟨A61, hA61⟩ : ∃ A1, A1 = (if c0 = (x6_1 : Int).toNat then A0 else (A0 : Option Addr).map (·.add ((x6_1 : Int).toNat * 2))) := ⟨_, rfl⟩
                obtain ⟨c61, hc61⟩ : ∃ c1, c1 = c0 - (x6_1 : Int).toNat := ⟨_, rfl⟩
                have hy61 : y107.length = l0.length - (x6_1 : Int).toNat := (by rw [Ny107.out, List.length_drop] <;> omega)
                rw [show (l0).drop (x6_1 : Int).toNat = y107 from Ny107.out.symm] at hr61
                replace hr61 : Kd.F k66 _ _ A61 y107.length y107 := (by rw [hA61]; exact hr61)
                rw [← hy61, ← hA61, ← hc61] at hcut61
                have HO111 := Aside0.mk (show Kd.V k66 66 _ w.heap.size _ (.slice A61 y107.length c61) y107 from Kd.V_mk (by rw [hy61, hc61]; exact Nat.sub_le_sub_right hroom61 _) hr61)
                have HC111 := Aside0.mk (show y107.length ≤ c61 from by rw [hy61, hc61]; exact Nat.sub_le_sub_right hroom61 _)
                clear hr61 hC61 hroom61 hi061 hsz61 hc61
                have KY61 := Aside0.mk hy61
                have KA61 := Aside0.mk hA61
                clear hy61 hA61
                replace q61 := eq_true q61
                go_wp2_with (first | ((with_reducible refine gate_builtin (b := .append) (xs := #[.tmp 101, .tmp 105]) rfl ?_); (try (refine gate_guard (by rfl) ?_; dsimp only)); at_builtin; refine Kd.N_append (Kd.slice 66 k66) (w0 := w) w.heap.size rfl (.tmp 101) (.tmp 105) 44 46 (.slice none 0 0) 24 rfl Try.underlying44 info46 rfl (by decide) (by omega) u5 x5_1 y107 [.slice A61 y107.length c61] (fun k_ => (P0_ k_ ∨ w.heap.size ≤ k_)) (fun k_ => ((fun k_ => (P0_ k_ ∨ w.heap.size ≤ k_))) k_ ∧ some k_ ≠ (u5 : Value).ownBlock) rfl rfl ?aP (fun _ hk => hk) ?aF ?aO ?aB ?aS ?aL ?_; (case aP => exact (Kd.FK_slice_mk (Kd.V_reads' (Kd.V_mono (ok' := (fun k_ => ((fun k_ => (P0_ k_ ∨ w.heap.size ≤ k_))) k_ ∧ some k_ ≠ (u5 : Value).ownBlock)) (HO111.out) (fun k_ hk => ⟨hk.1, hk.2⟩))).2.1 (Kd.V_F (Kd.V_mono (ok' := (fun k_ => ((fun k_ => (P0_ k_ ∨ w.heap.size ≤ k_))) k_ ∧ some k_ ≠ (u5 : Value).ownBlock)) (HO111.out) (fun k_ hk => ⟨hk.1, hk.2⟩))))); (case aB => exact (by repeat (first | (with_reducible first | exact HB.out | apply below_alloc | apply pw_below_drewN | apply below_drew1) | exact HB.out))); (case aF => exact (fun k_ hk => (.inr (Nat.le_trans (below_size (by repeat (first | (with_reducible first | exact HB.out | apply below_alloc | apply pw_below_drewN | apply below_drew1) | exact HB.out))) hk)))); (case aO => exact (by (with_reducible repeat (first | apply Kd.N_alloc | apply Kd.N_drewN | apply Kd.N_drew)); exact HO_5.out)); (case aS => exact (below_size (by repeat (first | (with_reducible first | exact HB.out | apply below_alloc | apply pw_below_drewN | apply below_drew1) | exact HB.out)))); (case aL => have := LMc60.out; omega); intro v113 w62 ho hb hg hat; rw [← Ny112.out] at ho; have n0_ := Aside0.mk (Kd.V_afterv (ok := (fun k_ => (P0_ k_ ∨ w.heap.size ≤ k_))) (by (with_reducible repeat (first | apply Kd.V_alloc | apply Kd.V_drewN | apply Kd.V_drew)); exact HO_0.out) hg hat); have n1_ := Aside0.mk (Kd.V_afterv (ok := (fun k_ => (P0_ k_ ∨ w.heap.size ≤ k_))) (by (with_reducible repeat (first | apply Kd.V_alloc | apply Kd.V_drewN | apply Kd.V_drew)); exact HO111.out) hg hat); have n2_ := Aside0.mk (hb); have n3_ := Aside0.mk (ho); clear HO_0; clear HO111; clear HB; clear HO_5; have HO_0 := n0_; have HO111 := n1_; have HB := n2_; have HO114 := n3_; clear n0_ n1_ n2_ n3_; clear ho hb hg hat))
                go_ret
                exact ⟨_, by first | rfl | (simp [errW_none, errW_some] <;> rfl) | (simp [*, errW_none, errW_some] <;> rfl), by (with_reducible repeat (first | apply Kd.N_alloc | apply Kd.N_drewN | apply Kd.N_drew)); exact HO114.out, by repeat (first | (with_reducible first | exact HB.out | apply below_alloc | apply pw_below_drewN | apply below_drew1) | exact HB.out)⟩
              · rw [if_neg c60] at H
                exact absurd H (by simp)
            · rw [if_neg c59] at H
              exact absurd H (by simp)
          · rw [if_neg c58] at H
            exact absurd H (by simp)
        · rw [if_neg c57] at H
          have c57b0 : decide (x6_1 < (l0.length : Int)) = false := decide_eq_false c57
          clear c57
          obtain rfl := Option.some.inj H
          go_wp2
          go_ret
          exact ⟨_, by first | rfl | (simp [errW_none, errW_some] <;> rfl) | (simp [*, errW_none, errW_some] <;> rfl), by (with_reducible repeat (first | apply Kd.N_alloc | apply Kd.N_drewN | apply Kd.N_drew)); exact HO_5.out, by repeat (first | (with_reducible first | exact HB.out | apply below_alloc | apply pw_below_drewN | apply below_drew1) | exact HB.out)⟩

end Go.Proofs.Ytbkhdgfehgfjpaa.PAll
