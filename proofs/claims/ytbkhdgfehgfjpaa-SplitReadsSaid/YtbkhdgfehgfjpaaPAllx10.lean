-- Written for this claim by a program of the session (wip/ext).
import Derived.Test.YtbkhdgfehgfjpaaPAllx0
import Derived.Test.YtbkhdgfehgfjpaaPAllx7
import Derived.Test.YtbkhdgfehgfjpaaPAllx8
import Derived.Test.YtbkhdgfehgfjpaaPAllx9
import Derived.Test.YtbkhdgfehgfjpaaExtText
namespace Go.Proofs.Ytbkhdgfehgfjpaa.PAll
open Go.RowKit Go.Proofs.YtbkhdgfehgfjpaaW.PrintWords Go.Proofs.YtbkhdgfehgfjpaaW.PrintLast Go.Proofs.YtbkhdgfehgfjpaaW.PrintMore
attribute [local go_sem] max2_int min2_int max_two min_two max_three min_three max_four min_four   -- for this text's walks alone
set_option linter.unusedVariables false
set_option linter.unusedSimpArgs false

/-! ### jobshelllaw18_awake: function 10 -/
def jobshelllaw18_awake.j0 : Nat → List (List (S38)) → Bool → Option (Bool)
  | 0, _, _ => none
  | k + 1, x1, x42 => if x42 = true then (some false) else (if 0 < (x1.length : Int) then ((split_Text.f (rd_L6 x1 0)).bind fun t259 => (if t259.toList = ([97] : List UInt8) then (if 2 < (x1.length : Int) then ((split_Text.f (rd_L6 x1 2)).bind fun t261 => (if t261.toList = ([98] : List UInt8) then ((split_Join.f (([(⟨#[97]⟩ : ByteArray), (⟨#[98]⟩ : ByteArray)] : List ByteArray)) (⟨#[58]⟩ : ByteArray)).bind fun t265 => (some (t265.toList == ([97, 58, 98] : List UInt8)))) else (some false))) else (none)) else (some false))) else (none))
def jobshelllaw18_awake.f (k : Nat)  : Option (Bool) := (jobshelllaw18_expanded.f (⟨#[97, 32, 58, 32, 58, 32, 98]⟩ : ByteArray)).bind fun t237 => ((split_Fields.f k t237 (⟨#[32, 58]⟩ : ByteArray)).bind fun t240 => ((split_Fields.f k (([(⟨(⟨#[]⟩ : ByteArray), 1⟩ : S38)] : List (S38))) (⟨#[32]⟩ : ByteArray)).bind fun t246 => ((jobshelllaw18_expanded.f (⟨#[32, 97, 32, 98, 32, 32, 99, 32]⟩ : ByteArray)).bind fun t249 => ((split_Read.f k t249 (⟨#[32]⟩ : ByteArray) 2).bind fun t252 => (if (t240.length : Int) = 3 then (if 1 < (t240.length : Int) then (if ((rd_L6 t240 1).length : Int) = 0 then (if (t246.length : Int) = 1 then (if (t252.length : Int) = 2 then (if 0 < (t252.length : Int) then (if (rdOf ByteArray.empty t252 0).toList = ([97] : List UInt8) then (if 1 < (t252.length : Int) then (jobshelllaw18_awake.j0 k t240 ((rdOf ByteArray.empty t252 1).toList != ([98, 32, 32, 99] : List UInt8))) else (none)) else (jobshelllaw18_awake.j0 k t240 true)) else (none)) else (jobshelllaw18_awake.j0 k t240 true)) else (jobshelllaw18_awake.j0 k t240 true)) else (jobshelllaw18_awake.j0 k t240 true)) else (none)) else (jobshelllaw18_awake.j0 k t240 true))))))
theorem jobshelllaw18_awake.mono_l : ∀ k, (∀ y0 y1, LeO (jobshelllaw18_awake.j0 k y0 y1) (jobshelllaw18_awake.j0 (k + 1) y0 y1))
  | 0 => fun _ _ r h => by simp [jobshelllaw18_awake.j0] at h
  | k + 1 => by
    have ih0 := jobshelllaw18_awake.mono_l k
    · intro y0 y1
      unfold jobshelllaw18_awake.j0
      repeat' first
      | (with_reducible exact ih0 _ _)
      | (with_reducible exact split_Fields.mono _ _ _)
      | (with_reducible exact split_Read.mono _ _ _ _)
      | (with_reducible exact LeO.refl _)
      | (with_reducible exact LeO.none _)
      | (with_reducible refine LeO.ite ?_ ?_)
      | (with_reducible refine LeO.bind ?_ (fun _ => ?_))
      | exact ih0 _ _
      | exact split_Fields.mono _ _ _
      | exact split_Read.mono _ _ _ _
      | exact LeO.none _
      | refine LeO.ite ?_ ?_
      | refine LeO.bind ?_ (fun _ => ?_)
theorem jobshelllaw18_awake.mono : ∀ k, LeO (jobshelllaw18_awake.f k ) (jobshelllaw18_awake.f (k + 1) ) := by
  intro  k
  have ih0 := jobshelllaw18_awake.mono_l k
  unfold jobshelllaw18_awake.f
  repeat' first
      | (with_reducible exact ih0 _ _)
      | (with_reducible exact split_Fields.mono _ _ _)
      | (with_reducible exact split_Read.mono _ _ _ _)
      | (with_reducible exact LeO.refl _)
      | (with_reducible exact LeO.none _)
      | (with_reducible refine LeO.ite ?_ ?_)
      | (with_reducible refine LeO.bind ?_ (fun _ => ?_))
      | exact ih0 _ _
      | exact split_Fields.mono _ _ _
      | exact split_Read.mono _ _ _ _
      | exact LeO.none _
      | refine LeO.ite ?_ ?_
      | refine LeO.bind ?_ (fun _ => ?_)
set_option maxHeartbeats 3000000 in
set_option maxRecDepth 100000 in
theorem jobshelllaw18_awake.calls (k : Nat)  (r : Bool) (w : World) (h : jobshelllaw18_awake.f k  = some r) :
    Calls Try.prog 10 #[] w fun e w' => e = .returned (.bool r) ∧ Below w.heap.size w w' := by
  have hu38 := Try.underlying38
  have HB := Aside0.mk (Below.refl w.heap.size w)
  have H : ((jobshelllaw18_expanded.f (⟨#[97, 32, 58, 32, 58, 32, 98]⟩ : ByteArray)).bind fun t237 => ((split_Fields.f k t237 (⟨#[32, 58]⟩ : ByteArray)).bind fun t240 => ((split_Fields.f k (([(⟨(⟨#[]⟩ : ByteArray), 1⟩ : S38)] : List (S38))) (⟨#[32]⟩ : ByteArray)).bind fun t246 => ((jobshelllaw18_expanded.f (⟨#[32, 97, 32, 98, 32, 32, 99, 32]⟩ : ByteArray)).bind fun t249 => ((split_Read.f k t249 (⟨#[32]⟩ : ByteArray) 2).bind fun t252 => (if (t240.length : Int) = 3 then (if 1 < (t240.length : Int) then (if ((rd_L6 t240 1).length : Int) = 0 then (if (t246.length : Int) = 1 then (if (t252.length : Int) = 2 then (if 0 < (t252.length : Int) then (if (rdOf ByteArray.empty t252 0).toList = ([97] : List UInt8) then (if 1 < (t252.length : Int) then (jobshelllaw18_awake.j0 k t240 ((rdOf ByteArray.empty t252 1).toList != ([98, 32, 32, 99] : List UInt8))) else (none)) else (jobshelllaw18_awake.j0 k t240 true)) else (none)) else (jobshelllaw18_awake.j0 k t240 true)) else (jobshelllaw18_awake.j0 k t240 true)) else (jobshelllaw18_awake.j0 k t240 true)) else (none)) else (jobshelllaw18_awake.j0 k t240 true))))))) = some r := h
  clear h
  replace H := Option.bind_eq_some_iff.mp H
  obtain ⟨t237, A10, H⟩ := H
  replace H : ((split_Fields.f k t237 (⟨#[32, 58]⟩ : ByteArray)).bind fun t240 => ((split_Fields.f k (([(⟨(⟨#[]⟩ : ByteArray), 1⟩ : S38)] : List (S38))) (⟨#[32]⟩ : ByteArray)).bind fun t246 => ((jobshelllaw18_expanded.f (⟨#[32, 97, 32, 98, 32, 32, 99, 32]⟩ : ByteArray)).bind fun t249 => ((split_Read.f k t249 (⟨#[32]⟩ : ByteArray) 2).bind fun t252 => (if (t240.length : Int) = 3 then (if 1 < (t240.length : Int) then (if ((rd_L6 t240 1).length : Int) = 0 then (if (t246.length : Int) = 1 then (if (t252.length : Int) = 2 then (if 0 < (t252.length : Int) then (if (rdOf ByteArray.empty t252 0).toList = ([97] : List UInt8) then (if 1 < (t252.length : Int) then (jobshelllaw18_awake.j0 k t240 ((rdOf ByteArray.empty t252 1).toList != ([98, 32, 32, 99] : List UInt8))) else (none)) else (jobshelllaw18_awake.j0 k t240 true)) else (none)) else (jobshelllaw18_awake.j0 k t240 true)) else (jobshelllaw18_awake.j0 k t240 true)) else (jobshelllaw18_awake.j0 k t240 true)) else (none)) else (jobshelllaw18_awake.j0 k t240 true)))))) = some r := H
  have A1 := Aside0.mk A10
  clear A10
  replace H := Option.bind_eq_some_iff.mp H
  obtain ⟨t240, A20, H⟩ := H
  replace H : ((split_Fields.f k (([(⟨(⟨#[]⟩ : ByteArray), 1⟩ : S38)] : List (S38))) (⟨#[32]⟩ : ByteArray)).bind fun t246 => ((jobshelllaw18_expanded.f (⟨#[32, 97, 32, 98, 32, 32, 99, 32]⟩ : ByteArray)).bind fun t249 => ((split_Read.f k t249 (⟨#[32]⟩ : ByteArray) 2).bind fun t252 => (if (t240.length : Int) = 3 then (if 1 < (t240.length : Int) then (if ((rd_L6 t240 1).length : Int) = 0 then (if (t246.length : Int) = 1 then (if (t252.length : Int) = 2 then (if 0 < (t252.length : Int) then (if (rdOf ByteArray.empty t252 0).toList = ([97] : List UInt8) then (if 1 < (t252.length : Int) then (jobshelllaw18_awake.j0 k t240 ((rdOf ByteArray.empty t252 1).toList != ([98, 32, 32, 99] : List UInt8))) else (none)) else (jobshelllaw18_awake.j0 k t240 true)) else (none)) else (jobshelllaw18_awake.j0 k t240 true)) else (jobshelllaw18_awake.j0 k t240 true)) else (jobshelllaw18_awake.j0 k t240 true)) else (none)) else (jobshelllaw18_awake.j0 k t240 true))))) = some r := H
  have A2 := Aside0.mk A20
  clear A20
  obtain ⟨y243, hy243⟩ : ∃ y_ : List (S38), y_ = (([(⟨(⟨#[]⟩ : ByteArray), 1⟩ : S38)] : List (S38))) := ⟨_, rfl⟩
  replace H : ((split_Fields.f k y243 (⟨#[32]⟩ : ByteArray)).bind fun t246 => ((jobshelllaw18_expanded.f (⟨#[32, 97, 32, 98, 32, 32, 99, 32]⟩ : ByteArray)).bind fun t249 => ((split_Read.f k t249 (⟨#[32]⟩ : ByteArray) 2).bind fun t252 => (if (t240.length : Int) = 3 then (if 1 < (t240.length : Int) then (if ((rd_L6 t240 1).length : Int) = 0 then (if (t246.length : Int) = 1 then (if (t252.length : Int) = 2 then (if 0 < (t252.length : Int) then (if (rdOf ByteArray.empty t252 0).toList = ([97] : List UInt8) then (if 1 < (t252.length : Int) then (jobshelllaw18_awake.j0 k t240 ((rdOf ByteArray.empty t252 1).toList != ([98, 32, 32, 99] : List UInt8))) else (none)) else (jobshelllaw18_awake.j0 k t240 true)) else (none)) else (jobshelllaw18_awake.j0 k t240 true)) else (jobshelllaw18_awake.j0 k t240 true)) else (jobshelllaw18_awake.j0 k t240 true)) else (none)) else (jobshelllaw18_awake.j0 k t240 true))))) = some r := by first | (rw [hy243]; with_reducible exact H) | (have H2_ := (Option.bind_some _ _).symm.trans H; rw [hy243]; with_reducible exact H2_) | (have H2_ := (Option.bind_some _ _).symm.trans H; with_reducible exact H2_) | with_reducible exact H | (rw [hy243]; exact H) | exact H
  have Ny243 := Aside0.mk hy243
  clear hy243
  replace H := Option.bind_eq_some_iff.mp H
  obtain ⟨t246, A30, H⟩ := H
  replace H : ((jobshelllaw18_expanded.f (⟨#[32, 97, 32, 98, 32, 32, 99, 32]⟩ : ByteArray)).bind fun t249 => ((split_Read.f k t249 (⟨#[32]⟩ : ByteArray) 2).bind fun t252 => (if (t240.length : Int) = 3 then (if 1 < (t240.length : Int) then (if ((rd_L6 t240 1).length : Int) = 0 then (if (t246.length : Int) = 1 then (if (t252.length : Int) = 2 then (if 0 < (t252.length : Int) then (if (rdOf ByteArray.empty t252 0).toList = ([97] : List UInt8) then (if 1 < (t252.length : Int) then (jobshelllaw18_awake.j0 k t240 ((rdOf ByteArray.empty t252 1).toList != ([98, 32, 32, 99] : List UInt8))) else (none)) else (jobshelllaw18_awake.j0 k t240 true)) else (none)) else (jobshelllaw18_awake.j0 k t240 true)) else (jobshelllaw18_awake.j0 k t240 true)) else (jobshelllaw18_awake.j0 k t240 true)) else (none)) else (jobshelllaw18_awake.j0 k t240 true)))) = some r := H
  have A3 := Aside0.mk A30
  clear A30
  replace H := Option.bind_eq_some_iff.mp H
  obtain ⟨t249, A40, H⟩ := H
  replace H : ((split_Read.f k t249 (⟨#[32]⟩ : ByteArray) 2).bind fun t252 => (if (t240.length : Int) = 3 then (if 1 < (t240.length : Int) then (if ((rd_L6 t240 1).length : Int) = 0 then (if (t246.length : Int) = 1 then (if (t252.length : Int) = 2 then (if 0 < (t252.length : Int) then (if (rdOf ByteArray.empty t252 0).toList = ([97] : List UInt8) then (if 1 < (t252.length : Int) then (jobshelllaw18_awake.j0 k t240 ((rdOf ByteArray.empty t252 1).toList != ([98, 32, 32, 99] : List UInt8))) else (none)) else (jobshelllaw18_awake.j0 k t240 true)) else (none)) else (jobshelllaw18_awake.j0 k t240 true)) else (jobshelllaw18_awake.j0 k t240 true)) else (jobshelllaw18_awake.j0 k t240 true)) else (none)) else (jobshelllaw18_awake.j0 k t240 true))) = some r := H
  have A4 := Aside0.mk A40
  clear A40
  replace H := Option.bind_eq_some_iff.mp H
  obtain ⟨t252, A50, H⟩ := H
  replace H : (if (t240.length : Int) = 3 then (if 1 < (t240.length : Int) then (if ((rd_L6 t240 1).length : Int) = 0 then (if (t246.length : Int) = 1 then (if (t252.length : Int) = 2 then (if 0 < (t252.length : Int) then (if (rdOf ByteArray.empty t252 0).toList = ([97] : List UInt8) then (if 1 < (t252.length : Int) then (jobshelllaw18_awake.j0 k t240 ((rdOf ByteArray.empty t252 1).toList != ([98, 32, 32, 99] : List UInt8))) else (none)) else (jobshelllaw18_awake.j0 k t240 true)) else (none)) else (jobshelllaw18_awake.j0 k t240 true)) else (jobshelllaw18_awake.j0 k t240 true)) else (jobshelllaw18_awake.j0 k t240 true)) else (none)) else (jobshelllaw18_awake.j0 k t240 true)) = some r := H
  have A5 := Aside0.mk A50
  clear A50
  have HC6 := Aside0.mk H
  clear H
  go_enter Try.func10, Try.ntmps10
  go_upto_region 4 with (first | ((with_reducible refine gate_callee (f := 24) rfl ?_); refine goesL_ (some 4) rfl rfl Try.func24 (by kernel_rfl) rfl #[.string (⟨#[97, 32, 58, 32, 58, 32, 98]⟩ : ByteArray)] rfl (by (try simp only [List.map_toArray, List.map_cons, List.map_nil]); first | done | rfl | (simp only [List.length_drop, List.length_take]; rfl)) ?_; (with_reducible refine (jobshelllaw18_expanded.calls (⟨#[97, 32, 58, 32, 58, 32, 98]⟩ : ByteArray) t237 _ A1.out).mono ?_); rintro e w7 ⟨v238, rfl, ho0, hb⟩; refine ⟨_, rfl, ?_⟩; have n0_ := Aside0.mk (Kd.R_lower ho0 (below_size (by repeat (first | (with_reducible first | exact HB.out | apply below_alloc | apply pw_below_drewN | apply below_drew1) | exact HB.out)))); have n1_ := Aside0.mk (below_step (by repeat (first | (with_reducible first | exact HB.out | apply below_alloc | apply pw_below_drewN | apply below_drew1) | exact HB.out)) hb); clear HB; have HO239 := n0_; have HB := n1_; clear n0_ n1_; (try clear hb); (try clear hb2); (try clear hk); (try clear hi); (try clear ho0); obtain ⟨Ao8, co8, eo8⟩ := Kd.R_slice HO239.out; subst eo8) | ((with_reducible refine gate_callee (f := 12) rfl ?_); refine goesL_ (some 5) rfl rfl Try.func12 (by kernel_rfl) rfl #[.slice Ao8 t237.length co8, .string (⟨#[32, 58]⟩ : ByteArray)] rfl (by (try simp only [List.map_toArray, List.map_cons, List.map_nil]); first | done | rfl | (simp only [List.length_drop, List.length_take]; rfl)) ?_; (with_reducible refine (split_Fields.calls k _ _ t237 (⟨#[32, 58]⟩ : ByteArray) t240 _ ?side1 ?side2 A2.out).mono ?_); (case side1 => repeat (first | exact (Kd.R_reads' HO239.out).2.2 | (with_reducible refine Kd.C_alloc ?_ _) | (with_reducible refine Kd.C_drewN ?_ _) | (with_reducible refine Kd.C_drew ?_))); (case side2 => exact (Kd.R_reads' HO239.out).2.1); rintro e w9 ⟨v241, rfl, ho0, hb⟩; refine ⟨_, rfl, ?_⟩; have n0_ := Aside0.mk (Kd.R_below (by (with_reducible repeat (first | apply Kd.R_alloc | apply Kd.R_drewN | apply Kd.R_drew)); exact HO239.out) hb); have n1_ := Aside0.mk (Kd.N_lower (Kd.N_mono (ok' := fun k_ => some k_ ≠ (.slice Ao8 t237.length co8 : Value).ownBlock) ho0 (fun k_ hk_ => (Kd.fresh' (Kd.R_lt (by (with_reducible repeat (first | apply Kd.R_alloc | apply Kd.R_drewN | apply Kd.R_drew)); exact HO239.out)) k_ hk_))) (below_size (by repeat (first | (with_reducible first | exact HB.out | apply below_alloc | apply pw_below_drewN | apply below_drew1) | exact HB.out)))); have n2_ := Aside0.mk (below_step (by repeat (first | (with_reducible first | exact HB.out | apply below_alloc | apply pw_below_drewN | apply below_drew1) | exact HB.out)) hb); clear HO239; clear HB; have HO239 := n0_; have HO242 := n1_; have HB := n2_; clear n0_ n1_ n2_; (try clear hb); (try clear hb2); (try clear hk); (try clear hi); (try clear ho0)) | ((with_reducible refine gate_dst (N := 7) rfl ?_); (try (refine gate_guard (by rfl) ?_; dsimp only)); refine Kd.R_lit k38 _ 38 ?hg (N := 7) ?hd (xs := ([(⟨(⟨#[]⟩ : ByteArray), 1⟩ : S38)] : List (S38))) (inner := [.string (⟨#[]⟩ : ByteArray), .int .i64 1]) (ok := fun _ => True) (okp := fun _ => True) ?hr ?hp (fun _ hk => hk) trivial (Below.refl _ _) (Nat.le_refl _) (by simp) ?_; (case hd => rfl); (case hg => rfl); (case hr => first | (go_simp; done) | (go_simp; rfl)); (case hp => exact (Reps.c2 (show Kd.M k38 _ _ _ (⟨(⟨#[]⟩ : ByteArray), 1⟩ : S38) [.string (⟨#[]⟩ : ByteArray), .int .i64 1] from (k38_mkM _ _ _ (⟨(⟨#[]⟩ : ByteArray), 1⟩ : S38) )) (Reps.none _ _))); intro v244 w10 ho11 hb hg_ hnew_; clear hg_ hnew_; (first | rw [← Ny243.out] at ho11 | (simp only [Int.reduceToNat] at ho11; rw [← Ny243.out] at ho11)); have n0_ := Aside0.mk (Kd.R_elder' (by (with_reducible repeat (first | apply Kd.R_alloc | apply Kd.R_drewN | apply Kd.R_drew)); exact HO239.out) (Kd.R_base ho11) hb); have n1_ := Aside0.mk (Kd.N_elder' (by (with_reducible repeat (first | apply Kd.N_alloc | apply Kd.N_drewN | apply Kd.N_drew)); exact HO242.out) (Kd.R_base ho11) hb); have n2_ := Aside0.mk (Kd.R_lower (Kd.R_new' ho11 (Kd.R_lt (by (with_reducible repeat (first | apply Kd.R_alloc | apply Kd.R_drewN | apply Kd.R_drew)); exact HO239.out))) (below_size (by repeat (first | (with_reducible first | exact HB.out | apply below_alloc | apply pw_below_drewN | apply below_drew1) | exact HB.out)))); have n3_ := Aside0.mk (below_step (by repeat (first | (with_reducible first | exact HB.out | apply below_alloc | apply pw_below_drewN | apply below_drew1) | exact HB.out)) hb); clear HO239; clear HO242; clear HB; have HO239 := n0_; have HO242 := n1_; have HO245 := n2_; have HB := n3_; clear n0_ n1_ n2_ n3_; clear hb ho11; obtain ⟨Ao12, co12, eo12⟩ := Kd.R_slice HO245.out; subst eo12) | ((with_reducible refine gate_callee (f := 12) rfl ?_); refine goesL_ (some 8) rfl rfl Try.func12 (by kernel_rfl) rfl #[.slice Ao12 y243.length co12, .string (⟨#[32]⟩ : ByteArray)] rfl (by (try simp only [List.map_toArray, List.map_cons, List.map_nil]); first | done | rfl | (simp only [List.length_drop, List.length_take]; rfl)) ?_; (with_reducible refine (split_Fields.calls k _ _ y243 (⟨#[32]⟩ : ByteArray) t246 _ ?side1 ?side2 A3.out).mono ?_); (case side1 => repeat (first | exact (Kd.R_reads' HO245.out).2.2 | (with_reducible refine Kd.C_alloc ?_ _) | (with_reducible refine Kd.C_drewN ?_ _) | (with_reducible refine Kd.C_drew ?_))); (case side2 => exact (Kd.R_reads' HO245.out).2.1); rintro e w13 ⟨v247, rfl, ho0, hb⟩; refine ⟨_, rfl, ?_⟩; have n0_ := Aside0.mk (Kd.R_below (by (with_reducible repeat (first | apply Kd.R_alloc | apply Kd.R_drewN | apply Kd.R_drew)); exact HO239.out) hb); have n1_ := Aside0.mk (Kd.N_elder' (by (with_reducible repeat (first | apply Kd.N_alloc | apply Kd.N_drewN | apply Kd.N_drew)); exact HO242.out) (Kd.N_base ho0) hb); have n2_ := Aside0.mk (Kd.R_below (by (with_reducible repeat (first | apply Kd.R_alloc | apply Kd.R_drewN | apply Kd.R_drew)); exact HO245.out) hb); have n3_ := Aside0.mk (Kd.N_lower (Kd.N_mono (ok' := fun k_ => some k_ ≠ (.slice Ao8 t237.length co8 : Value).ownBlock ∧ some k_ ≠ (v241 : Value).ownBlock ∧ some k_ ≠ (.slice Ao12 y243.length co12 : Value).ownBlock) ho0 (fun k_ hk_ => ⟨(Kd.fresh' (Kd.R_lt (by (with_reducible repeat (first | apply Kd.R_alloc | apply Kd.R_drewN | apply Kd.R_drew)); exact HO239.out)) k_ hk_), (Kd.fresh' (Kd.N_lt (by (with_reducible repeat (first | apply Kd.N_alloc | apply Kd.N_drewN | apply Kd.N_drew)); exact HO242.out)) k_ hk_), (Kd.fresh' (Kd.R_lt (by (with_reducible repeat (first | apply Kd.R_alloc | apply Kd.R_drewN | apply Kd.R_drew)); exact HO245.out)) k_ hk_)⟩)) (below_size (by repeat (first | (with_reducible first | exact HB.out | apply below_alloc | apply pw_below_drewN | apply below_drew1) | exact HB.out)))); have n4_ := Aside0.mk (below_step (by repeat (first | (with_reducible first | exact HB.out | apply below_alloc | apply pw_below_drewN | apply below_drew1) | exact HB.out)) hb); clear HO239; clear HO242; clear HO245; clear HB; have HO239 := n0_; have HO242 := n1_; have HO245 := n2_; have HO248 := n3_; have HB := n4_; clear n0_ n1_ n2_ n3_ n4_; (try clear hb); (try clear hb2); (try clear hk); (try clear hi); (try clear ho0)) | ((with_reducible refine gate_callee (f := 24) rfl ?_); refine goesL_ (some 9) rfl rfl Try.func24 (by kernel_rfl) rfl #[.string (⟨#[32, 97, 32, 98, 32, 32, 99, 32]⟩ : ByteArray)] rfl (by (try simp only [List.map_toArray, List.map_cons, List.map_nil]); first | done | rfl | (simp only [List.length_drop, List.length_take]; rfl)) ?_; (with_reducible refine (jobshelllaw18_expanded.calls (⟨#[32, 97, 32, 98, 32, 32, 99, 32]⟩ : ByteArray) t249 _ A4.out).mono ?_); rintro e w14 ⟨v250, rfl, ho0, hb⟩; refine ⟨_, rfl, ?_⟩; have n0_ := Aside0.mk (Kd.R_elder' (by (with_reducible repeat (first | apply Kd.R_alloc | apply Kd.R_drewN | apply Kd.R_drew)); exact HO239.out) (Kd.R_base ho0) hb); have n1_ := Aside0.mk (Kd.N_elder' (by (with_reducible repeat (first | apply Kd.N_alloc | apply Kd.N_drewN | apply Kd.N_drew)); exact HO242.out) (Kd.R_base ho0) hb); have n2_ := Aside0.mk (Kd.R_elder' (by (with_reducible repeat (first | apply Kd.R_alloc | apply Kd.R_drewN | apply Kd.R_drew)); exact HO245.out) (Kd.R_base ho0) hb); have n3_ := Aside0.mk (Kd.N_elder' (by (with_reducible repeat (first | apply Kd.N_alloc | apply Kd.N_drewN | apply Kd.N_drew)); exact HO248.out) (Kd.R_base ho0) hb); have n4_ := Aside0.mk (Kd.R_lower (Kd.R_new' (Kd.R_new' ho0 (Kd.R_lt (by (with_reducible repeat (first | apply Kd.R_alloc | apply Kd.R_drewN | apply Kd.R_drew)); exact HO239.out))) (Kd.R_lt (by (with_reducible repeat (first | apply Kd.R_alloc | apply Kd.R_drewN | apply Kd.R_drew)); exact HO245.out))) (below_size (by repeat (first | (with_reducible first | exact HB.out | apply below_alloc | apply pw_below_drewN | apply below_drew1) | exact HB.out)))); have n5_ := Aside0.mk (below_step (by repeat (first | (with_reducible first | exact HB.out | apply below_alloc | apply pw_below_drewN | apply below_drew1) | exact HB.out)) hb); clear HO239; clear HO242; clear HO245; clear HO248; clear HB; have HO239 := n0_; have HO242 := n1_; have HO245 := n2_; have HO248 := n3_; have HO251 := n4_; have HB := n5_; clear n0_ n1_ n2_ n3_ n4_ n5_; (try clear hb); (try clear hb2); (try clear hk); (try clear hi); (try clear ho0); obtain ⟨Ao15, co15, eo15⟩ := Kd.R_slice HO251.out; subst eo15) | ((with_reducible refine gate_callee (f := 20) rfl ?_); refine goesL_ (some 10) rfl rfl Try.func20 (by kernel_rfl) rfl #[.slice Ao15 t249.length co15, .string (⟨#[32]⟩ : ByteArray), .int .i64 2] rfl (by (try simp only [List.map_toArray, List.map_cons, List.map_nil]); first | done | rfl | (simp only [List.length_drop, List.length_take]; rfl)) ?_; (with_reducible refine (split_Read.calls k _ _ t249 (⟨#[32]⟩ : ByteArray) 2 t252 _ ?side1 ?side2 A5.out).mono ?_); (case side1 => repeat (first | exact (Kd.R_reads' HO251.out).2.2 | (with_reducible refine Kd.C_alloc ?_ _) | (with_reducible refine Kd.C_drewN ?_ _) | (with_reducible refine Kd.C_drew ?_))); (case side2 => exact (Kd.R_reads' HO251.out).2.1); rintro e w16 ⟨v253, rfl, ho0, hb⟩; refine ⟨_, rfl, ?_⟩; have n0_ := Aside0.mk (Kd.R_below (by (with_reducible repeat (first | apply Kd.R_alloc | apply Kd.R_drewN | apply Kd.R_drew)); exact HO239.out) hb); have n1_ := Aside0.mk (Kd.N_elder' (by (with_reducible repeat (first | apply Kd.N_alloc | apply Kd.N_drewN | apply Kd.N_drew)); exact HO242.out) (Kd.R_base ho0) hb); have n2_ := Aside0.mk (Kd.R_below (by (with_reducible repeat (first | apply Kd.R_alloc | apply Kd.R_drewN | apply Kd.R_drew)); exact HO245.out) hb); have n3_ := Aside0.mk (Kd.N_elder' (by (with_reducible repeat (first | apply Kd.N_alloc | apply Kd.N_drewN | apply Kd.N_drew)); exact HO248.out) (Kd.R_base ho0) hb); have n4_ := Aside0.mk (Kd.R_below (by (with_reducible repeat (first | apply Kd.R_alloc | apply Kd.R_drewN | apply Kd.R_drew)); exact HO251.out) hb); have n5_ := Aside0.mk (Kd.R_lower ho0 (below_size (by repeat (first | (with_reducible first | exact HB.out | apply below_alloc | apply pw_below_drewN | apply below_drew1) | exact HB.out)))); have n6_ := Aside0.mk (below_step (by repeat (first | (with_reducible first | exact HB.out | apply below_alloc | apply pw_below_drewN | apply below_drew1) | exact HB.out)) hb); clear HO239; clear HO242; clear HO245; clear HO248; clear HO251; clear HB; have HO239 := n0_; have HO242 := n1_; have HO245 := n2_; have HO248 := n3_; have HO251 := n4_; have HO254 := n5_; have HB := n6_; clear n0_ n1_ n2_ n3_ n4_ n5_ n6_; (try clear hb); (try clear hb2); (try clear hk); (try clear hi); (try clear ho0)))
  (try simp only [Act.put, List.setIfInBounds_toArray, List.set_cons_zero, List.set_cons_succ])
  go_cut [42] (fun v42 wc => ∃ (kq : Nat) (x42_5 : Bool), v42 = .bool x42_5 ∧ Aside0 (jobshelllaw18_awake.j0 kq t240 x42_5 = some r) ∧ Aside0 (kq ≤ k) ∧ Aside0 (Kd.N (Kd.slice 38 k38) 22 wc w.heap.size (fun _ => True) v241 t240) ∧ Aside0 (Below w.heap.size w wc))
  case first =>
    have H := HC6.out
    clear HC6
    by_cases c17 : (t240.length : Int) = 3
    · rw [if_pos c17] at H
      have c17b0 : ((t240.length : Int) == 3) = true := beq_iff_eq.mpr c17
      have c17b1 : ((t240.length : Int) != 3) = false := bne_eq_false_iff_eq.mpr c17
      clear c17
      (first | rw [c17b0] | (simp only [i64_w, i32_w]; rw [c17b0]) | skip)
      by_cases c18 : 1 < (t240.length : Int)
      · rw [if_pos c18] at H
        have c18b0 : decide (1 < (t240.length : Int)) = true := decide_eq_true c18
        have c18b1 : decide (1 < t240.length) = true := decide_eq_true (by omega)
        clear c18
        by_cases c19 : ((rd_L6 t240 1).length : Int) = 0
        · rw [if_pos c19] at H
          have c19b0 : (((rd_L6 t240 1).length : Int) == 0) = true := beq_iff_eq.mpr c19
          have c19b1 : (((rd_L6 t240 1).length : Int) != 0) = false := bne_eq_false_iff_eq.mpr c19
          clear c19
          by_cases c20 : (t246.length : Int) = 1
          · rw [if_pos c20] at H
            have c20b0 : ((t246.length : Int) == 1) = true := beq_iff_eq.mpr c20
            have c20b1 : ((t246.length : Int) != 1) = false := bne_eq_false_iff_eq.mpr c20
            clear c20
            by_cases c21 : (t252.length : Int) = 2
            · rw [if_pos c21] at H
              have c21b0 : ((t252.length : Int) == 2) = true := beq_iff_eq.mpr c21
              have c21b1 : ((t252.length : Int) != 2) = false := bne_eq_false_iff_eq.mpr c21
              clear c21
              by_cases c22 : 0 < (t252.length : Int)
              · rw [if_pos c22] at H
                have c22b0 : decide (0 < (t252.length : Int)) = true := decide_eq_true c22
                have c22b1 : decide (0 < t252.length) = true := decide_eq_true (by omega)
                clear c22
                by_cases c23 : (rdOf ByteArray.empty t252 0).toList = ([97] : List UInt8)
                · rw [if_pos c23] at H
                  have c23b0 : ((rdOf ByteArray.empty t252 0).toList == ([97] : List UInt8)) = true := beq_iff_eq.mpr c23
                  have c23b1 : ((rdOf ByteArray.empty t252 0).toList != ([97] : List UInt8)) = false := bne_eq_false_iff_eq.mpr c23
                  clear c23
                  by_cases c24 : 1 < (t252.length : Int)
                  · rw [if_pos c24] at H
                    have c24b0 : decide (1 < (t252.length : Int)) = true := decide_eq_true c24
                    have c24b1 : decide (1 < t252.length) = true := decide_eq_true (by omega)
                    clear c24
                    have H' := Aside0.mk H
                    clear H
                    obtain ⟨Ao25, co25, eo25⟩ := Kd.N_slice HO242.out
                    subst eo25
                    have p255 : 0 ≤ (1 : Int) := (by omega)
                    have q255 : 1 < (t240.length : Int) := of_decide_eq_true (by first | (with_reducible assumption) | assumption)
                    obtain ⟨ad255, A255_0, c255_0, e255, hx255_0, hl255_0, hi255_0⟩ := at_L6 (Kd.N_reads' HO242.out).2.2 1 p255 q255
                    cases e255
                    obtain ⟨ce255, hce255, hMe255, hcc255⟩ := Kd.N_get HO242.out [] 1 p255 (by first | exact q255 | exact of_decide_eq_true (by first | (with_reducible assumption) | assumption) | (have e_ := (Kd.N_reads' HO242.out).1; omega))
                    obtain ⟨ua255_0, uc255_0, rfl, ul255_0, ge255_0⟩ := Kd.FK_slice_open hMe255
                    have hv255_0 := hcc255 0 _ rfl
                    rw [Nat.add_zero, show ((Kd.slice 38 k38)).sz = 1 from rfl, Nat.mul_one] at hv255_0
                    replace hv255_0 := Option.some.inj (hv255_0.symm.trans hx255_0)
                    injection hv255_0 with hva_ hvn_ hvc_
                    rw [hva_] at ge255_0
                    rw [hvc_] at ul255_0
                    have HL255_0 := Aside0.mk (show Kd.V k38 38 _ w.heap.size _ _ (rd_L6 t240 1) from Kd.V_mk ul255_0 ge255_0)
                    clear hva_ hvn_ hvc_ ge255_0 ul255_0
                    clear hcc255 hce255
                    (try simp only [show (1 : Int).toNat = 1 from rfl, Nat.reduceMul, Nat.reduceEqDiff, Go.Addr.add, ↓reduceIte] at hx255_0)
                    have qi255 : (1 < t240.length) = True := eq_true (by omega)
                    (try rw [show ((1 : Int)).toNat = 1 from rfl] at hx255_0)
                    have HR255_0 := Aside0.mk hi255_0
                    have HC255_0 := Aside0.mk hl255_0
                    clear hi255_0 hl255_0
                    replace p255 := eq_true p255
                    replace q255 := eq_true q255
                    obtain ⟨Ao26, co26, eo26⟩ := Kd.N_slice HO248.out
                    subst eo26
                    obtain ⟨Ao27, co27, eo27⟩ := Kd.R_slice HO254.out
                    subst eo27
                    have p256 : 0 ≤ (0 : Int) := (by omega)
                    have q256 : 0 < (t252.length : Int) := of_decide_eq_true (by first | (with_reducible assumption) | assumption)
                    obtain ⟨ad256, e256, hx256_0⟩ := Kd.at_string (Kd.R_reads' HO254.out).2.2 0 p256 q256
                    cases e256
                    have qi256 : (0 < t252.length) = True := eq_true (by omega)
                    (try rw [show ((0 : Int)).toNat = 0 from rfl] at hx256_0)
                    (try rw [Addr.add_zero'] at hx256_0)
                    replace p256 := eq_true p256
                    replace q256 := eq_true q256
                    have p257 : 0 ≤ (1 : Int) := (by omega)
                    have q257 : 1 < (t252.length : Int) := of_decide_eq_true (by first | (with_reducible assumption) | assumption)
                    obtain ⟨ad257, e257, hx257_0⟩ := Kd.at_string (Kd.R_reads' HO254.out).2.2 1 p257 q257
                    obtain rfl : ad256 = ad257 := (by injection e257)
                    (try simp only [show (1 : Int).toNat = 1 from rfl, Nat.reduceMul, Nat.reduceEqDiff, Go.Addr.add, ↓reduceIte] at hx257_0)
                    have qi257 : (1 < t252.length) = True := eq_true (by omega)
                    (try rw [show ((1 : Int)).toNat = 1 from rfl] at hx257_0)
                    replace p257 := eq_true p257
                    replace q257 := eq_true q257
                    go_wp2
                    go_meet
                    case rel => exact ⟨_, (((rdOf ByteArray.empty t252 1).toList != ([98, 32, 32, 99] : List UInt8))), (by first | rfl | (simp; done) | (simp [*]; done)), H', ⟨by first | omega | exact Nat.le_refl _⟩, ⟨by (with_reducible repeat (first | apply Kd.N_alloc | apply Kd.N_drewN | apply Kd.N_drew)); exact Kd.N_mono HO242.out (fun _ hk => trivial)⟩, ⟨by repeat (first | (with_reducible first | exact HB.out | apply below_alloc | apply pw_below_drewN | apply below_drew1) | exact HB.out)⟩⟩
                  · rw [if_neg c24] at H
                    exact absurd H (by simp)
                · rw [if_neg c23] at H
                  have c23b0 : ((rdOf ByteArray.empty t252 0).toList == ([97] : List UInt8)) = false := beq_eq_false_iff_ne.mpr c23
                  have c23b1 : ((rdOf ByteArray.empty t252 0).toList != ([97] : List UInt8)) = true := bne_iff_ne.mpr c23
                  have H' := Aside0.mk H
                  clear H
                  obtain ⟨Ao28, co28, eo28⟩ := Kd.N_slice HO242.out
                  subst eo28
                  have p255 : 0 ≤ (1 : Int) := (by omega)
                  have q255 : 1 < (t240.length : Int) := of_decide_eq_true (by first | (with_reducible assumption) | assumption)
                  obtain ⟨ad255, A255_0, c255_0, e255, hx255_0, hl255_0, hi255_0⟩ := at_L6 (Kd.N_reads' HO242.out).2.2 1 p255 q255
                  cases e255
                  obtain ⟨ce255, hce255, hMe255, hcc255⟩ := Kd.N_get HO242.out [] 1 p255 (by first | exact q255 | exact of_decide_eq_true (by first | (with_reducible assumption) | assumption) | (have e_ := (Kd.N_reads' HO242.out).1; omega))
                  obtain ⟨ua255_0, uc255_0, rfl, ul255_0, ge255_0⟩ := Kd.FK_slice_open hMe255
                  have hv255_0 := hcc255 0 _ rfl
                  rw [Nat.add_zero, show ((Kd.slice 38 k38)).sz = 1 from rfl, Nat.mul_one] at hv255_0
                  replace hv255_0 := Option.some.inj (hv255_0.symm.trans hx255_0)
                  injection hv255_0 with hva_ hvn_ hvc_
                  rw [hva_] at ge255_0
                  rw [hvc_] at ul255_0
                  have HL255_0 := Aside0.mk (show Kd.V k38 38 _ w.heap.size _ _ (rd_L6 t240 1) from Kd.V_mk ul255_0 ge255_0)
                  clear hva_ hvn_ hvc_ ge255_0 ul255_0
                  clear hcc255 hce255
                  (try simp only [show (1 : Int).toNat = 1 from rfl, Nat.reduceMul, Nat.reduceEqDiff, Go.Addr.add, ↓reduceIte] at hx255_0)
                  have qi255 : (1 < t240.length) = True := eq_true (by omega)
                  (try rw [show ((1 : Int)).toNat = 1 from rfl] at hx255_0)
                  have HR255_0 := Aside0.mk hi255_0
                  have HC255_0 := Aside0.mk hl255_0
                  clear hi255_0 hl255_0
                  replace p255 := eq_true p255
                  replace q255 := eq_true q255
                  obtain ⟨Ao29, co29, eo29⟩ := Kd.N_slice HO248.out
                  subst eo29
                  obtain ⟨Ao30, co30, eo30⟩ := Kd.R_slice HO254.out
                  subst eo30
                  have p256 : 0 ≤ (0 : Int) := (by omega)
                  have q256 : 0 < (t252.length : Int) := of_decide_eq_true (by first | (with_reducible assumption) | assumption)
                  obtain ⟨ad256, e256, hx256_0⟩ := Kd.at_string (Kd.R_reads' HO254.out).2.2 0 p256 q256
                  cases e256
                  have qi256 : (0 < t252.length) = True := eq_true (by omega)
                  (try rw [show ((0 : Int)).toNat = 0 from rfl] at hx256_0)
                  (try rw [Addr.add_zero'] at hx256_0)
                  replace p256 := eq_true p256
                  replace q256 := eq_true q256
                  go_wp2
                  go_meet
                  case rel => exact ⟨_, (true), (by first | rfl | (simp; done) | (simp [*]; done)), H', ⟨by first | omega | exact Nat.le_refl _⟩, ⟨by (with_reducible repeat (first | apply Kd.N_alloc | apply Kd.N_drewN | apply Kd.N_drew)); exact Kd.N_mono HO242.out (fun _ hk => trivial)⟩, ⟨by repeat (first | (with_reducible first | exact HB.out | apply below_alloc | apply pw_below_drewN | apply below_drew1) | exact HB.out)⟩⟩
              · rw [if_neg c22] at H
                exact absurd H (by simp)
            · rw [if_neg c21] at H
              have c21b0 : ((t252.length : Int) == 2) = false := beq_eq_false_iff_ne.mpr c21
              have c21b1 : ((t252.length : Int) != 2) = true := bne_iff_ne.mpr c21
              have H' := Aside0.mk H
              clear H
              obtain ⟨Ao31, co31, eo31⟩ := Kd.N_slice HO242.out
              subst eo31
              have p255 : 0 ≤ (1 : Int) := (by omega)
              have q255 : 1 < (t240.length : Int) := of_decide_eq_true (by first | (with_reducible assumption) | assumption)
              obtain ⟨ad255, A255_0, c255_0, e255, hx255_0, hl255_0, hi255_0⟩ := at_L6 (Kd.N_reads' HO242.out).2.2 1 p255 q255
              cases e255
              obtain ⟨ce255, hce255, hMe255, hcc255⟩ := Kd.N_get HO242.out [] 1 p255 (by first | exact q255 | exact of_decide_eq_true (by first | (with_reducible assumption) | assumption) | (have e_ := (Kd.N_reads' HO242.out).1; omega))
              obtain ⟨ua255_0, uc255_0, rfl, ul255_0, ge255_0⟩ := Kd.FK_slice_open hMe255
              have hv255_0 := hcc255 0 _ rfl
              rw [Nat.add_zero, show ((Kd.slice 38 k38)).sz = 1 from rfl, Nat.mul_one] at hv255_0
              replace hv255_0 := Option.some.inj (hv255_0.symm.trans hx255_0)
              injection hv255_0 with hva_ hvn_ hvc_
              rw [hva_] at ge255_0
              rw [hvc_] at ul255_0
              have HL255_0 := Aside0.mk (show Kd.V k38 38 _ w.heap.size _ _ (rd_L6 t240 1) from Kd.V_mk ul255_0 ge255_0)
              clear hva_ hvn_ hvc_ ge255_0 ul255_0
              clear hcc255 hce255
              (try simp only [show (1 : Int).toNat = 1 from rfl, Nat.reduceMul, Nat.reduceEqDiff, Go.Addr.add, ↓reduceIte] at hx255_0)
              have qi255 : (1 < t240.length) = True := eq_true (by omega)
              (try rw [show ((1 : Int)).toNat = 1 from rfl] at hx255_0)
              have HR255_0 := Aside0.mk hi255_0
              have HC255_0 := Aside0.mk hl255_0
              clear hi255_0 hl255_0
              replace p255 := eq_true p255
              replace q255 := eq_true q255
              obtain ⟨Ao32, co32, eo32⟩ := Kd.N_slice HO248.out
              subst eo32
              obtain ⟨Ao33, co33, eo33⟩ := Kd.R_slice HO254.out
              subst eo33
              go_wp2
              go_meet
              case rel => exact ⟨_, (true), (by first | rfl | (simp; done) | (simp [*]; done)), H', ⟨by first | omega | exact Nat.le_refl _⟩, ⟨by (with_reducible repeat (first | apply Kd.N_alloc | apply Kd.N_drewN | apply Kd.N_drew)); exact Kd.N_mono HO242.out (fun _ hk => trivial)⟩, ⟨by repeat (first | (with_reducible first | exact HB.out | apply below_alloc | apply pw_below_drewN | apply below_drew1) | exact HB.out)⟩⟩
          · rw [if_neg c20] at H
            have c20b0 : ((t246.length : Int) == 1) = false := beq_eq_false_iff_ne.mpr c20
            have c20b1 : ((t246.length : Int) != 1) = true := bne_iff_ne.mpr c20
            have H' := Aside0.mk H
            clear H
            obtain ⟨Ao34, co34, eo34⟩ := Kd.N_slice HO242.out
            subst eo34
            have p255 : 0 ≤ (1 : Int) := (by omega)
            have q255 : 1 < (t240.length : Int) := of_decide_eq_true (by first | (with_reducible assumption) | assumption)
            obtain ⟨ad255, A255_0, c255_0, e255, hx255_0, hl255_0, hi255_0⟩ := at_L6 (Kd.N_reads' HO242.out).2.2 1 p255 q255
            cases e255
            obtain ⟨ce255, hce255, hMe255, hcc255⟩ := Kd.N_get HO242.out [] 1 p255 (by first | exact q255 | exact of_decide_eq_true (by first | (with_reducible assumption) | assumption) | (have e_ := (Kd.N_reads' HO242.out).1; omega))
            obtain ⟨ua255_0, uc255_0, rfl, ul255_0, ge255_0⟩ := Kd.FK_slice_open hMe255
            have hv255_0 := hcc255 0 _ rfl
            rw [Nat.add_zero, show ((Kd.slice 38 k38)).sz = 1 from rfl, Nat.mul_one] at hv255_0
            replace hv255_0 := Option.some.inj (hv255_0.symm.trans hx255_0)
            injection hv255_0 with hva_ hvn_ hvc_
            rw [hva_] at ge255_0
            rw [hvc_] at ul255_0
            have HL255_0 := Aside0.mk (show Kd.V k38 38 _ w.heap.size _ _ (rd_L6 t240 1) from Kd.V_mk ul255_0 ge255_0)
            clear hva_ hvn_ hvc_ ge255_0 ul255_0
            clear hcc255 hce255
            (try simp only [show (1 : Int).toNat = 1 from rfl, Nat.reduceMul, Nat.reduceEqDiff, Go.Addr.add, ↓reduceIte] at hx255_0)
            have qi255 : (1 < t240.length) = True := eq_true (by omega)
            (try rw [show ((1 : Int)).toNat = 1 from rfl] at hx255_0)
            have HR255_0 := Aside0.mk hi255_0
            have HC255_0 := Aside0.mk hl255_0
            clear hi255_0 hl255_0
            replace p255 := eq_true p255
            replace q255 := eq_true q255
            obtain ⟨Ao35, co35, eo35⟩ := Kd.N_slice HO248.out
            subst eo35
            go_wp2
            go_meet
            case rel => exact ⟨_, (true), (by first | rfl | (simp; done) | (simp [*]; done)), H', ⟨by first | omega | exact Nat.le_refl _⟩, ⟨by (with_reducible repeat (first | apply Kd.N_alloc | apply Kd.N_drewN | apply Kd.N_drew)); exact Kd.N_mono HO242.out (fun _ hk => trivial)⟩, ⟨by repeat (first | (with_reducible first | exact HB.out | apply below_alloc | apply pw_below_drewN | apply below_drew1) | exact HB.out)⟩⟩
        · rw [if_neg c19] at H
          have c19b0 : (((rd_L6 t240 1).length : Int) == 0) = false := beq_eq_false_iff_ne.mpr c19
          have c19b1 : (((rd_L6 t240 1).length : Int) != 0) = true := bne_iff_ne.mpr c19
          have c19b2 : ¬ ((rd_L6 t240 1) = []) := fun h_ => c19 (by rw [h_]; rfl)
          have H' := Aside0.mk H
          clear H
          obtain ⟨Ao36, co36, eo36⟩ := Kd.N_slice HO242.out
          subst eo36
          have p255 : 0 ≤ (1 : Int) := (by omega)
          have q255 : 1 < (t240.length : Int) := of_decide_eq_true (by first | (with_reducible assumption) | assumption)
          obtain ⟨ad255, A255_0, c255_0, e255, hx255_0, hl255_0, hi255_0⟩ := at_L6 (Kd.N_reads' HO242.out).2.2 1 p255 q255
          cases e255
          obtain ⟨ce255, hce255, hMe255, hcc255⟩ := Kd.N_get HO242.out [] 1 p255 (by first | exact q255 | exact of_decide_eq_true (by first | (with_reducible assumption) | assumption) | (have e_ := (Kd.N_reads' HO242.out).1; omega))
          obtain ⟨ua255_0, uc255_0, rfl, ul255_0, ge255_0⟩ := Kd.FK_slice_open hMe255
          have hv255_0 := hcc255 0 _ rfl
          rw [Nat.add_zero, show ((Kd.slice 38 k38)).sz = 1 from rfl, Nat.mul_one] at hv255_0
          replace hv255_0 := Option.some.inj (hv255_0.symm.trans hx255_0)
          injection hv255_0 with hva_ hvn_ hvc_
          rw [hva_] at ge255_0
          rw [hvc_] at ul255_0
          have HL255_0 := Aside0.mk (show Kd.V k38 38 _ w.heap.size _ _ (rd_L6 t240 1) from Kd.V_mk ul255_0 ge255_0)
          clear hva_ hvn_ hvc_ ge255_0 ul255_0
          clear hcc255 hce255
          (try simp only [show (1 : Int).toNat = 1 from rfl, Nat.reduceMul, Nat.reduceEqDiff, Go.Addr.add, ↓reduceIte] at hx255_0)
          have qi255 : (1 < t240.length) = True := eq_true (by omega)
          (try rw [show ((1 : Int)).toNat = 1 from rfl] at hx255_0)
          have HR255_0 := Aside0.mk hi255_0
          have HC255_0 := Aside0.mk hl255_0
          clear hi255_0 hl255_0
          replace p255 := eq_true p255
          replace q255 := eq_true q255
          go_wp2
          go_meet
          case rel => exact ⟨_, (true), (by first | rfl | (simp; done) | (simp [*]; done)), H', ⟨by first | omega | exact Nat.le_refl _⟩, ⟨by (with_reducible repeat (first | apply Kd.N_alloc | apply Kd.N_drewN | apply Kd.N_drew)); exact Kd.N_mono HO242.out (fun _ hk => trivial)⟩, ⟨by repeat (first | (with_reducible first | exact HB.out | apply below_alloc | apply pw_below_drewN | apply below_drew1) | exact HB.out)⟩⟩
      · rw [if_neg c18] at H
        exact absurd H (by simp)
    · rw [if_neg c17] at H
      have c17b0 : ((t240.length : Int) == 3) = false := beq_eq_false_iff_ne.mpr c17
      have c17b1 : ((t240.length : Int) != 3) = true := bne_iff_ne.mpr c17
      (first | rw [c17b0] | (simp only [i64_w, i32_w]; rw [c17b0]) | skip)
      have H' := Aside0.mk H
      clear H
      obtain ⟨Ao37, co37, eo37⟩ := Kd.N_slice HO242.out
      subst eo37
      go_wp2
      go_meet
      case rel => exact ⟨_, (true), (by first | rfl | (simp; done) | (simp [*]; done)), H', ⟨by first | omega | exact Nat.le_refl _⟩, ⟨by (with_reducible repeat (first | apply Kd.N_alloc | apply Kd.N_drewN | apply Kd.N_drew)); exact Kd.N_mono HO242.out (fun _ hk => trivial)⟩, ⟨by repeat (first | (with_reducible first | exact HB.out | apply below_alloc | apply pw_below_drewN | apply below_drew1) | exact HB.out)⟩⟩
  case rest =>
    clear HC6
    try clear c1
    try clear c2
    try clear p2
    try clear q2
    try clear hx2
    try clear qi2
    try clear c10
    try clear c12
    try clear c17
    try clear c17b0
    try clear c17b1
    try clear c18
    try clear c18b0
    try clear c18b1
    try clear c19
    try clear c19b0
    try clear c19b1
    try clear c19b2
    try clear c20
    try clear c20b0
    try clear c20b1
    try clear c21
    try clear c21b0
    try clear c21b1
    try clear c22
    try clear c22b0
    try clear c22b1
    try clear c23
    try clear c23b0
    try clear c23b1
    try clear c24
    try clear c24b0
    try clear c24b1
    try clear c25
    try clear p25
    try clear q25
    try clear hx25
    try clear qi25
    try clear hx255_0
    try clear hx256_0
    try clear hx257_0
    try clear p255
    try clear p256
    try clear p257
    try clear q255
    try clear q256
    try clear q257
    obtain ⟨kq, x42_5, rfl, HA, HJ5, HO_1, HB⟩ := hcut
    cases kq with
    | zero => exact absurd HA.out (by simp [jobshelllaw18_awake.j0])
    | succ kj5 =>
      have H := HA.out
      clear HA
      simp only [jobshelllaw18_awake.j0] at H
      by_cases c38 : x42_5 = true
      · subst c38
        have H1 : (some false) = some r := by rw [if_pos rfl] at H; exact H
        clear H
        have H := H1
        clear H1
        obtain rfl := Option.some.inj H
        go_wp2
        go_ret
        exact ⟨by first | rfl | (simp [errW_none, errW_some] <;> rfl) | (simp [*, errW_none, errW_some] <;> rfl), by repeat (first | (with_reducible first | exact HB.out | apply below_alloc | apply pw_below_drewN | apply below_drew1) | exact HB.out)⟩
      · replace c38 := Bool.eq_false_iff.mpr c38
        subst c38
        have H1 : (if 0 < (t240.length : Int) then ((split_Text.f (rd_L6 t240 0)).bind fun t259 => (if t259.toList = ([97] : List UInt8) then (if 2 < (t240.length : Int) then ((split_Text.f (rd_L6 t240 2)).bind fun t261 => (if t261.toList = ([98] : List UInt8) then ((split_Join.f (([(⟨#[97]⟩ : ByteArray), (⟨#[98]⟩ : ByteArray)] : List ByteArray)) (⟨#[58]⟩ : ByteArray)).bind fun t265 => (some (t265.toList == ([97, 58, 98] : List UInt8)))) else (some false))) else (none)) else (some false))) else (none)) = some r := by rw [if_neg (show ¬ (false = true) by decide)] at H; exact H
        clear H
        have H := H1
        clear H1
        by_cases c39 : 0 < (t240.length : Int)
        · rw [if_pos c39] at H
          have c39b0 : decide (0 < (t240.length : Int)) = true := decide_eq_true c39
          have c39b1 : decide (0 < t240.length) = true := decide_eq_true (by omega)
          clear c39
          replace H := Option.bind_eq_some_iff.mp H
          obtain ⟨t259, A400, H⟩ := H
          replace H : (if t259.toList = ([97] : List UInt8) then (if 2 < (t240.length : Int) then ((split_Text.f (rd_L6 t240 2)).bind fun t261 => (if t261.toList = ([98] : List UInt8) then ((split_Join.f (([(⟨#[97]⟩ : ByteArray), (⟨#[98]⟩ : ByteArray)] : List ByteArray)) (⟨#[58]⟩ : ByteArray)).bind fun t265 => (some (t265.toList == ([97, 58, 98] : List UInt8)))) else (some false))) else (none)) else (some false)) = some r := H
          have A40 := Aside0.mk A400
          clear A400
          by_cases c41 : t259.toList = ([97] : List UInt8)
          · rw [if_pos c41] at H
            have c41b0 : (t259.toList == ([97] : List UInt8)) = true := beq_iff_eq.mpr c41
            have c41b1 : (t259.toList != ([97] : List UInt8)) = false := bne_eq_false_iff_eq.mpr c41
            clear c41
            by_cases c42 : 2 < (t240.length : Int)
            · rw [if_pos c42] at H
              have c42b0 : decide (2 < (t240.length : Int)) = true := decide_eq_true c42
              have c42b1 : decide (2 < t240.length) = true := decide_eq_true (by omega)
              clear c42
              replace H := Option.bind_eq_some_iff.mp H
              obtain ⟨t261, A430, H⟩ := H
              replace H : (if t261.toList = ([98] : List UInt8) then ((split_Join.f (([(⟨#[97]⟩ : ByteArray), (⟨#[98]⟩ : ByteArray)] : List ByteArray)) (⟨#[58]⟩ : ByteArray)).bind fun t265 => (some (t265.toList == ([97, 58, 98] : List UInt8)))) else (some false)) = some r := H
              have A43 := Aside0.mk A430
              clear A430
              by_cases c44 : t261.toList = ([98] : List UInt8)
              · rw [if_pos c44] at H
                have c44b0 : (t261.toList == ([98] : List UInt8)) = true := beq_iff_eq.mpr c44
                have c44b1 : (t261.toList != ([98] : List UInt8)) = false := bne_eq_false_iff_eq.mpr c44
                clear c44
                obtain ⟨y262, hy262⟩ : ∃ y_ : List ByteArray, y_ = (([(⟨#[97]⟩ : ByteArray), (⟨#[98]⟩ : ByteArray)] : List ByteArray)) := ⟨_, rfl⟩
                replace H : ((split_Join.f y262 (⟨#[58]⟩ : ByteArray)).bind fun t265 => (some (t265.toList == ([97, 58, 98] : List UInt8)))) = some r := by first | (rw [hy262]; with_reducible exact H) | (have H2_ := (Option.bind_some _ _).symm.trans H; rw [hy262]; with_reducible exact H2_) | (have H2_ := (Option.bind_some _ _).symm.trans H; with_reducible exact H2_) | with_reducible exact H | (rw [hy262]; exact H) | exact H
                have Ny262 := Aside0.mk hy262
                clear hy262
                replace H := Option.bind_eq_some_iff.mp H
                obtain ⟨t265, A450, H⟩ := H
                replace H : (some (t265.toList == ([97, 58, 98] : List UInt8))) = some r := H
                have A45 := Aside0.mk A450
                clear A450
                obtain rfl := Option.some.inj H
                obtain ⟨Ao46, co46, eo46⟩ := Kd.N_slice HO_1.out
                subst eo46
                have p258 : 0 ≤ (0 : Int) := (by omega)
                have q258 : 0 < (t240.length : Int) := of_decide_eq_true (by first | (with_reducible assumption) | assumption)
                obtain ⟨ad258, A258_0, c258_0, e258, hx258_0, hl258_0, hi258_0⟩ := at_L6 (Kd.N_reads' HO_1.out).2.2 0 p258 q258
                cases e258
                obtain ⟨ce258, hce258, hMe258, hcc258⟩ := Kd.N_get HO_1.out [] 0 p258 (by first | exact q258 | exact of_decide_eq_true (by first | (with_reducible assumption) | assumption) | (have e_ := (Kd.N_reads' HO_1.out).1; omega))
                obtain ⟨ua258_0, uc258_0, rfl, ul258_0, ge258_0⟩ := Kd.FK_slice_open hMe258
                have hv258_0 := hcc258 0 _ rfl
                rw [Nat.add_zero, show ((Kd.slice 38 k38)).sz = 1 from rfl, Nat.mul_one] at hv258_0
                replace hv258_0 := Option.some.inj (hv258_0.symm.trans hx258_0)
                injection hv258_0 with hva_ hvn_ hvc_
                rw [hva_] at ge258_0
                rw [hvc_] at ul258_0
                have HL258_0 := Aside0.mk (show Kd.V k38 38 _ w.heap.size _ _ (rd_L6 t240 0) from Kd.V_mk ul258_0 ge258_0)
                clear hva_ hvn_ hvc_ ge258_0 ul258_0
                clear hcc258 hce258
                have qi258 : (0 < t240.length) = True := eq_true (by omega)
                (try rw [show ((0 : Int)).toNat = 0 from rfl] at hx258_0)
                (try rw [Addr.add_zero'] at hx258_0)
                have HR258_0 := Aside0.mk hi258_0
                have HC258_0 := Aside0.mk hl258_0
                clear hi258_0 hl258_0
                replace p258 := eq_true p258
                replace q258 := eq_true q258
                go_wp2_with (first | ((with_reducible refine gate_callee (f := 15) rfl ?_); refine goesL_ (some 46) rfl rfl Try.func15 (by kernel_rfl) rfl #[.slice A258_0 (rd_L6 t240 0).length c258_0] rfl (by (try simp only [List.map_toArray, List.map_cons, List.map_nil]); first | done | rfl | (simp only [List.length_drop, List.length_take]; rfl)) ?_; (with_reducible refine (split_Text.calls _ _ (rd_L6 t240 0) t259 _ ?side1 ?side2 A40.out).mono ?_); (case side1 => repeat (first | exact (by repeat (first | (with_reducible exact HR258_0.out) | (with_reducible refine Kd.C_alloc ?_ _) | (with_reducible refine Kd.C_drewN ?_ _) | (with_reducible refine Kd.C_drew ?_) | exact HR258_0.out)) | (with_reducible refine Kd.C_alloc ?_ _) | (with_reducible refine Kd.C_drewN ?_ _) | (with_reducible refine Kd.C_drew ?_))); (case side2 => exact HC258_0.out); rintro e w47 ⟨rfl, hb⟩; refine ⟨_, rfl, ?_⟩; have n0_ := Aside0.mk (Kd.N_below (by (with_reducible repeat (first | apply Kd.N_alloc | apply Kd.N_drewN | apply Kd.N_drew)); exact HO_1.out) hb); have n1_ := Aside0.mk (Kd.V_below (by (with_reducible repeat (first | apply Kd.V_alloc | apply Kd.V_drewN | apply Kd.V_drew)); exact HL258_0.out) hb); have n2_ := Aside0.mk (Kd.C_below (by repeat (first | (with_reducible exact HR258_0.out) | (with_reducible refine Kd.C_alloc ?_ _) | (with_reducible refine Kd.C_drewN ?_ _) | (with_reducible refine Kd.C_drew ?_) | exact HR258_0.out)) hb); have n3_ := Aside0.mk (below_step (by repeat (first | (with_reducible first | exact HB.out | apply below_alloc | apply pw_below_drewN | apply below_drew1) | exact HB.out)) hb); clear HO_1; clear HL258_0; clear HR258_0; clear HB; have HO_1 := n0_; have HL258_0 := n1_; have HR258_0 := n2_; have HB := n3_; clear n0_ n1_ n2_ n3_; (try clear hb); (try clear hb2); (try clear hk); (try clear hi); have p260 : 0 ≤ (2 : Int) := (by omega); have q260 : 2 < (t240.length : Int) := of_decide_eq_true (by first | (with_reducible assumption) | assumption); obtain ⟨ad260, A260_0, c260_0, e260, hx260_0, hl260_0, hi260_0⟩ := at_L6 (Kd.N_reads' HO_1.out).2.2 2 p260 q260; obtain rfl : ad258 = ad260 := (by injection e260); obtain ⟨ce260, hce260, hMe260, hcc260⟩ := Kd.N_get HO_1.out [] 2 p260 (by first | exact q260 | exact of_decide_eq_true (by first | (with_reducible assumption) | assumption) | (have e_ := (Kd.N_reads' HO_1.out).1; omega)); obtain ⟨ua260_0, uc260_0, rfl, ul260_0, ge260_0⟩ := Kd.FK_slice_open hMe260; have hv260_0 := hcc260 0 _ rfl; rw [Nat.add_zero, show ((Kd.slice 38 k38)).sz = 1 from rfl, Nat.mul_one] at hv260_0; replace hv260_0 := Option.some.inj (hv260_0.symm.trans hx260_0); injection hv260_0 with hva_ hvn_ hvc_; rw [hva_] at ge260_0; rw [hvc_] at ul260_0; have HL260_0 := Aside0.mk (show Kd.V k38 38 _ w.heap.size _ _ (rd_L6 t240 2) from Kd.V_mk ul260_0 ge260_0); clear hva_ hvn_ hvc_ ge260_0 ul260_0; clear hcc260 hce260; (try simp only [show (2 : Int).toNat = 2 from rfl, Nat.reduceMul, Nat.reduceEqDiff, Go.Addr.add, ↓reduceIte] at hx260_0); have qi260 : (2 < t240.length) = True := eq_true (by omega); (try rw [show ((2 : Int)).toNat = 2 from rfl] at hx260_0); have HR260_0 := Aside0.mk hi260_0; have HC260_0 := Aside0.mk hl260_0; clear hi260_0 hl260_0; replace p260 := eq_true p260; replace q260 := eq_true q260) | (go_at_call 15; (with_reducible refine (split_Text.calls _ _ (rd_L6 t240 2) t261 _ ?side1 ?side2 A43.out).mono ?_); (case side1 => repeat (first | exact (by repeat (first | (with_reducible exact HR260_0.out) | (with_reducible refine Kd.C_alloc ?_ _) | (with_reducible refine Kd.C_drewN ?_ _) | (with_reducible refine Kd.C_drew ?_) | exact HR260_0.out)) | (with_reducible refine Kd.C_alloc ?_ _) | (with_reducible refine Kd.C_drewN ?_ _) | (with_reducible refine Kd.C_drew ?_))); (case side2 => exact HC260_0.out); rintro e w48 ⟨rfl, hb⟩; have n0_ := Aside0.mk (Kd.N_below (by (with_reducible repeat (first | apply Kd.N_alloc | apply Kd.N_drewN | apply Kd.N_drew)); exact HO_1.out) hb); have n1_ := Aside0.mk (Kd.V_below (by (with_reducible repeat (first | apply Kd.V_alloc | apply Kd.V_drewN | apply Kd.V_drew)); exact HL258_0.out) hb); have n2_ := Aside0.mk (Kd.V_below (by (with_reducible repeat (first | apply Kd.V_alloc | apply Kd.V_drewN | apply Kd.V_drew)); exact HL260_0.out) hb); have n3_ := Aside0.mk (Kd.C_below (by repeat (first | (with_reducible exact HR258_0.out) | (with_reducible refine Kd.C_alloc ?_ _) | (with_reducible refine Kd.C_drewN ?_ _) | (with_reducible refine Kd.C_drew ?_) | exact HR258_0.out)) hb); have n4_ := Aside0.mk (Kd.C_below (by repeat (first | (with_reducible exact HR260_0.out) | (with_reducible refine Kd.C_alloc ?_ _) | (with_reducible refine Kd.C_drewN ?_ _) | (with_reducible refine Kd.C_drew ?_) | exact HR260_0.out)) hb); have n5_ := Aside0.mk (below_step (by repeat (first | (with_reducible first | exact HB.out | apply below_alloc | apply pw_below_drewN | apply below_drew1) | exact HB.out)) hb); clear HO_1; clear HL258_0; clear HL260_0; clear HR258_0; clear HR260_0; clear HB; have HO_1 := n0_; have HL258_0 := n1_; have HL260_0 := n2_; have HR258_0 := n3_; have HR260_0 := n4_; have HB := n5_; clear n0_ n1_ n2_ n3_ n4_ n5_; (try clear hb); (try clear hb2); (try clear hk); (try clear hi)) | ((with_reducible refine gate_dst (N := 56) rfl ?_); (try (refine gate_guard (by rfl) ?_; dsimp only)); refine Kd.R_lit Kd.string _ 9 ?hg (N := 56) ?hd (xs := ([(⟨#[97]⟩ : ByteArray), (⟨#[98]⟩ : ByteArray)] : List ByteArray)) (inner := [.string (⟨#[97]⟩ : ByteArray), .string (⟨#[98]⟩ : ByteArray)]) (ok := fun _ => True) (okp := fun _ => True) ?hr ?hp (fun _ hk => hk) trivial (Below.refl _ _) (Nat.le_refl _) (by simp) ?_; (case hd => rfl); (case hg => rfl); (case hr => first | (go_simp; done) | (go_simp; rfl)); (case hp => exact (Reps.one (show Kd.M Kd.string _ _ _ (⟨#[97]⟩ : ByteArray) [.string (⟨#[97]⟩ : ByteArray)] from rfl) (Reps.one (show Kd.M Kd.string _ _ _ (⟨#[98]⟩ : ByteArray) [.string (⟨#[98]⟩ : ByteArray)] from rfl) (Reps.none _ _)))); intro v263 w49 ho50 hb hg_ hnew_; clear hg_ hnew_; (first | rw [← Ny262.out] at ho50 | (simp only [Int.reduceToNat] at ho50; rw [← Ny262.out] at ho50)); have n0_ := Aside0.mk (Kd.N_elder' (by (with_reducible repeat (first | apply Kd.N_alloc | apply Kd.N_drewN | apply Kd.N_drew)); exact HO_1.out) (Kd.R_base ho50) hb); have n1_ := Aside0.mk (Kd.V_elder' (by (with_reducible repeat (first | apply Kd.V_alloc | apply Kd.V_drewN | apply Kd.V_drew)); exact HL258_0.out) (Kd.R_base ho50) hb); have n2_ := Aside0.mk (Kd.V_elder' (by (with_reducible repeat (first | apply Kd.V_alloc | apply Kd.V_drewN | apply Kd.V_drew)); exact HL260_0.out) (Kd.R_base ho50) hb); have n3_ := Aside0.mk (Kd.R_lower ho50 (below_size (by repeat (first | (with_reducible first | exact HB.out | apply below_alloc | apply pw_below_drewN | apply below_drew1) | exact HB.out)))); have n4_ := Aside0.mk (Kd.C_below (by repeat (first | (with_reducible exact HR258_0.out) | (with_reducible refine Kd.C_alloc ?_ _) | (with_reducible refine Kd.C_drewN ?_ _) | (with_reducible refine Kd.C_drew ?_) | exact HR258_0.out)) hb); have n5_ := Aside0.mk (Kd.C_below (by repeat (first | (with_reducible exact HR260_0.out) | (with_reducible refine Kd.C_alloc ?_ _) | (with_reducible refine Kd.C_drewN ?_ _) | (with_reducible refine Kd.C_drew ?_) | exact HR260_0.out)) hb); have n6_ := Aside0.mk (below_step (by repeat (first | (with_reducible first | exact HB.out | apply below_alloc | apply pw_below_drewN | apply below_drew1) | exact HB.out)) hb); clear HO_1; clear HL258_0; clear HL260_0; clear HR258_0; clear HR260_0; clear HB; have HO_1 := n0_; have HL258_0 := n1_; have HL260_0 := n2_; have HO264 := n3_; have HR258_0 := n4_; have HR260_0 := n5_; have HB := n6_; clear n0_ n1_ n2_ n3_ n4_ n5_ n6_; clear hb ho50; obtain ⟨Ao51, co51, eo51⟩ := Kd.R_slice HO264.out; subst eo51) | (go_at_call 17; (with_reducible refine (split_Join.calls _ _ y262 (⟨#[58]⟩ : ByteArray) t265 _ ?side1 ?side2 A45.out).mono ?_); (case side1 => repeat (first | exact (Kd.R_reads' HO264.out).2.2 | (with_reducible refine Kd.C_alloc ?_ _) | (with_reducible refine Kd.C_drewN ?_ _) | (with_reducible refine Kd.C_drew ?_))); (case side2 => exact (Kd.R_reads' HO264.out).2.1); rintro e w52 ⟨rfl, hb⟩; have n0_ := Aside0.mk (Kd.N_below (by (with_reducible repeat (first | apply Kd.N_alloc | apply Kd.N_drewN | apply Kd.N_drew)); exact HO_1.out) hb); have n1_ := Aside0.mk (Kd.V_below (by (with_reducible repeat (first | apply Kd.V_alloc | apply Kd.V_drewN | apply Kd.V_drew)); exact HL258_0.out) hb); have n2_ := Aside0.mk (Kd.V_below (by (with_reducible repeat (first | apply Kd.V_alloc | apply Kd.V_drewN | apply Kd.V_drew)); exact HL260_0.out) hb); have n3_ := Aside0.mk (Kd.R_below (by (with_reducible repeat (first | apply Kd.R_alloc | apply Kd.R_drewN | apply Kd.R_drew)); exact HO264.out) hb); have n4_ := Aside0.mk (Kd.C_below (by repeat (first | (with_reducible exact HR258_0.out) | (with_reducible refine Kd.C_alloc ?_ _) | (with_reducible refine Kd.C_drewN ?_ _) | (with_reducible refine Kd.C_drew ?_) | exact HR258_0.out)) hb); have n5_ := Aside0.mk (Kd.C_below (by repeat (first | (with_reducible exact HR260_0.out) | (with_reducible refine Kd.C_alloc ?_ _) | (with_reducible refine Kd.C_drewN ?_ _) | (with_reducible refine Kd.C_drew ?_) | exact HR260_0.out)) hb); have n6_ := Aside0.mk (below_step (by repeat (first | (with_reducible first | exact HB.out | apply below_alloc | apply pw_below_drewN | apply below_drew1) | exact HB.out)) hb); clear HO_1; clear HL258_0; clear HL260_0; clear HO264; clear HR258_0; clear HR260_0; clear HB; have HO_1 := n0_; have HL258_0 := n1_; have HL260_0 := n2_; have HO264 := n3_; have HR258_0 := n4_; have HR260_0 := n5_; have HB := n6_; clear n0_ n1_ n2_ n3_ n4_ n5_ n6_; (try clear hb); (try clear hb2); (try clear hk); (try clear hi)))
                go_ret
                exact ⟨by first | rfl | (simp [errW_none, errW_some] <;> rfl) | (simp [*, errW_none, errW_some] <;> rfl), by repeat (first | (with_reducible first | exact HB.out | apply below_alloc | apply pw_below_drewN | apply below_drew1) | exact HB.out)⟩
              · rw [if_neg c44] at H
                have c44b0 : (t261.toList == ([98] : List UInt8)) = false := beq_eq_false_iff_ne.mpr c44
                have c44b1 : (t261.toList != ([98] : List UInt8)) = true := bne_iff_ne.mpr c44
                obtain rfl := Option.some.inj H
                obtain ⟨Ao53, co53, eo53⟩ := Kd.N_slice HO_1.out
                subst eo53
                have p258 : 0 ≤ (0 : Int) := (by omega)
                have q258 : 0 < (t240.length : Int) := of_decide_eq_true (by first | (with_reducible assumption) | assumption)
                obtain ⟨ad258, A258_0, c258_0, e258, hx258_0, hl258_0, hi258_0⟩ := at_L6 (Kd.N_reads' HO_1.out).2.2 0 p258 q258
                cases e258
                obtain ⟨ce258, hce258, hMe258, hcc258⟩ := Kd.N_get HO_1.out [] 0 p258 (by first | exact q258 | exact of_decide_eq_true (by first | (with_reducible assumption) | assumption) | (have e_ := (Kd.N_reads' HO_1.out).1; omega))
                obtain ⟨ua258_0, uc258_0, rfl, ul258_0, ge258_0⟩ := Kd.FK_slice_open hMe258
                have hv258_0 := hcc258 0 _ rfl
                rw [Nat.add_zero, show ((Kd.slice 38 k38)).sz = 1 from rfl, Nat.mul_one] at hv258_0
                replace hv258_0 := Option.some.inj (hv258_0.symm.trans hx258_0)
                injection hv258_0 with hva_ hvn_ hvc_
                rw [hva_] at ge258_0
                rw [hvc_] at ul258_0
                have HL258_0 := Aside0.mk (show Kd.V k38 38 _ w.heap.size _ _ (rd_L6 t240 0) from Kd.V_mk ul258_0 ge258_0)
                clear hva_ hvn_ hvc_ ge258_0 ul258_0
                clear hcc258 hce258
                have qi258 : (0 < t240.length) = True := eq_true (by omega)
                (try rw [show ((0 : Int)).toNat = 0 from rfl] at hx258_0)
                (try rw [Addr.add_zero'] at hx258_0)
                have HR258_0 := Aside0.mk hi258_0
                have HC258_0 := Aside0.mk hl258_0
                clear hi258_0 hl258_0
                replace p258 := eq_true p258
                replace q258 := eq_true q258
                go_wp2_with (first | ((with_reducible refine gate_callee (f := 15) rfl ?_); refine goesL_ (some 46) rfl rfl Try.func15 (by kernel_rfl) rfl #[.slice A258_0 (rd_L6 t240 0).length c258_0] rfl (by (try simp only [List.map_toArray, List.map_cons, List.map_nil]); first | done | rfl | (simp only [List.length_drop, List.length_take]; rfl)) ?_; (with_reducible refine (split_Text.calls _ _ (rd_L6 t240 0) t259 _ ?side1 ?side2 A40.out).mono ?_); (case side1 => repeat (first | exact (by repeat (first | (with_reducible exact HR258_0.out) | (with_reducible refine Kd.C_alloc ?_ _) | (with_reducible refine Kd.C_drewN ?_ _) | (with_reducible refine Kd.C_drew ?_) | exact HR258_0.out)) | (with_reducible refine Kd.C_alloc ?_ _) | (with_reducible refine Kd.C_drewN ?_ _) | (with_reducible refine Kd.C_drew ?_))); (case side2 => exact HC258_0.out); rintro e w54 ⟨rfl, hb⟩; refine ⟨_, rfl, ?_⟩; have n0_ := Aside0.mk (Kd.N_below (by (with_reducible repeat (first | apply Kd.N_alloc | apply Kd.N_drewN | apply Kd.N_drew)); exact HO_1.out) hb); have n1_ := Aside0.mk (Kd.V_below (by (with_reducible repeat (first | apply Kd.V_alloc | apply Kd.V_drewN | apply Kd.V_drew)); exact HL258_0.out) hb); have n2_ := Aside0.mk (Kd.C_below (by repeat (first | (with_reducible exact HR258_0.out) | (with_reducible refine Kd.C_alloc ?_ _) | (with_reducible refine Kd.C_drewN ?_ _) | (with_reducible refine Kd.C_drew ?_) | exact HR258_0.out)) hb); have n3_ := Aside0.mk (below_step (by repeat (first | (with_reducible first | exact HB.out | apply below_alloc | apply pw_below_drewN | apply below_drew1) | exact HB.out)) hb); clear HO_1; clear HL258_0; clear HR258_0; clear HB; have HO_1 := n0_; have HL258_0 := n1_; have HR258_0 := n2_; have HB := n3_; clear n0_ n1_ n2_ n3_; (try clear hb); (try clear hb2); (try clear hk); (try clear hi); have p260 : 0 ≤ (2 : Int) := (by omega); have q260 : 2 < (t240.length : Int) := of_decide_eq_true (by first | (with_reducible assumption) | assumption); obtain ⟨ad260, A260_0, c260_0, e260, hx260_0, hl260_0, hi260_0⟩ := at_L6 (Kd.N_reads' HO_1.out).2.2 2 p260 q260; obtain rfl : ad258 = ad260 := (by injection e260); obtain ⟨ce260, hce260, hMe260, hcc260⟩ := Kd.N_get HO_1.out [] 2 p260 (by first | exact q260 | exact of_decide_eq_true (by first | (with_reducible assumption) | assumption) | (have e_ := (Kd.N_reads' HO_1.out).1; omega)); obtain ⟨ua260_0, uc260_0, rfl, ul260_0, ge260_0⟩ := Kd.FK_slice_open hMe260; have hv260_0 := hcc260 0 _ rfl; rw [Nat.add_zero, show ((Kd.slice 38 k38)).sz = 1 from rfl, Nat.mul_one] at hv260_0; replace hv260_0 := Option.some.inj (hv260_0.symm.trans hx260_0); injection hv260_0 with hva_ hvn_ hvc_; rw [hva_] at ge260_0; rw [hvc_] at ul260_0; have HL260_0 := Aside0.mk (show Kd.V k38 38 _ w.heap.size _ _ (rd_L6 t240 2) from Kd.V_mk ul260_0 ge260_0); clear hva_ hvn_ hvc_ ge260_0 ul260_0; clear hcc260 hce260; (try simp only [show (2 : Int).toNat = 2 from rfl, Nat.reduceMul, Nat.reduceEqDiff, Go.Addr.add, ↓reduceIte] at hx260_0); have qi260 : (2 < t240.length) = True := eq_true (by omega); (try rw [show ((2 : Int)).toNat = 2 from rfl] at hx260_0); have HR260_0 := Aside0.mk hi260_0; have HC260_0 := Aside0.mk hl260_0; clear hi260_0 hl260_0; replace p260 := eq_true p260; replace q260 := eq_true q260) | (go_at_call 15; (with_reducible refine (split_Text.calls _ _ (rd_L6 t240 2) t261 _ ?side1 ?side2 A43.out).mono ?_); (case side1 => repeat (first | exact (by repeat (first | (with_reducible exact HR260_0.out) | (with_reducible refine Kd.C_alloc ?_ _) | (with_reducible refine Kd.C_drewN ?_ _) | (with_reducible refine Kd.C_drew ?_) | exact HR260_0.out)) | (with_reducible refine Kd.C_alloc ?_ _) | (with_reducible refine Kd.C_drewN ?_ _) | (with_reducible refine Kd.C_drew ?_))); (case side2 => exact HC260_0.out); rintro e w55 ⟨rfl, hb⟩; have n0_ := Aside0.mk (Kd.N_below (by (with_reducible repeat (first | apply Kd.N_alloc | apply Kd.N_drewN | apply Kd.N_drew)); exact HO_1.out) hb); have n1_ := Aside0.mk (Kd.V_below (by (with_reducible repeat (first | apply Kd.V_alloc | apply Kd.V_drewN | apply Kd.V_drew)); exact HL258_0.out) hb); have n2_ := Aside0.mk (Kd.V_below (by (with_reducible repeat (first | apply Kd.V_alloc | apply Kd.V_drewN | apply Kd.V_drew)); exact HL260_0.out) hb); have n3_ := Aside0.mk (Kd.C_below (by repeat (first | (with_reducible exact HR258_0.out) | (with_reducible refine Kd.C_alloc ?_ _) | (with_reducible refine Kd.C_drewN ?_ _) | (with_reducible refine Kd.C_drew ?_) | exact HR258_0.out)) hb); have n4_ := Aside0.mk (Kd.C_below (by repeat (first | (with_reducible exact HR260_0.out) | (with_reducible refine Kd.C_alloc ?_ _) | (with_reducible refine Kd.C_drewN ?_ _) | (with_reducible refine Kd.C_drew ?_) | exact HR260_0.out)) hb); have n5_ := Aside0.mk (below_step (by repeat (first | (with_reducible first | exact HB.out | apply below_alloc | apply pw_below_drewN | apply below_drew1) | exact HB.out)) hb); clear HO_1; clear HL258_0; clear HL260_0; clear HR258_0; clear HR260_0; clear HB; have HO_1 := n0_; have HL258_0 := n1_; have HL260_0 := n2_; have HR258_0 := n3_; have HR260_0 := n4_; have HB := n5_; clear n0_ n1_ n2_ n3_ n4_ n5_; (try clear hb); (try clear hb2); (try clear hk); (try clear hi)))
                go_ret
                exact ⟨by first | rfl | (simp [errW_none, errW_some] <;> rfl) | (simp [*, errW_none, errW_some] <;> rfl), by repeat (first | (with_reducible first | exact HB.out | apply below_alloc | apply pw_below_drewN | apply below_drew1) | exact HB.out)⟩
            · rw [if_neg c42] at H
              exact absurd H (by simp)
          · rw [if_neg c41] at H
            have c41b0 : (t259.toList == ([97] : List UInt8)) = false := beq_eq_false_iff_ne.mpr c41
            have c41b1 : (t259.toList != ([97] : List UInt8)) = true := bne_iff_ne.mpr c41
            obtain rfl := Option.some.inj H
            obtain ⟨Ao56, co56, eo56⟩ := Kd.N_slice HO_1.out
            subst eo56
            have p258 : 0 ≤ (0 : Int) := (by omega)
            have q258 : 0 < (t240.length : Int) := of_decide_eq_true (by first | (with_reducible assumption) | assumption)
            obtain ⟨ad258, A258_0, c258_0, e258, hx258_0, hl258_0, hi258_0⟩ := at_L6 (Kd.N_reads' HO_1.out).2.2 0 p258 q258
            cases e258
            obtain ⟨ce258, hce258, hMe258, hcc258⟩ := Kd.N_get HO_1.out [] 0 p258 (by first | exact q258 | exact of_decide_eq_true (by first | (with_reducible assumption) | assumption) | (have e_ := (Kd.N_reads' HO_1.out).1; omega))
            obtain ⟨ua258_0, uc258_0, rfl, ul258_0, ge258_0⟩ := Kd.FK_slice_open hMe258
            have hv258_0 := hcc258 0 _ rfl
            rw [Nat.add_zero, show ((Kd.slice 38 k38)).sz = 1 from rfl, Nat.mul_one] at hv258_0
            replace hv258_0 := Option.some.inj (hv258_0.symm.trans hx258_0)
            injection hv258_0 with hva_ hvn_ hvc_
            rw [hva_] at ge258_0
            rw [hvc_] at ul258_0
            have HL258_0 := Aside0.mk (show Kd.V k38 38 _ w.heap.size _ _ (rd_L6 t240 0) from Kd.V_mk ul258_0 ge258_0)
            clear hva_ hvn_ hvc_ ge258_0 ul258_0
            clear hcc258 hce258
            have qi258 : (0 < t240.length) = True := eq_true (by omega)
            (try rw [show ((0 : Int)).toNat = 0 from rfl] at hx258_0)
            (try rw [Addr.add_zero'] at hx258_0)
            have HR258_0 := Aside0.mk hi258_0
            have HC258_0 := Aside0.mk hl258_0
            clear hi258_0 hl258_0
            replace p258 := eq_true p258
            replace q258 := eq_true q258
            go_wp2_with (first | ((with_reducible refine gate_callee (f := 15) rfl ?_); refine goesL_ (some 46) rfl rfl Try.func15 (by kernel_rfl) rfl #[.slice A258_0 (rd_L6 t240 0).length c258_0] rfl (by (try simp only [List.map_toArray, List.map_cons, List.map_nil]); first | done | rfl | (simp only [List.length_drop, List.length_take]; rfl)) ?_; (with_reducible refine (split_Text.calls _ _ (rd_L6 t240 0) t259 _ ?side1 ?side2 A40.out).mono ?_); (case side1 => repeat (first | exact (by repeat (first | (with_reducible exact HR258_0.out) | (with_reducible refine Kd.C_alloc ?_ _) | (with_reducible refine Kd.C_drewN ?_ _) | (with_reducible refine Kd.C_drew ?_) | exact HR258_0.out)) | (with_reducible refine Kd.C_alloc ?_ _) | (with_reducible refine Kd.C_drewN ?_ _) | (with_reducible refine Kd.C_drew ?_))); (case side2 => exact HC258_0.out); rintro e w57 ⟨rfl, hb⟩; refine ⟨_, rfl, ?_⟩; have n0_ := Aside0.mk (Kd.N_below (by (with_reducible repeat (first | apply Kd.N_alloc | apply Kd.N_drewN | apply Kd.N_drew)); exact HO_1.out) hb); have n1_ := Aside0.mk (Kd.V_below (by (with_reducible repeat (first | apply Kd.V_alloc | apply Kd.V_drewN | apply Kd.V_drew)); exact HL258_0.out) hb); have n2_ := Aside0.mk (Kd.C_below (by repeat (first | (with_reducible exact HR258_0.out) | (with_reducible refine Kd.C_alloc ?_ _) | (with_reducible refine Kd.C_drewN ?_ _) | (with_reducible refine Kd.C_drew ?_) | exact HR258_0.out)) hb); have n3_ := Aside0.mk (below_step (by repeat (first | (with_reducible first | exact HB.out | apply below_alloc | apply pw_below_drewN | apply below_drew1) | exact HB.out)) hb); clear HO_1; clear HL258_0; clear HR258_0; clear HB; have HO_1 := n0_; have HL258_0 := n1_; have HR258_0 := n2_; have HB := n3_; clear n0_ n1_ n2_ n3_; (try clear hb); (try clear hb2); (try clear hk); (try clear hi)))
            go_ret
            exact ⟨by first | rfl | (simp [errW_none, errW_some] <;> rfl) | (simp [*, errW_none, errW_some] <;> rfl), by repeat (first | (with_reducible first | exact HB.out | apply below_alloc | apply pw_below_drewN | apply below_drew1) | exact HB.out)⟩
        · rw [if_neg c39] at H
          exact absurd H (by simp)

end Go.Proofs.Ytbkhdgfehgfjpaa.PAll
