-- Written for this claim by a program of the session (wip/ext).
import Derived.Test.YthoanbjklgoggaaDoorPAllx0
import Derived.Test.YthoanbjklgoggaaDoorPAllx11
import Derived.Test.YthoanbjklgoggaaDoorPAllx22
import Derived.Test.YthoanbjklgoggaaDoorPAllx23
namespace Go.Proofs.YthoanbjklgoggaaDoor.PAll
open Go.RowKit Go.Proofs.YthoanbjklgoggaaDoorW.PrintWords Go.Proofs.YthoanbjklgoggaaDoorW.PrintLast Go.Proofs.YthoanbjklgoggaaDoorW.PrintMore
attribute [local go_sem] max2_int min2_int max_two min_two max_three min_three max_four min_four   -- for this text's walks alone
set_option linter.unusedVariables false
set_option linter.unusedSimpArgs false

/-! ### bang_reader_designator: function 52 -/
mutual
def bang_reader_designator.j0 : Nat → Int → Int → Bool → Int → List ByteArray → ByteArray → Int → ByteArray → Bool → Option (Int × Int × Bool × Int × ByteArray × Int × ByteArray × Bool)
 | 0, _, _, _, _, _, _, _, _, _ => none
 | k + 1, x1, x7, x20, x1000, x1001, x1002, x1003, x1004, x1005 => if x20 = true then ((bang_reader_place.f k x1000 x1001 x1002 x1003 x1004 x1005 x1).bind fun bt286 => (some (bt286.1, bt286.1, true, bt286.2.2.1, bt286.2.2.2.1, bt286.2.2.2.2.1, bt286.2.2.2.2.2.1, bt286.2.2.2.2.2.2))) else ((bang_reader_has.f x1000 x1001 x1002 x1003 x1004 x1005 42).bind fun bt293 => (if bt293.1 = true then (some (1, x1, true, bt293.2.1, bt293.2.2.1, wrap64 (bt293.2.2.2.1 + 1), bt293.2.2.2.2.1, bt293.2.2.2.2.2)) else ((bang_reader_has.f bt293.2.1 x1001 bt293.2.2.1 bt293.2.2.2.1 bt293.2.2.2.2.1 bt293.2.2.2.2.2 58).bind fun bt299 => (if bt299.1 = true then ((bang_reader_has.f bt299.2.1 x1001 bt299.2.2.1 (wrap64 (bt299.2.2.2.1 + 1)) bt299.2.2.2.2.1 bt299.2.2.2.2.2 42).bind fun bt305 => (if bt305.1 = true then (some (1, x1, true, bt305.2.1, bt305.2.2.1, wrap64 (bt305.2.2.2.1 + 1), bt305.2.2.2.2.1, bt305.2.2.2.2.2)) else ((bang_reader_place.f k bt305.2.1 x1001 bt305.2.2.1 bt305.2.2.2.1 bt305.2.2.2.2.1 bt305.2.2.2.2.2 x1).bind fun bt311 => (if bt311.2.1 = true then ((bang_reader_has.f bt311.2.2.1 x1001 bt311.2.2.2.1 bt311.2.2.2.2.1 bt311.2.2.2.2.2.1 bt311.2.2.2.2.2.2 42).bind fun bt318 => (bang_reader_designator.j1 k x1 x7 bt311.1 bt311.2.1 bt318.1 bt318.2.1 x1001 bt318.2.2.1 bt318.2.2.2.1 bt318.2.2.2.2.1 bt318.2.2.2.2.2)) else (bang_reader_designator.j1 k x1 x7 bt311.1 bt311.2.1 false bt311.2.2.1 x1001 bt311.2.2.2.1 bt311.2.2.2.2.1 bt311.2.2.2.2.2.1 bt311.2.2.2.2.2.2))))) else (some (0, 0, false, bt299.2.1, bt299.2.2.1, bt299.2.2.2.1, bt299.2.2.2.2.1, bt299.2.2.2.2.2))))))
def bang_reader_designator.j1 : Nat → Int → Int → Int → Bool → Bool → Int → List ByteArray → ByteArray → Int → ByteArray → Bool → Option (Int × Int × Bool × Int × ByteArray × Int × ByteArray × Bool)
 | 0, _, _, _, _, _, _, _, _, _, _, _ => none
 | k + 1, x1, x7, x10, x11, x71, x1000, x1001, x1002, x1003, x1004, x1005 => if x71 = true then (some (x10, x1, true, x1000, x1002, wrap64 (x1003 + 1), x1004, x1005)) else (if x11 = true then ((bang_reader_has.f x1000 x1001 x1002 x1003 x1004 x1005 45).bind fun bt324 => (bang_reader_designator.j2 k x1 x7 x10 x11 bt324.1 bt324.2.1 x1001 bt324.2.2.1 bt324.2.2.2.1 bt324.2.2.2.2.1 bt324.2.2.2.2.2)) else (bang_reader_designator.j2 k x1 x7 x10 x11 false x1000 x1001 x1002 x1003 x1004 x1005))
def bang_reader_designator.j2 : Nat → Int → Int → Int → Bool → Bool → Int → List ByteArray → ByteArray → Int → ByteArray → Bool → Option (Int × Int × Bool × Int × ByteArray × Int × ByteArray × Bool)
 | 0, _, _, _, _, _, _, _, _, _, _, _ => none
 | k + 1, x1, x7, x10, x11, x86, x1000, x1001, x1002, x1003, x1004, x1005 => if x86 = true then ((bang_reader_place.f k x1000 x1001 x1002 (wrap64 (x1003 + 1)) x1004 x1005 x1).bind fun bt330 => (if bt330.2.1 = true then (some (x10, bt330.1, true, bt330.2.2.1, bt330.2.2.2.1, bt330.2.2.2.2.1, bt330.2.2.2.2.2.1, bt330.2.2.2.2.2.2)) else (some (x10, wrap64 (x1 - 1), true, bt330.2.2.1, bt330.2.2.2.1, bt330.2.2.2.2.1, bt330.2.2.2.2.2.1, bt330.2.2.2.2.2.2)))) else (if x11 = true then (some (x10, x10, true, x1000, x1002, x1003, x1004, x1005)) else ((bang_reader_has.f x1000 x1001 x1002 x1003 x1004 x1005 45).bind fun bt337 => (if bt337.1 = true then ((bang_reader_place.f k bt337.2.1 x1001 bt337.2.2.1 (wrap64 (bt337.2.2.2.1 + 1)) bt337.2.2.2.2.1 bt337.2.2.2.2.2 x1).bind fun bt343 => (if bt343.2.1 = true then (some (0, bt343.1, true, bt343.2.2.1, bt343.2.2.2.1, bt343.2.2.2.2.1, bt343.2.2.2.2.2.1, bt343.2.2.2.2.2.2)) else (some (0, 0, false, bt343.2.2.1, bt343.2.2.2.1, x7, bt343.2.2.2.2.2.1, bt343.2.2.2.2.2.2)))) else (some (0, 0, false, bt337.2.1, bt337.2.2.1, x7, bt337.2.2.2.2.1, bt337.2.2.2.2.2)))))
end
def bang_reader_designator.f (k : Nat) (s0_0 : Int) (s0_1 : List ByteArray) (s0_2 : ByteArray) (s0_3 : Int) (s0_4 : ByteArray) (s0_5 : Bool) (a1 : Int) : Option (Int × Int × Bool × Int × ByteArray × Int × ByteArray × Bool) := (bang_reader_has.f s0_0 s0_1 s0_2 s0_3 s0_4 s0_5 94).bind fun bt274 => (if bt274.1 = true then (bang_reader_designator.j0 k a1 s0_3 bt274.1 bt274.2.1 s0_1 bt274.2.2.1 bt274.2.2.2.1 bt274.2.2.2.2.1 bt274.2.2.2.2.2) else ((bang_reader_has.f bt274.2.1 s0_1 bt274.2.2.1 bt274.2.2.2.1 bt274.2.2.2.2.1 bt274.2.2.2.2.2 36).bind fun bt280 => (bang_reader_designator.j0 k a1 s0_3 bt280.1 bt280.2.1 s0_1 bt280.2.2.1 bt280.2.2.2.1 bt280.2.2.2.2.1 bt280.2.2.2.2.2)))
theorem bang_reader_designator.mono_l : ∀ k, (∀ y0 y1 y2 y3 y4 y5 y6 y7 y8, LeO (bang_reader_designator.j0 k y0 y1 y2 y3 y4 y5 y6 y7 y8) (bang_reader_designator.j0 (k + 1) y0 y1 y2 y3 y4 y5 y6 y7 y8)) ∧ (∀ y0 y1 y2 y3 y4 y5 y6 y7 y8 y9 y10, LeO (bang_reader_designator.j1 k y0 y1 y2 y3 y4 y5 y6 y7 y8 y9 y10) (bang_reader_designator.j1 (k + 1) y0 y1 y2 y3 y4 y5 y6 y7 y8 y9 y10)) ∧ (∀ y0 y1 y2 y3 y4 y5 y6 y7 y8 y9 y10, LeO (bang_reader_designator.j2 k y0 y1 y2 y3 y4 y5 y6 y7 y8 y9 y10) (bang_reader_designator.j2 (k + 1) y0 y1 y2 y3 y4 y5 y6 y7 y8 y9 y10))
 | 0 => ⟨fun _ _ _ _ _ _ _ _ _ r h => by simp [bang_reader_designator.j0] at h, fun _ _ _ _ _ _ _ _ _ _ _ r h => by simp [bang_reader_designator.j1] at h, fun _ _ _ _ _ _ _ _ _ _ _ r h => by simp [bang_reader_designator.j2] at h⟩
 | k + 1 => by
  obtain ⟨ih0, ih1, ih2⟩ := bang_reader_designator.mono_l k
  refine ⟨?_, ?_, ?_⟩
  ·intro y0 y1 y2 y3 y4 y5 y6 y7 y8
   unfold bang_reader_designator.j0
   repeat' first
   | (with_reducible exact ih0 _ _ _ _ _ _ _ _ _)
   | (with_reducible exact ih1 _ _ _ _ _ _ _ _ _ _ _)
   | (with_reducible exact ih2 _ _ _ _ _ _ _ _ _ _ _)
   | (with_reducible exact bang_reader_place.mono _ _ _ _ _ _ _ _)
   | (with_reducible exact LeO.refl _)
   | (with_reducible exact LeO.none _)
   | (with_reducible refine LeO.ite ?_ ?_)
   | (with_reducible refine LeO.bind ?_ (fun _ => ?_))
   | exact ih0 _ _ _ _ _ _ _ _ _
   | exact ih1 _ _ _ _ _ _ _ _ _ _ _
   | exact ih2 _ _ _ _ _ _ _ _ _ _ _
   | exact bang_reader_place.mono _ _ _ _ _ _ _ _
   | exact LeO.none _
   | refine LeO.ite ?_ ?_
   | refine LeO.bind ?_ (fun _ => ?_)
  ·intro y0 y1 y2 y3 y4 y5 y6 y7 y8 y9 y10
   unfold bang_reader_designator.j1
   repeat' first
   | (with_reducible exact ih0 _ _ _ _ _ _ _ _ _)
   | (with_reducible exact ih1 _ _ _ _ _ _ _ _ _ _ _)
   | (with_reducible exact ih2 _ _ _ _ _ _ _ _ _ _ _)
   | (with_reducible exact bang_reader_place.mono _ _ _ _ _ _ _ _)
   | (with_reducible exact LeO.refl _)
   | (with_reducible exact LeO.none _)
   | (with_reducible refine LeO.ite ?_ ?_)
   | (with_reducible refine LeO.bind ?_ (fun _ => ?_))
   | exact ih0 _ _ _ _ _ _ _ _ _
   | exact ih1 _ _ _ _ _ _ _ _ _ _ _
   | exact ih2 _ _ _ _ _ _ _ _ _ _ _
   | exact bang_reader_place.mono _ _ _ _ _ _ _ _
   | exact LeO.none _
   | refine LeO.ite ?_ ?_
   | refine LeO.bind ?_ (fun _ => ?_)
  ·intro y0 y1 y2 y3 y4 y5 y6 y7 y8 y9 y10
   unfold bang_reader_designator.j2
   repeat' first
   | (with_reducible exact ih0 _ _ _ _ _ _ _ _ _)
   | (with_reducible exact ih1 _ _ _ _ _ _ _ _ _ _ _)
   | (with_reducible exact ih2 _ _ _ _ _ _ _ _ _ _ _)
   | (with_reducible exact bang_reader_place.mono _ _ _ _ _ _ _ _)
   | (with_reducible exact LeO.refl _)
   | (with_reducible exact LeO.none _)
   | (with_reducible refine LeO.ite ?_ ?_)
   | (with_reducible refine LeO.bind ?_ (fun _ => ?_))
   | exact ih0 _ _ _ _ _ _ _ _ _
   | exact ih1 _ _ _ _ _ _ _ _ _ _ _
   | exact ih2 _ _ _ _ _ _ _ _ _ _ _
   | exact bang_reader_place.mono _ _ _ _ _ _ _ _
   | exact LeO.none _
   | refine LeO.ite ?_ ?_
   | refine LeO.bind ?_ (fun _ => ?_)
theorem bang_reader_designator.mono : ∀ a0 a1 a2 a3 a4 a5 a6 k, LeO (bang_reader_designator.f k a0 a1 a2 a3 a4 a5 a6) (bang_reader_designator.f (k + 1) a0 a1 a2 a3 a4 a5 a6) := by
 intro a0 a1 a2 a3 a4 a5 a6 k
 obtain ⟨ih0, ih1, ih2⟩ := bang_reader_designator.mono_l k
 unfold bang_reader_designator.f
 repeat' first
   | (with_reducible exact ih0 _ _ _ _ _ _ _ _ _)
   | (with_reducible exact ih1 _ _ _ _ _ _ _ _ _ _ _)
   | (with_reducible exact ih2 _ _ _ _ _ _ _ _ _ _ _)
   | (with_reducible exact bang_reader_place.mono _ _ _ _ _ _ _ _)
   | (with_reducible exact LeO.refl _)
   | (with_reducible exact LeO.none _)
   | (with_reducible refine LeO.ite ?_ ?_)
   | (with_reducible refine LeO.bind ?_ (fun _ => ?_))
   | exact ih0 _ _ _ _ _ _ _ _ _
   | exact ih1 _ _ _ _ _ _ _ _ _ _ _
   | exact ih2 _ _ _ _ _ _ _ _ _ _ _
   | exact bang_reader_place.mono _ _ _ _ _ _ _ _
   | exact LeO.none _
   | refine LeO.ite ?_ ?_
   | refine LeO.bind ?_ (fun _ => ?_)
set_option maxHeartbeats 3000000 in
set_option maxRecDepth 100000 in
theorem bang_reader_designator.calls (k : Nat) (g : Nat) (s0_0 : Int) (s0_1 : List ByteArray) (s0_2 : ByteArray) (s0_3 : Int) (s0_4 : ByteArray) (s0_5 : Bool) (a1 : Int) (r1 : Int) (r2 : Int) (r3 : Bool) (r4 : Int) (r5 : ByteArray) (r6 : Int) (r7 : ByteArray) (r8 : Bool) (w0 w : World) (hI : IsS47 w0 w g s0_0 s0_1 s0_2 s0_3 s0_4 s0_5) (hB : Below w0.heap.size w0 w) (h : bang_reader_designator.f k s0_0 s0_1 s0_2 s0_3 s0_4 s0_5 a1 = some (r1, r2, r3, r4, r5, r6, r7, r8)) :
  Calls Tryd.prog 52 #[.pointer (some ⟨g, 0, none⟩), .int .i64 a1] w fun e w' => e = .returned (.tuple #[.int .i64 r1, .int .i64 r2, .bool r3]) ∧ IsS47 w0 w' g r4 s0_1 r5 r6 r7 r8 ∧ Below w0.heap.size w0 w' ∧ KeepBut w w' g none := by
 have HI0 := Aside0.mk hI
 have HK := Aside0.mk (KeepBut.refl w g none)
 have HL := Aside0.mk hB.size
 clear hI
 have HW0 := Aside0.mk hB.size
 have HB := Aside0.mk hB
 clear hB
 have H : ((bang_reader_has.f s0_0 s0_1 s0_2 s0_3 s0_4 s0_5 94).bind fun bt274 => (if bt274.1 = true then (bang_reader_designator.j0 k a1 s0_3 bt274.1 bt274.2.1 s0_1 bt274.2.2.1 bt274.2.2.2.1 bt274.2.2.2.2.1 bt274.2.2.2.2.2) else ((bang_reader_has.f bt274.2.1 s0_1 bt274.2.2.1 bt274.2.2.2.1 bt274.2.2.2.2.1 bt274.2.2.2.2.2 36).bind fun bt280 => (bang_reader_designator.j0 k a1 s0_3 bt280.1 bt280.2.1 s0_1 bt280.2.2.1 bt280.2.2.2.1 bt280.2.2.2.2.1 bt280.2.2.2.2.2)))) = some (r1, r2, r3, r4, r5, r6, r7, r8) := h
 clear h
 replace H := Option.bind_eq_some_iff.mp H
 obtain ⟨⟨t274, t275, t276, t277, t278, t279⟩, A30, H⟩ := H
 replace H : (if t274 = true then (bang_reader_designator.j0 k a1 s0_3 t274 t275 s0_1 t276 t277 t278 t279) else ((bang_reader_has.f t275 s0_1 t276 t277 t278 t279 36).bind fun bt280 => (bang_reader_designator.j0 k a1 s0_3 bt280.1 bt280.2.1 s0_1 bt280.2.2.1 bt280.2.2.2.1 bt280.2.2.2.2.1 bt280.2.2.2.2.2))) = some (r1, r2, r3, r4, r5, r6, r7, r8) := H
 have A3 := Aside0.mk A30
 clear A30
 have HC4 := Aside0.mk H
 clear H
 obtain ⟨ASz5_1, cSz5_1, HGz5, hgz5, ⟨HSz5_1, HCSz5_1⟩⟩ := HI0.out
 have hcz5_0 := cellS47_0 HGz5
 have hcz5_1 := cellS47_1 HGz5
 have hcz5_2 := cellS47_2 HGz5
 have hcz5_3 := cellS47_3 HGz5
 have hcz5_4 := cellS47_4 HGz5
 have hcz5_5 := cellS47_5 HGz5
 have hfz5_0 := blk_frozen HGz5 0
 have hfz5_2 := blk_frozen HGz5 2
 have hfz5_3 := blk_frozen HGz5 3
 have hfz5_4 := blk_frozen HGz5 4
 have hfz5_5 := blk_frozen HGz5 5
 clear HGz5 hgz5
 go_enter Tryd.func52, Tryd.ntmps52
 go_upto_if 20 with (first | ((with_reducible refine gate_callee (f := 36) rfl ?_); refine goesL_ (some 22) rfl rfl Tryd.func36 (by kernel_rfl) rfl #[.pointer (some ⟨g, 0, none⟩), .int .u8 94] rfl (by (try simp only [List.map_toArray, List.map_cons, List.map_nil]); first | done | rfl | (simp only [List.length_drop, List.length_take]; rfl)) ?_; (with_reducible refine (bang_reader_has.calls g s0_0 s0_1 s0_2 s0_3 s0_4 s0_5 94 t274 t275 t276 t277 t278 t279 w0 _ ?side1 ?side2 A3.out).mono ?_); (case side1 => repeat (first | (with_reducible first | exact HI0.out | apply IsS47.alloc | apply IsS47.drewN | apply IsS47.drew | apply IsS47.set_0 | apply IsS47.set_2 | apply IsS47.set_3 | apply IsS47.set_4 | apply IsS47.set_5) | exact HI0.out)); (case side2 => repeat (first | (with_reducible first | exact HB.out | apply below_alloc | apply pw_below_drewN | apply below_drew1 | refine below_set ?_ (IsS47.ge HI0.out)) | exact HB.out)); rintro e w6 ⟨rfl, hi, hb, hk⟩; refine ⟨_, rfl, ?_⟩; have n0_ := Aside0.mk (KeepBut.trans (by repeat (first | (with_reducible first | exact HK.out | apply KeepBut.set_ | apply keep_drewN | apply keep_drew | apply keep_alloc) | exact HK.out)) hk (.inl rfl)); have n1_ := Aside0.mk (hb); have n2_ := Aside0.mk (hi); clear HK; clear HB; clear HI0; have HK := n0_; have HB := n1_; have HI0 := n2_; clear n0_ n1_ n2_; (try clear hb); (try clear hb2); (try clear hk); (try clear hi)))
 (try simp only [Act.put, List.setIfInBounds_toArray, List.set_cons_zero, List.set_cons_succ])
 go_cut [20] (fun v20 wc => ∃ (kq : Nat) (x20_3 : Bool) (x1000_3 : Int) (x1002_3 : ByteArray) (x1003_3 : Int) (x1004_3 : ByteArray) (x1005_3 : Bool), v20 = .bool x20_3 ∧ Aside0 (bang_reader_designator.j0 kq a1 s0_3 x20_3 x1000_3 s0_1 x1002_3 x1003_3 x1004_3 x1005_3 = some (r1, r2, r3, r4, r5, r6, r7, r8)) ∧ Aside0 (kq ≤ k) ∧ Aside0 (IsS47 w0 wc g x1000_3 s0_1 x1002_3 x1003_3 x1004_3 x1005_3) ∧ Aside0 (KeepBut w wc g none) ∧ Aside0 (Below w0.heap.size w0 wc))
 case first =>
  have H := HC4.out
  clear HC4
  by_cases c7 : t274 = true
  ·subst c7
   have H1 : (bang_reader_designator.j0 k a1 s0_3 true t275 s0_1 t276 t277 t278 t279) = some (r1, r2, r3, r4, r5, r6, r7, r8) := by rw [if_pos rfl] at H; exact H
   clear H
   have H := H1
   clear H1
   have H' := Aside0.mk H
   clear H
   go_wp2
   go_meet
   case rel => exact ⟨_, (true), (t275), (t276), (t277), (t278), (t279), (by first | rfl | (simp; done) | (simp [*]; done)), H', ⟨by first | omega | exact Nat.le_refl _⟩, ⟨by repeat (first | (with_reducible first | exact HI0.out | apply IsS47.alloc | apply IsS47.drewN | apply IsS47.drew | apply IsS47.set_0 | apply IsS47.set_2 | apply IsS47.set_3 | apply IsS47.set_4 | apply IsS47.set_5) | exact HI0.out)⟩, ⟨by repeat (first | (with_reducible first | exact HK.out | apply KeepBut.set_ | apply keep_drewN | apply keep_drew | apply keep_alloc) | exact HK.out)⟩, ⟨by repeat (first | (with_reducible first | exact HB.out | apply below_alloc | apply pw_below_drewN | apply below_drew1 | refine below_set ?_ (IsS47.ge HI0.out)) | exact HB.out)⟩⟩
  ·replace c7 := Bool.eq_false_iff.mpr c7
   subst c7
   have H1 : ((bang_reader_has.f t275 s0_1 t276 t277 t278 t279 36).bind fun bt280 => (bang_reader_designator.j0 k a1 s0_3 bt280.1 bt280.2.1 s0_1 bt280.2.2.1 bt280.2.2.2.1 bt280.2.2.2.2.1 bt280.2.2.2.2.2)) = some (r1, r2, r3, r4, r5, r6, r7, r8) := by rw [if_neg (show ¬ (false = true) by decide)] at H; exact H
   clear H
   have H := H1
   clear H1
   replace H := Option.bind_eq_some_iff.mp H
   obtain ⟨⟨t280, t281, t282, t283, t284, t285⟩, A80, H⟩ := H
   replace H : (bang_reader_designator.j0 k a1 s0_3 t280 t281 s0_1 t282 t283 t284 t285) = some (r1, r2, r3, r4, r5, r6, r7, r8) := H
   have A8 := Aside0.mk A80
   clear A80
   have H' := Aside0.mk H
   clear H
   go_wp2_with (first | ((with_reducible refine gate_callee (f := 36) rfl ?_); refine goesL_ (some 24) rfl rfl Tryd.func36 (by kernel_rfl) rfl #[.pointer (some ⟨g, 0, none⟩), .int .u8 36] rfl (by (try simp only [List.map_toArray, List.map_cons, List.map_nil]); first | done | rfl | (simp only [List.length_drop, List.length_take]; rfl)) ?_; (with_reducible refine (bang_reader_has.calls g t275 s0_1 t276 t277 t278 t279 36 t280 t281 t282 t283 t284 t285 w0 _ ?side1 ?side2 A8.out).mono ?_); (case side1 => repeat (first | (with_reducible first | exact HI0.out | apply IsS47.alloc | apply IsS47.drewN | apply IsS47.drew | apply IsS47.set_0 | apply IsS47.set_2 | apply IsS47.set_3 | apply IsS47.set_4 | apply IsS47.set_5) | exact HI0.out)); (case side2 => repeat (first | (with_reducible first | exact HB.out | apply below_alloc | apply pw_below_drewN | apply below_drew1 | refine below_set ?_ (IsS47.ge HI0.out)) | exact HB.out)); rintro e w9 ⟨rfl, hi, hb, hk⟩; refine ⟨_, rfl, ?_⟩; have n0_ := Aside0.mk (KeepBut.trans (by repeat (first | (with_reducible first | exact HK.out | apply KeepBut.set_ | apply keep_drewN | apply keep_drew | apply keep_alloc) | exact HK.out)) hk (.inl rfl)); have n1_ := Aside0.mk (hb); have n2_ := Aside0.mk (hi); clear HK; clear HB; clear HI0; have HK := n0_; have HB := n1_; have HI0 := n2_; clear n0_ n1_ n2_; (try clear hb); (try clear hb2); (try clear hk); (try clear hi)))
   go_meet
   case rel => exact ⟨_, (t280), (t281), (t282), (t283), (t284), (t285), (by first | rfl | (simp; done) | (simp [*]; done)), H', ⟨by first | omega | exact Nat.le_refl _⟩, ⟨by repeat (first | (with_reducible first | exact HI0.out | apply IsS47.alloc | apply IsS47.drewN | apply IsS47.drew | apply IsS47.set_0 | apply IsS47.set_2 | apply IsS47.set_3 | apply IsS47.set_4 | apply IsS47.set_5) | exact HI0.out)⟩, ⟨by repeat (first | (with_reducible first | exact HK.out | apply KeepBut.set_ | apply keep_drewN | apply keep_drew | apply keep_alloc) | exact HK.out)⟩, ⟨by repeat (first | (with_reducible first | exact HB.out | apply below_alloc | apply pw_below_drewN | apply below_drew1 | refine below_set ?_ (IsS47.ge HI0.out)) | exact HB.out)⟩⟩
 case rest =>
  clear HC4
  try clear p2
  try clear c3
  try clear c5
  try clear c7
  try clear hcz5_0
  try clear hcz5_1
  try clear hcz5_2
  try clear hcz5_3
  try clear hcz5_4
  try clear hcz5_5
  try clear hfz5_0
  try clear hfz5_2
  try clear hfz5_3
  try clear hfz5_4
  try clear hfz5_5
  obtain ⟨kq, x20_3, x1000_3, x1002_3, x1003_3, x1004_3, x1005_3, rfl, HA, HJ3, HI0, HK, HB⟩ := hcut
  cases kq with
  | zero => exact absurd HA.out (by simp [bang_reader_designator.j0])
  | succ kj3 =>
   have H := HA.out
   clear HA
   simp only [bang_reader_designator.j0] at H
   by_cases c10 : x20_3 = true
   ·subst c10
    have H1 : ((bang_reader_place.f kj3 x1000_3 s0_1 x1002_3 x1003_3 x1004_3 x1005_3 a1).bind fun bt286 => (some (bt286.1, bt286.1, true, bt286.2.2.1, bt286.2.2.2.1, bt286.2.2.2.2.1, bt286.2.2.2.2.2.1, bt286.2.2.2.2.2.2))) = some (r1, r2, r3, r4, r5, r6, r7, r8) := by rw [if_pos rfl] at H; exact H
    clear H
    have H := H1
    clear H1
    replace H := Option.bind_eq_some_iff.mp H
    obtain ⟨⟨t286, t287, t288, t289, t290, t291, t292⟩, A110, H⟩ := H
    replace H : (some (t286, t286, true, t288, t289, t290, t291, t292)) = some (r1, r2, r3, r4, r5, r6, r7, r8) := H
    have A11 := Aside0.mk A110
    clear A110
    simp only [Option.some.injEq, Prod.mk.injEq] at H
    obtain ⟨rfl, rfl, rfl, rfl, rfl, rfl, rfl, rfl⟩ := H
    go_wp2_with (first | ((with_reducible refine gate_callee (f := 69) rfl ?_); refine goesL_ (some 28) rfl rfl Tryd.func69 (by kernel_rfl) rfl #[.pointer (some ⟨g, 0, none⟩), .int .i64 a1] rfl (by (try simp only [List.map_toArray, List.map_cons, List.map_nil]); first | done | rfl | (simp only [List.length_drop, List.length_take]; rfl)) ?_; (with_reducible refine (bang_reader_place.calls kj3 g x1000_3 s0_1 x1002_3 x1003_3 x1004_3 x1005_3 a1 t286 t287 t288 t289 t290 t291 t292 w0 _ ?side1 ?side2 A11.out).mono ?_); (case side1 => repeat (first | (with_reducible first | exact HI0.out | apply IsS47.alloc | apply IsS47.drewN | apply IsS47.drew | apply IsS47.set_0 | apply IsS47.set_2 | apply IsS47.set_3 | apply IsS47.set_4 | apply IsS47.set_5) | exact HI0.out)); (case side2 => repeat (first | (with_reducible first | exact HB.out | apply below_alloc | apply pw_below_drewN | apply below_drew1 | refine below_set ?_ (IsS47.ge HI0.out)) | exact HB.out)); rintro e w12 ⟨rfl, hi, hb, hk⟩; refine ⟨_, rfl, ?_⟩; have n0_ := Aside0.mk (KeepBut.trans (by repeat (first | (with_reducible first | exact HK.out | apply KeepBut.set_ | apply keep_drewN | apply keep_drew | apply keep_alloc) | exact HK.out)) hk (.inl rfl)); have n1_ := Aside0.mk (hb); have n2_ := Aside0.mk (hi); clear HK; clear HB; clear HI0; have HK := n0_; have HB := n1_; have HI0 := n2_; clear n0_ n1_ n2_; (try clear hb); (try clear hb2); (try clear hk); (try clear hi)))
    go_ret3
    exact ⟨by first | rfl | (simp [errW_none, errW_some] <;> rfl) | (simp [*, errW_none, errW_some] <;> rfl), by repeat (first | (with_reducible first | exact HI0.out | apply IsS47.alloc | apply IsS47.drewN | apply IsS47.drew | apply IsS47.set_0 | apply IsS47.set_2 | apply IsS47.set_3 | apply IsS47.set_4 | apply IsS47.set_5) | exact HI0.out), by repeat (first | (with_reducible first | exact HB.out | apply below_alloc | apply pw_below_drewN | apply below_drew1 | refine below_set ?_ (IsS47.ge HI0.out)) | exact HB.out), by repeat (first | (with_reducible first | exact HK.out | apply KeepBut.set_ | apply keep_drewN | apply keep_drew | apply keep_alloc) | exact HK.out)⟩
   ·replace c10 := Bool.eq_false_iff.mpr c10
    subst c10
    have H1 : ((bang_reader_has.f x1000_3 s0_1 x1002_3 x1003_3 x1004_3 x1005_3 42).bind fun bt293 => (if bt293.1 = true then (some (1, a1, true, bt293.2.1, bt293.2.2.1, wrap64 (bt293.2.2.2.1 + 1), bt293.2.2.2.2.1, bt293.2.2.2.2.2)) else ((bang_reader_has.f bt293.2.1 s0_1 bt293.2.2.1 bt293.2.2.2.1 bt293.2.2.2.2.1 bt293.2.2.2.2.2 58).bind fun bt299 => (if bt299.1 = true then ((bang_reader_has.f bt299.2.1 s0_1 bt299.2.2.1 (wrap64 (bt299.2.2.2.1 + 1)) bt299.2.2.2.2.1 bt299.2.2.2.2.2 42).bind fun bt305 => (if bt305.1 = true then (some (1, a1, true, bt305.2.1, bt305.2.2.1, wrap64 (bt305.2.2.2.1 + 1), bt305.2.2.2.2.1, bt305.2.2.2.2.2)) else ((bang_reader_place.f kj3 bt305.2.1 s0_1 bt305.2.2.1 bt305.2.2.2.1 bt305.2.2.2.2.1 bt305.2.2.2.2.2 a1).bind fun bt311 => (if bt311.2.1 = true then ((bang_reader_has.f bt311.2.2.1 s0_1 bt311.2.2.2.1 bt311.2.2.2.2.1 bt311.2.2.2.2.2.1 bt311.2.2.2.2.2.2 42).bind fun bt318 => (bang_reader_designator.j1 kj3 a1 s0_3 bt311.1 bt311.2.1 bt318.1 bt318.2.1 s0_1 bt318.2.2.1 bt318.2.2.2.1 bt318.2.2.2.2.1 bt318.2.2.2.2.2)) else (bang_reader_designator.j1 kj3 a1 s0_3 bt311.1 bt311.2.1 false bt311.2.2.1 s0_1 bt311.2.2.2.1 bt311.2.2.2.2.1 bt311.2.2.2.2.2.1 bt311.2.2.2.2.2.2))))) else (some (0, 0, false, bt299.2.1, bt299.2.2.1, bt299.2.2.2.1, bt299.2.2.2.2.1, bt299.2.2.2.2.2)))))) = some (r1, r2, r3, r4, r5, r6, r7, r8) := by rw [if_neg (show ¬ (false = true) by decide)] at H; exact H
    clear H
    have H := H1
    clear H1
    replace H := Option.bind_eq_some_iff.mp H
    obtain ⟨⟨t293, t294, t295, t296, t297, t298⟩, A130, H⟩ := H
    replace H : (if t293 = true then (some (1, a1, true, t294, t295, wrap64 (t296 + 1), t297, t298)) else ((bang_reader_has.f t294 s0_1 t295 t296 t297 t298 58).bind fun bt299 => (if bt299.1 = true then ((bang_reader_has.f bt299.2.1 s0_1 bt299.2.2.1 (wrap64 (bt299.2.2.2.1 + 1)) bt299.2.2.2.2.1 bt299.2.2.2.2.2 42).bind fun bt305 => (if bt305.1 = true then (some (1, a1, true, bt305.2.1, bt305.2.2.1, wrap64 (bt305.2.2.2.1 + 1), bt305.2.2.2.2.1, bt305.2.2.2.2.2)) else ((bang_reader_place.f kj3 bt305.2.1 s0_1 bt305.2.2.1 bt305.2.2.2.1 bt305.2.2.2.2.1 bt305.2.2.2.2.2 a1).bind fun bt311 => (if bt311.2.1 = true then ((bang_reader_has.f bt311.2.2.1 s0_1 bt311.2.2.2.1 bt311.2.2.2.2.1 bt311.2.2.2.2.2.1 bt311.2.2.2.2.2.2 42).bind fun bt318 => (bang_reader_designator.j1 kj3 a1 s0_3 bt311.1 bt311.2.1 bt318.1 bt318.2.1 s0_1 bt318.2.2.1 bt318.2.2.2.1 bt318.2.2.2.2.1 bt318.2.2.2.2.2)) else (bang_reader_designator.j1 kj3 a1 s0_3 bt311.1 bt311.2.1 false bt311.2.2.1 s0_1 bt311.2.2.2.1 bt311.2.2.2.2.1 bt311.2.2.2.2.2.1 bt311.2.2.2.2.2.2))))) else (some (0, 0, false, bt299.2.1, bt299.2.2.1, bt299.2.2.2.1, bt299.2.2.2.2.1, bt299.2.2.2.2.2))))) = some (r1, r2, r3, r4, r5, r6, r7, r8) := H
    have A13 := Aside0.mk A130
    clear A130
    by_cases c14 : t293 = true
    ·subst c14
     have H1 : (some (1, a1, true, t294, t295, wrap64 (t296 + 1), t297, t298)) = some (r1, r2, r3, r4, r5, r6, r7, r8) := by rw [if_pos rfl] at H; exact H
     clear H
     have H := H1
     clear H1
     simp only [Option.some.injEq, Prod.mk.injEq] at H
     obtain ⟨rfl, rfl, rfl, rfl, rfl, rfl, rfl, rfl⟩ := H
     go_wp2_with (first | ((with_reducible refine gate_callee (f := 36) rfl ?_); refine goesL_ (some 35) rfl rfl Tryd.func36 (by kernel_rfl) rfl #[.pointer (some ⟨g, 0, none⟩), .int .u8 42] rfl (by (try simp only [List.map_toArray, List.map_cons, List.map_nil]); first | done | rfl | (simp only [List.length_drop, List.length_take]; rfl)) ?_; (with_reducible refine (bang_reader_has.calls g x1000_3 s0_1 x1002_3 x1003_3 x1004_3 x1005_3 42 true t294 t295 t296 t297 t298 w0 _ ?side1 ?side2 A13.out).mono ?_); (case side1 => repeat (first | (with_reducible first | exact HI0.out | apply IsS47.alloc | apply IsS47.drewN | apply IsS47.drew | apply IsS47.set_0 | apply IsS47.set_2 | apply IsS47.set_3 | apply IsS47.set_4 | apply IsS47.set_5) | exact HI0.out)); (case side2 => repeat (first | (with_reducible first | exact HB.out | apply below_alloc | apply pw_below_drewN | apply below_drew1 | refine below_set ?_ (IsS47.ge HI0.out)) | exact HB.out)); rintro e w15 ⟨rfl, hi, hb, hk⟩; refine ⟨_, rfl, ?_⟩; have n0_ := Aside0.mk (KeepBut.trans (by repeat (first | (with_reducible first | exact HK.out | apply KeepBut.set_ | apply keep_drewN | apply keep_drew | apply keep_alloc) | exact HK.out)) hk (.inl rfl)); have n1_ := Aside0.mk (hb); have n2_ := Aside0.mk (hi); clear HK; clear HB; clear HI0; have HK := n0_; have HB := n1_; have HI0 := n2_; clear n0_ n1_ n2_; (try clear hb); (try clear hb2); (try clear hk); (try clear hi); obtain ⟨ASz16_1, cSz16_1, HGz16, hgz16, ⟨HSz16_1, HCSz16_1⟩⟩ := HI0.out; have hcz16_0 := cellS47_0 HGz16; have hcz16_1 := cellS47_1 HGz16; have hcz16_2 := cellS47_2 HGz16; have hcz16_3 := cellS47_3 HGz16; have hcz16_4 := cellS47_4 HGz16; have hcz16_5 := cellS47_5 HGz16; have hfz16_0 := blk_frozen HGz16 0; have hfz16_2 := blk_frozen HGz16 2; have hfz16_3 := blk_frozen HGz16 3; have hfz16_4 := blk_frozen HGz16 4; have hfz16_5 := blk_frozen HGz16 5; clear HGz16 hgz16))
     go_ret3
     exact ⟨by first | rfl | (simp [errW_none, errW_some] <;> rfl) | (simp [*, errW_none, errW_some] <;> rfl), by repeat (first | (with_reducible first | exact HI0.out | apply IsS47.alloc | apply IsS47.drewN | apply IsS47.drew | apply IsS47.set_0 | apply IsS47.set_2 | apply IsS47.set_3 | apply IsS47.set_4 | apply IsS47.set_5) | exact HI0.out), by repeat (first | (with_reducible first | exact HB.out | apply below_alloc | apply pw_below_drewN | apply below_drew1 | refine below_set ?_ (IsS47.ge HI0.out)) | exact HB.out), by repeat (first | (with_reducible first | exact HK.out | apply KeepBut.set_ | apply keep_drewN | apply keep_drew | apply keep_alloc) | exact HK.out)⟩
    ·replace c14 := Bool.eq_false_iff.mpr c14
     subst c14
     have H1 : ((bang_reader_has.f t294 s0_1 t295 t296 t297 t298 58).bind fun bt299 => (if bt299.1 = true then ((bang_reader_has.f bt299.2.1 s0_1 bt299.2.2.1 (wrap64 (bt299.2.2.2.1 + 1)) bt299.2.2.2.2.1 bt299.2.2.2.2.2 42).bind fun bt305 => (if bt305.1 = true then (some (1, a1, true, bt305.2.1, bt305.2.2.1, wrap64 (bt305.2.2.2.1 + 1), bt305.2.2.2.2.1, bt305.2.2.2.2.2)) else ((bang_reader_place.f kj3 bt305.2.1 s0_1 bt305.2.2.1 bt305.2.2.2.1 bt305.2.2.2.2.1 bt305.2.2.2.2.2 a1).bind fun bt311 => (if bt311.2.1 = true then ((bang_reader_has.f bt311.2.2.1 s0_1 bt311.2.2.2.1 bt311.2.2.2.2.1 bt311.2.2.2.2.2.1 bt311.2.2.2.2.2.2 42).bind fun bt318 => (bang_reader_designator.j1 kj3 a1 s0_3 bt311.1 bt311.2.1 bt318.1 bt318.2.1 s0_1 bt318.2.2.1 bt318.2.2.2.1 bt318.2.2.2.2.1 bt318.2.2.2.2.2)) else (bang_reader_designator.j1 kj3 a1 s0_3 bt311.1 bt311.2.1 false bt311.2.2.1 s0_1 bt311.2.2.2.1 bt311.2.2.2.2.1 bt311.2.2.2.2.2.1 bt311.2.2.2.2.2.2))))) else (some (0, 0, false, bt299.2.1, bt299.2.2.1, bt299.2.2.2.1, bt299.2.2.2.2.1, bt299.2.2.2.2.2)))) = some (r1, r2, r3, r4, r5, r6, r7, r8) := by rw [if_neg (show ¬ (false = true) by decide)] at H; exact H
     clear H
     have H := H1
     clear H1
     replace H := Option.bind_eq_some_iff.mp H
     obtain ⟨⟨t299, t300, t301, t302, t303, t304⟩, A170, H⟩ := H
     replace H : (if t299 = true then ((bang_reader_has.f t300 s0_1 t301 (wrap64 (t302 + 1)) t303 t304 42).bind fun bt305 => (if bt305.1 = true then (some (1, a1, true, bt305.2.1, bt305.2.2.1, wrap64 (bt305.2.2.2.1 + 1), bt305.2.2.2.2.1, bt305.2.2.2.2.2)) else ((bang_reader_place.f kj3 bt305.2.1 s0_1 bt305.2.2.1 bt305.2.2.2.1 bt305.2.2.2.2.1 bt305.2.2.2.2.2 a1).bind fun bt311 => (if bt311.2.1 = true then ((bang_reader_has.f bt311.2.2.1 s0_1 bt311.2.2.2.1 bt311.2.2.2.2.1 bt311.2.2.2.2.2.1 bt311.2.2.2.2.2.2 42).bind fun bt318 => (bang_reader_designator.j1 kj3 a1 s0_3 bt311.1 bt311.2.1 bt318.1 bt318.2.1 s0_1 bt318.2.2.1 bt318.2.2.2.1 bt318.2.2.2.2.1 bt318.2.2.2.2.2)) else (bang_reader_designator.j1 kj3 a1 s0_3 bt311.1 bt311.2.1 false bt311.2.2.1 s0_1 bt311.2.2.2.1 bt311.2.2.2.2.1 bt311.2.2.2.2.2.1 bt311.2.2.2.2.2.2))))) else (some (0, 0, false, t300, t301, t302, t303, t304))) = some (r1, r2, r3, r4, r5, r6, r7, r8) := H
     have A17 := Aside0.mk A170
     clear A170
     by_cases c18 : t299 = true
     ·subst c18
      have H1 : ((bang_reader_has.f t300 s0_1 t301 (wrap64 (t302 + 1)) t303 t304 42).bind fun bt305 => (if bt305.1 = true then (some (1, a1, true, bt305.2.1, bt305.2.2.1, wrap64 (bt305.2.2.2.1 + 1), bt305.2.2.2.2.1, bt305.2.2.2.2.2)) else ((bang_reader_place.f kj3 bt305.2.1 s0_1 bt305.2.2.1 bt305.2.2.2.1 bt305.2.2.2.2.1 bt305.2.2.2.2.2 a1).bind fun bt311 => (if bt311.2.1 = true then ((bang_reader_has.f bt311.2.2.1 s0_1 bt311.2.2.2.1 bt311.2.2.2.2.1 bt311.2.2.2.2.2.1 bt311.2.2.2.2.2.2 42).bind fun bt318 => (bang_reader_designator.j1 kj3 a1 s0_3 bt311.1 bt311.2.1 bt318.1 bt318.2.1 s0_1 bt318.2.2.1 bt318.2.2.2.1 bt318.2.2.2.2.1 bt318.2.2.2.2.2)) else (bang_reader_designator.j1 kj3 a1 s0_3 bt311.1 bt311.2.1 false bt311.2.2.1 s0_1 bt311.2.2.2.1 bt311.2.2.2.2.1 bt311.2.2.2.2.2.1 bt311.2.2.2.2.2.2))))) = some (r1, r2, r3, r4, r5, r6, r7, r8) := by rw [if_pos rfl] at H; exact H
      clear H
      have H := H1
      clear H1
      replace H := Option.bind_eq_some_iff.mp H
      obtain ⟨⟨t305, t306, t307, t308, t309, t310⟩, A190, H⟩ := H
      replace H : (if t305 = true then (some (1, a1, true, t306, t307, wrap64 (t308 + 1), t309, t310)) else ((bang_reader_place.f kj3 t306 s0_1 t307 t308 t309 t310 a1).bind fun bt311 => (if bt311.2.1 = true then ((bang_reader_has.f bt311.2.2.1 s0_1 bt311.2.2.2.1 bt311.2.2.2.2.1 bt311.2.2.2.2.2.1 bt311.2.2.2.2.2.2 42).bind fun bt318 => (bang_reader_designator.j1 kj3 a1 s0_3 bt311.1 bt311.2.1 bt318.1 bt318.2.1 s0_1 bt318.2.2.1 bt318.2.2.2.1 bt318.2.2.2.2.1 bt318.2.2.2.2.2)) else (bang_reader_designator.j1 kj3 a1 s0_3 bt311.1 bt311.2.1 false bt311.2.2.1 s0_1 bt311.2.2.2.1 bt311.2.2.2.2.1 bt311.2.2.2.2.2.1 bt311.2.2.2.2.2.2)))) = some (r1, r2, r3, r4, r5, r6, r7, r8) := H
      have A19 := Aside0.mk A190
      clear A190
      by_cases c20 : t305 = true
      ·subst c20
       have H1 : (some (1, a1, true, t306, t307, wrap64 (t308 + 1), t309, t310)) = some (r1, r2, r3, r4, r5, r6, r7, r8) := by rw [if_pos rfl] at H; exact H
       clear H
       have H := H1
       clear H1
       simp only [Option.some.injEq, Prod.mk.injEq] at H
       obtain ⟨rfl, rfl, rfl, rfl, rfl, rfl, rfl, rfl⟩ := H
       go_wp2_with (first | ((with_reducible refine gate_callee (f := 36) rfl ?_); refine goesL_ (some 35) rfl rfl Tryd.func36 (by kernel_rfl) rfl #[.pointer (some ⟨g, 0, none⟩), .int .u8 42] rfl (by (try simp only [List.map_toArray, List.map_cons, List.map_nil]); first | done | rfl | (simp only [List.length_drop, List.length_take]; rfl)) ?_; (with_reducible refine (bang_reader_has.calls g x1000_3 s0_1 x1002_3 x1003_3 x1004_3 x1005_3 42 false t294 t295 t296 t297 t298 w0 _ ?side1 ?side2 A13.out).mono ?_); (case side1 => repeat (first | (with_reducible first | exact HI0.out | apply IsS47.alloc | apply IsS47.drewN | apply IsS47.drew | apply IsS47.set_0 | apply IsS47.set_2 | apply IsS47.set_3 | apply IsS47.set_4 | apply IsS47.set_5) | exact HI0.out)); (case side2 => repeat (first | (with_reducible first | exact HB.out | apply below_alloc | apply pw_below_drewN | apply below_drew1 | refine below_set ?_ (IsS47.ge HI0.out)) | exact HB.out)); rintro e w21 ⟨rfl, hi, hb, hk⟩; refine ⟨_, rfl, ?_⟩; have n0_ := Aside0.mk (KeepBut.trans (by repeat (first | (with_reducible first | exact HK.out | apply KeepBut.set_ | apply keep_drewN | apply keep_drew | apply keep_alloc) | exact HK.out)) hk (.inl rfl)); have n1_ := Aside0.mk (hb); have n2_ := Aside0.mk (hi); clear HK; clear HB; clear HI0; have HK := n0_; have HB := n1_; have HI0 := n2_; clear n0_ n1_ n2_; (try clear hb); (try clear hb2); (try clear hk); (try clear hi)) | ((with_reducible refine gate_callee (f := 36) rfl ?_); refine goesL_ (some 46) rfl rfl Tryd.func36 (by kernel_rfl) rfl #[.pointer (some ⟨g, 0, none⟩), .int .u8 58] rfl (by (try simp only [List.map_toArray, List.map_cons, List.map_nil]); first | done | rfl | (simp only [List.length_drop, List.length_take]; rfl)) ?_; (with_reducible refine (bang_reader_has.calls g t294 s0_1 t295 t296 t297 t298 58 true t300 t301 t302 t303 t304 w0 _ ?side1 ?side2 A17.out).mono ?_); (case side1 => repeat (first | (with_reducible first | exact HI0.out | apply IsS47.alloc | apply IsS47.drewN | apply IsS47.drew | apply IsS47.set_0 | apply IsS47.set_2 | apply IsS47.set_3 | apply IsS47.set_4 | apply IsS47.set_5) | exact HI0.out)); (case side2 => repeat (first | (with_reducible first | exact HB.out | apply below_alloc | apply pw_below_drewN | apply below_drew1 | refine below_set ?_ (IsS47.ge HI0.out)) | exact HB.out)); rintro e w22 ⟨rfl, hi, hb, hk⟩; refine ⟨_, rfl, ?_⟩; have n0_ := Aside0.mk (KeepBut.trans (by repeat (first | (with_reducible first | exact HK.out | apply KeepBut.set_ | apply keep_drewN | apply keep_drew | apply keep_alloc) | exact HK.out)) hk (.inl rfl)); have n1_ := Aside0.mk (hb); have n2_ := Aside0.mk (hi); clear HK; clear HB; clear HI0; have HK := n0_; have HB := n1_; have HI0 := n2_; clear n0_ n1_ n2_; (try clear hb); (try clear hb2); (try clear hk); (try clear hi); obtain ⟨ASz23_1, cSz23_1, HGz23, hgz23, ⟨HSz23_1, HCSz23_1⟩⟩ := HI0.out; have hcz23_0 := cellS47_0 HGz23; have hcz23_1 := cellS47_1 HGz23; have hcz23_2 := cellS47_2 HGz23; have hcz23_3 := cellS47_3 HGz23; have hcz23_4 := cellS47_4 HGz23; have hcz23_5 := cellS47_5 HGz23; have hfz23_0 := blk_frozen HGz23 0; have hfz23_2 := blk_frozen HGz23 2; have hfz23_3 := blk_frozen HGz23 3; have hfz23_4 := blk_frozen HGz23 4; have hfz23_5 := blk_frozen HGz23 5; clear HGz23 hgz23) | ((with_reducible refine gate_callee (f := 36) rfl ?_); refine goesL_ (some 56) rfl rfl Tryd.func36 (by kernel_rfl) rfl #[.pointer (some ⟨g, 0, none⟩), .int .u8 42] rfl (by (try simp only [List.map_toArray, List.map_cons, List.map_nil]); first | done | rfl | (simp only [List.length_drop, List.length_take]; rfl)) ?_; (with_reducible refine (bang_reader_has.calls g t300 s0_1 t301 (wrap64 (t302 + 1)) t303 t304 42 true t306 t307 t308 t309 t310 w0 _ ?side1 ?side2 A19.out).mono ?_); (case side1 => repeat (first | (with_reducible first | exact HI0.out | apply IsS47.alloc | apply IsS47.drewN | apply IsS47.drew | apply IsS47.set_0 | apply IsS47.set_2 | apply IsS47.set_3 | apply IsS47.set_4 | apply IsS47.set_5) | exact HI0.out)); (case side2 => repeat (first | (with_reducible first | exact HB.out | apply below_alloc | apply pw_below_drewN | apply below_drew1 | refine below_set ?_ (IsS47.ge HI0.out)) | exact HB.out)); rintro e w24 ⟨rfl, hi, hb, hk⟩; refine ⟨_, rfl, ?_⟩; have n0_ := Aside0.mk (KeepBut.trans (by repeat (first | (with_reducible first | exact HK.out | apply KeepBut.set_ | apply keep_drewN | apply keep_drew | apply keep_alloc) | exact HK.out)) hk (.inl rfl)); have n1_ := Aside0.mk (hb); have n2_ := Aside0.mk (hi); clear HK; clear HB; clear HI0; have HK := n0_; have HB := n1_; have HI0 := n2_; clear n0_ n1_ n2_; (try clear hb); (try clear hb2); (try clear hk); (try clear hi); obtain ⟨ASz25_1, cSz25_1, HGz25, hgz25, ⟨HSz25_1, HCSz25_1⟩⟩ := HI0.out; have hcz25_0 := cellS47_0 HGz25; have hcz25_1 := cellS47_1 HGz25; have hcz25_2 := cellS47_2 HGz25; have hcz25_3 := cellS47_3 HGz25; have hcz25_4 := cellS47_4 HGz25; have hcz25_5 := cellS47_5 HGz25; have hfz25_0 := blk_frozen HGz25 0; have hfz25_2 := blk_frozen HGz25 2; have hfz25_3 := blk_frozen HGz25 3; have hfz25_4 := blk_frozen HGz25 4; have hfz25_5 := blk_frozen HGz25 5; clear HGz25 hgz25))
       go_ret3
       exact ⟨by first | rfl | (simp [errW_none, errW_some] <;> rfl) | (simp [*, errW_none, errW_some] <;> rfl), by repeat (first | (with_reducible first | exact HI0.out | apply IsS47.alloc | apply IsS47.drewN | apply IsS47.drew | apply IsS47.set_0 | apply IsS47.set_2 | apply IsS47.set_3 | apply IsS47.set_4 | apply IsS47.set_5) | exact HI0.out), by repeat (first | (with_reducible first | exact HB.out | apply below_alloc | apply pw_below_drewN | apply below_drew1 | refine below_set ?_ (IsS47.ge HI0.out)) | exact HB.out), by repeat (first | (with_reducible first | exact HK.out | apply KeepBut.set_ | apply keep_drewN | apply keep_drew | apply keep_alloc) | exact HK.out)⟩
      ·replace c20 := Bool.eq_false_iff.mpr c20
       subst c20
       have H1 : ((bang_reader_place.f kj3 t306 s0_1 t307 t308 t309 t310 a1).bind fun bt311 => (if bt311.2.1 = true then ((bang_reader_has.f bt311.2.2.1 s0_1 bt311.2.2.2.1 bt311.2.2.2.2.1 bt311.2.2.2.2.2.1 bt311.2.2.2.2.2.2 42).bind fun bt318 => (bang_reader_designator.j1 kj3 a1 s0_3 bt311.1 bt311.2.1 bt318.1 bt318.2.1 s0_1 bt318.2.2.1 bt318.2.2.2.1 bt318.2.2.2.2.1 bt318.2.2.2.2.2)) else (bang_reader_designator.j1 kj3 a1 s0_3 bt311.1 bt311.2.1 false bt311.2.2.1 s0_1 bt311.2.2.2.1 bt311.2.2.2.2.1 bt311.2.2.2.2.2.1 bt311.2.2.2.2.2.2))) = some (r1, r2, r3, r4, r5, r6, r7, r8) := by rw [if_neg (show ¬ (false = true) by decide)] at H; exact H
       clear H
       have H := H1
       clear H1
       replace H := Option.bind_eq_some_iff.mp H
       obtain ⟨⟨t311, t312, t313, t314, t315, t316, t317⟩, A260, H⟩ := H
       replace H : (if t312 = true then ((bang_reader_has.f t313 s0_1 t314 t315 t316 t317 42).bind fun bt318 => (bang_reader_designator.j1 kj3 a1 s0_3 t311 t312 bt318.1 bt318.2.1 s0_1 bt318.2.2.1 bt318.2.2.2.1 bt318.2.2.2.2.1 bt318.2.2.2.2.2)) else (bang_reader_designator.j1 kj3 a1 s0_3 t311 t312 false t313 s0_1 t314 t315 t316 t317)) = some (r1, r2, r3, r4, r5, r6, r7, r8) := H
       have A26 := Aside0.mk A260
       clear A260
       have HC27 := Aside0.mk H
       clear H
       go_upto_region 16 with (first | ((with_reducible refine gate_callee (f := 36) rfl ?_); refine goesL_ (some 35) rfl rfl Tryd.func36 (by kernel_rfl) rfl #[.pointer (some ⟨g, 0, none⟩), .int .u8 42] rfl (by (try simp only [List.map_toArray, List.map_cons, List.map_nil]); first | done | rfl | (simp only [List.length_drop, List.length_take]; rfl)) ?_; (with_reducible refine (bang_reader_has.calls g x1000_3 s0_1 x1002_3 x1003_3 x1004_3 x1005_3 42 false t294 t295 t296 t297 t298 w0 _ ?side1 ?side2 A13.out).mono ?_); (case side1 => repeat (first | (with_reducible first | exact HI0.out | apply IsS47.alloc | apply IsS47.drewN | apply IsS47.drew | apply IsS47.set_0 | apply IsS47.set_2 | apply IsS47.set_3 | apply IsS47.set_4 | apply IsS47.set_5) | exact HI0.out)); (case side2 => repeat (first | (with_reducible first | exact HB.out | apply below_alloc | apply pw_below_drewN | apply below_drew1 | refine below_set ?_ (IsS47.ge HI0.out)) | exact HB.out)); rintro e w28 ⟨rfl, hi, hb, hk⟩; refine ⟨_, rfl, ?_⟩; have n0_ := Aside0.mk (KeepBut.trans (by repeat (first | (with_reducible first | exact HK.out | apply KeepBut.set_ | apply keep_drewN | apply keep_drew | apply keep_alloc) | exact HK.out)) hk (.inl rfl)); have n1_ := Aside0.mk (hb); have n2_ := Aside0.mk (hi); clear HK; clear HB; clear HI0; have HK := n0_; have HB := n1_; have HI0 := n2_; clear n0_ n1_ n2_; (try clear hb); (try clear hb2); (try clear hk); (try clear hi)) | ((with_reducible refine gate_callee (f := 36) rfl ?_); refine goesL_ (some 46) rfl rfl Tryd.func36 (by kernel_rfl) rfl #[.pointer (some ⟨g, 0, none⟩), .int .u8 58] rfl (by (try simp only [List.map_toArray, List.map_cons, List.map_nil]); first | done | rfl | (simp only [List.length_drop, List.length_take]; rfl)) ?_; (with_reducible refine (bang_reader_has.calls g t294 s0_1 t295 t296 t297 t298 58 true t300 t301 t302 t303 t304 w0 _ ?side1 ?side2 A17.out).mono ?_); (case side1 => repeat (first | (with_reducible first | exact HI0.out | apply IsS47.alloc | apply IsS47.drewN | apply IsS47.drew | apply IsS47.set_0 | apply IsS47.set_2 | apply IsS47.set_3 | apply IsS47.set_4 | apply IsS47.set_5) | exact HI0.out)); (case side2 => repeat (first | (with_reducible first | exact HB.out | apply below_alloc | apply pw_below_drewN | apply below_drew1 | refine below_set ?_ (IsS47.ge HI0.out)) | exact HB.out)); rintro e w29 ⟨rfl, hi, hb, hk⟩; refine ⟨_, rfl, ?_⟩; have n0_ := Aside0.mk (KeepBut.trans (by repeat (first | (with_reducible first | exact HK.out | apply KeepBut.set_ | apply keep_drewN | apply keep_drew | apply keep_alloc) | exact HK.out)) hk (.inl rfl)); have n1_ := Aside0.mk (hb); have n2_ := Aside0.mk (hi); clear HK; clear HB; clear HI0; have HK := n0_; have HB := n1_; have HI0 := n2_; clear n0_ n1_ n2_; (try clear hb); (try clear hb2); (try clear hk); (try clear hi); obtain ⟨ASz30_1, cSz30_1, HGz30, hgz30, ⟨HSz30_1, HCSz30_1⟩⟩ := HI0.out; have hcz30_0 := cellS47_0 HGz30; have hcz30_1 := cellS47_1 HGz30; have hcz30_2 := cellS47_2 HGz30; have hcz30_3 := cellS47_3 HGz30; have hcz30_4 := cellS47_4 HGz30; have hcz30_5 := cellS47_5 HGz30; have hfz30_0 := blk_frozen HGz30 0; have hfz30_2 := blk_frozen HGz30 2; have hfz30_3 := blk_frozen HGz30 3; have hfz30_4 := blk_frozen HGz30 4; have hfz30_5 := blk_frozen HGz30 5; clear HGz30 hgz30) | ((with_reducible refine gate_callee (f := 36) rfl ?_); refine goesL_ (some 56) rfl rfl Tryd.func36 (by kernel_rfl) rfl #[.pointer (some ⟨g, 0, none⟩), .int .u8 42] rfl (by (try simp only [List.map_toArray, List.map_cons, List.map_nil]); first | done | rfl | (simp only [List.length_drop, List.length_take]; rfl)) ?_; (with_reducible refine (bang_reader_has.calls g t300 s0_1 t301 (wrap64 (t302 + 1)) t303 t304 42 false t306 t307 t308 t309 t310 w0 _ ?side1 ?side2 A19.out).mono ?_); (case side1 => repeat (first | (with_reducible first | exact HI0.out | apply IsS47.alloc | apply IsS47.drewN | apply IsS47.drew | apply IsS47.set_0 | apply IsS47.set_2 | apply IsS47.set_3 | apply IsS47.set_4 | apply IsS47.set_5) | exact HI0.out)); (case side2 => repeat (first | (with_reducible first | exact HB.out | apply below_alloc | apply pw_below_drewN | apply below_drew1 | refine below_set ?_ (IsS47.ge HI0.out)) | exact HB.out)); rintro e w31 ⟨rfl, hi, hb, hk⟩; refine ⟨_, rfl, ?_⟩; have n0_ := Aside0.mk (KeepBut.trans (by repeat (first | (with_reducible first | exact HK.out | apply KeepBut.set_ | apply keep_drewN | apply keep_drew | apply keep_alloc) | exact HK.out)) hk (.inl rfl)); have n1_ := Aside0.mk (hb); have n2_ := Aside0.mk (hi); clear HK; clear HB; clear HI0; have HK := n0_; have HB := n1_; have HI0 := n2_; clear n0_ n1_ n2_; (try clear hb); (try clear hb2); (try clear hk); (try clear hi)) | ((with_reducible refine gate_callee (f := 69) rfl ?_); refine goesL_ (some 68) rfl rfl Tryd.func69 (by kernel_rfl) rfl #[.pointer (some ⟨g, 0, none⟩), .int .i64 a1] rfl (by (try simp only [List.map_toArray, List.map_cons, List.map_nil]); first | done | rfl | (simp only [List.length_drop, List.length_take]; rfl)) ?_; (with_reducible refine (bang_reader_place.calls kj3 g t306 s0_1 t307 t308 t309 t310 a1 t311 t312 t313 t314 t315 t316 t317 w0 _ ?side1 ?side2 A26.out).mono ?_); (case side1 => repeat (first | (with_reducible first | exact HI0.out | apply IsS47.alloc | apply IsS47.drewN | apply IsS47.drew | apply IsS47.set_0 | apply IsS47.set_2 | apply IsS47.set_3 | apply IsS47.set_4 | apply IsS47.set_5) | exact HI0.out)); (case side2 => repeat (first | (with_reducible first | exact HB.out | apply below_alloc | apply pw_below_drewN | apply below_drew1 | refine below_set ?_ (IsS47.ge HI0.out)) | exact HB.out)); rintro e w32 ⟨rfl, hi, hb, hk⟩; refine ⟨_, rfl, ?_⟩; have n0_ := Aside0.mk (KeepBut.trans (by repeat (first | (with_reducible first | exact HK.out | apply KeepBut.set_ | apply keep_drewN | apply keep_drew | apply keep_alloc) | exact HK.out)) hk (.inl rfl)); have n1_ := Aside0.mk (hb); have n2_ := Aside0.mk (hi); clear HK; clear HB; clear HI0; have HK := n0_; have HB := n1_; have HI0 := n2_; clear n0_ n1_ n2_; (try clear hb); (try clear hb2); (try clear hk); (try clear hi)))
       (try simp only [Act.put, List.setIfInBounds_toArray, List.set_cons_zero, List.set_cons_succ])
       go_cut [71] (fun v71 wc => ∃ (kq : Nat) (x71_26 : Bool) (x1000_26 : Int) (x1002_26 : ByteArray) (x1003_26 : Int) (x1004_26 : ByteArray) (x1005_26 : Bool), v71 = .bool x71_26 ∧ Aside0 (bang_reader_designator.j1 kq a1 s0_3 t311 t312 x71_26 x1000_26 s0_1 x1002_26 x1003_26 x1004_26 x1005_26 = some (r1, r2, r3, r4, r5, r6, r7, r8)) ∧ Aside0 (kq ≤ kj3) ∧ Aside0 (IsS47 w0 wc g x1000_26 s0_1 x1002_26 x1003_26 x1004_26 x1005_26) ∧ Aside0 (KeepBut w wc g none) ∧ Aside0 (Below w0.heap.size w0 wc))
       case first =>
        have H := HC27.out
        clear HC27
        by_cases c33 : t312 = true
        ·subst c33
         have H1 : ((bang_reader_has.f t313 s0_1 t314 t315 t316 t317 42).bind fun bt318 => (bang_reader_designator.j1 kj3 a1 s0_3 t311 true bt318.1 bt318.2.1 s0_1 bt318.2.2.1 bt318.2.2.2.1 bt318.2.2.2.2.1 bt318.2.2.2.2.2)) = some (r1, r2, r3, r4, r5, r6, r7, r8) := by rw [if_pos rfl] at H; exact H
         clear H
         have H := H1
         clear H1
         replace H := Option.bind_eq_some_iff.mp H
         obtain ⟨⟨t318, t319, t320, t321, t322, t323⟩, A340, H⟩ := H
         replace H : (bang_reader_designator.j1 kj3 a1 s0_3 t311 true t318 t319 s0_1 t320 t321 t322 t323) = some (r1, r2, r3, r4, r5, r6, r7, r8) := H
         have A34 := Aside0.mk A340
         clear A340
         have H' := Aside0.mk H
         clear H
         go_wp2_with (first | (go_at_call 36; (with_reducible refine (bang_reader_has.calls g t313 s0_1 t314 t315 t316 t317 42 t318 t319 t320 t321 t322 t323 w0 _ ?side1 ?side2 A34.out).mono ?_); (case side1 => repeat (first | (with_reducible first | exact HI0.out | apply IsS47.alloc | apply IsS47.drewN | apply IsS47.drew | apply IsS47.set_0 | apply IsS47.set_2 | apply IsS47.set_3 | apply IsS47.set_4 | apply IsS47.set_5) | exact HI0.out)); (case side2 => repeat (first | (with_reducible first | exact HB.out | apply below_alloc | apply pw_below_drewN | apply below_drew1 | refine below_set ?_ (IsS47.ge HI0.out)) | exact HB.out)); rintro e w35 ⟨rfl, hi, hb, hk⟩; have n0_ := Aside0.mk (KeepBut.trans (by repeat (first | (with_reducible first | exact HK.out | apply KeepBut.set_ | apply keep_drewN | apply keep_drew | apply keep_alloc) | exact HK.out)) hk (.inl rfl)); have n1_ := Aside0.mk (hb); have n2_ := Aside0.mk (hi); clear HK; clear HB; clear HI0; have HK := n0_; have HB := n1_; have HI0 := n2_; clear n0_ n1_ n2_; (try clear hb); (try clear hb2); (try clear hk); (try clear hi)))
         go_meet
         case rel => exact ⟨_, (t318), (t319), (t320), (t321), (t322), (t323), (by first | rfl | (simp; done) | (simp [*]; done)), H', ⟨by have := HJ3.out; first | omega | exact Nat.le_refl _⟩, ⟨by repeat (first | (with_reducible first | exact HI0.out | apply IsS47.alloc | apply IsS47.drewN | apply IsS47.drew | apply IsS47.set_0 | apply IsS47.set_2 | apply IsS47.set_3 | apply IsS47.set_4 | apply IsS47.set_5) | exact HI0.out)⟩, ⟨by repeat (first | (with_reducible first | exact HK.out | apply KeepBut.set_ | apply keep_drewN | apply keep_drew | apply keep_alloc) | exact HK.out)⟩, ⟨by repeat (first | (with_reducible first | exact HB.out | apply below_alloc | apply pw_below_drewN | apply below_drew1 | refine below_set ?_ (IsS47.ge HI0.out)) | exact HB.out)⟩⟩
        ·replace c33 := Bool.eq_false_iff.mpr c33
         subst c33
         have H1 : (bang_reader_designator.j1 kj3 a1 s0_3 t311 false false t313 s0_1 t314 t315 t316 t317) = some (r1, r2, r3, r4, r5, r6, r7, r8) := by rw [if_neg (show ¬ (false = true) by decide)] at H; exact H
         clear H
         have H := H1
         clear H1
         have H' := Aside0.mk H
         clear H
         go_wp2
         go_meet
         case rel => exact ⟨_, (false), (t313), (t314), (t315), (t316), (t317), (by first | rfl | (simp; done) | (simp [*]; done)), H', ⟨by have := HJ3.out; first | omega | exact Nat.le_refl _⟩, ⟨by repeat (first | (with_reducible first | exact HI0.out | apply IsS47.alloc | apply IsS47.drewN | apply IsS47.drew | apply IsS47.set_0 | apply IsS47.set_2 | apply IsS47.set_3 | apply IsS47.set_4 | apply IsS47.set_5) | exact HI0.out)⟩, ⟨by repeat (first | (with_reducible first | exact HK.out | apply KeepBut.set_ | apply keep_drewN | apply keep_drew | apply keep_alloc) | exact HK.out)⟩, ⟨by repeat (first | (with_reducible first | exact HB.out | apply below_alloc | apply pw_below_drewN | apply below_drew1 | refine below_set ?_ (IsS47.ge HI0.out)) | exact HB.out)⟩⟩
       case rest =>
        clear HC27
        try clear c1
        try clear c2
        try clear p2
        try clear c3
        try clear c5
        try clear c6
        try clear p6
        try clear c7
        try clear c10
        try clear c14
        try clear c18
        try clear c20
        try clear c33
        try clear hcz16_0
        try clear hcz16_1
        try clear hcz16_2
        try clear hcz16_3
        try clear hcz16_4
        try clear hcz16_5
        try clear hcz23_0
        try clear hcz23_1
        try clear hcz23_2
        try clear hcz23_3
        try clear hcz23_4
        try clear hcz23_5
        try clear hcz25_0
        try clear hcz25_1
        try clear hcz25_2
        try clear hcz25_3
        try clear hcz25_4
        try clear hcz25_5
        try clear hcz30_0
        try clear hcz30_1
        try clear hcz30_2
        try clear hcz30_3
        try clear hcz30_4
        try clear hcz30_5
        try clear hcz5_0
        try clear hcz5_1
        try clear hcz5_2
        try clear hcz5_3
        try clear hcz5_4
        try clear hcz5_5
        try clear hfz16_0
        try clear hfz16_2
        try clear hfz16_3
        try clear hfz16_4
        try clear hfz16_5
        try clear hfz23_0
        try clear hfz23_2
        try clear hfz23_3
        try clear hfz23_4
        try clear hfz23_5
        try clear hfz25_0
        try clear hfz25_2
        try clear hfz25_3
        try clear hfz25_4
        try clear hfz25_5
        try clear hfz30_0
        try clear hfz30_2
        try clear hfz30_3
        try clear hfz30_4
        try clear hfz30_5
        try clear hfz5_0
        try clear hfz5_2
        try clear hfz5_3
        try clear hfz5_4
        try clear hfz5_5
        try clear p2
        obtain ⟨kq, x71_26, x1000_26, x1002_26, x1003_26, x1004_26, x1005_26, rfl, HA, HJ26, HI0, HK, HB⟩ := hcut
        cases kq with
        | zero => exact absurd HA.out (by simp [bang_reader_designator.j1])
        | succ kj26 =>
         have H := HA.out
         clear HA
         simp only [bang_reader_designator.j1] at H
         by_cases c36 : x71_26 = true
         ·subst c36
          have H1 : (some (t311, a1, true, x1000_26, x1002_26, wrap64 (x1003_26 + 1), x1004_26, x1005_26)) = some (r1, r2, r3, r4, r5, r6, r7, r8) := by rw [if_pos rfl] at H; exact H
          clear H
          have H := H1
          clear H1
          simp only [Option.some.injEq, Prod.mk.injEq] at H
          obtain ⟨rfl, rfl, rfl, rfl, rfl, rfl, rfl, rfl⟩ := H
          obtain ⟨ASz37_1, cSz37_1, HGz37, hgz37, ⟨HSz37_1, HCSz37_1⟩⟩ := HI0.out
          have hcz37_0 := cellS47_0 HGz37
          have hcz37_1 := cellS47_1 HGz37
          have hcz37_2 := cellS47_2 HGz37
          have hcz37_3 := cellS47_3 HGz37
          have hcz37_4 := cellS47_4 HGz37
          have hcz37_5 := cellS47_5 HGz37
          have hfz37_0 := blk_frozen HGz37 0
          have hfz37_2 := blk_frozen HGz37 2
          have hfz37_3 := blk_frozen HGz37 3
          have hfz37_4 := blk_frozen HGz37 4
          have hfz37_5 := blk_frozen HGz37 5
          clear HGz37 hgz37
          go_wp2
          go_ret3
          exact ⟨by first | rfl | (simp [errW_none, errW_some] <;> rfl) | (simp [*, errW_none, errW_some] <;> rfl), by repeat (first | (with_reducible first | exact HI0.out | apply IsS47.alloc | apply IsS47.drewN | apply IsS47.drew | apply IsS47.set_0 | apply IsS47.set_2 | apply IsS47.set_3 | apply IsS47.set_4 | apply IsS47.set_5) | exact HI0.out), by repeat (first | (with_reducible first | exact HB.out | apply below_alloc | apply pw_below_drewN | apply below_drew1 | refine below_set ?_ (IsS47.ge HI0.out)) | exact HB.out), by repeat (first | (with_reducible first | exact HK.out | apply KeepBut.set_ | apply keep_drewN | apply keep_drew | apply keep_alloc) | exact HK.out)⟩
         ·replace c36 := Bool.eq_false_iff.mpr c36
          subst c36
          have H1 : (if t312 = true then ((bang_reader_has.f x1000_26 s0_1 x1002_26 x1003_26 x1004_26 x1005_26 45).bind fun bt324 => (bang_reader_designator.j2 kj26 a1 s0_3 t311 t312 bt324.1 bt324.2.1 s0_1 bt324.2.2.1 bt324.2.2.2.1 bt324.2.2.2.2.1 bt324.2.2.2.2.2)) else (bang_reader_designator.j2 kj26 a1 s0_3 t311 t312 false x1000_26 s0_1 x1002_26 x1003_26 x1004_26 x1005_26)) = some (r1, r2, r3, r4, r5, r6, r7, r8) := by rw [if_neg (show ¬ (false = true) by decide)] at H; exact H
          clear H
          have H := H1
          clear H1
          have HC38 := Aside0.mk H
          clear H
          go_upto_region 19 with (fail)
          go_cut [86] (fun v86 wc => ∃ (kq : Nat) (x86_37 : Bool) (x1000_37 : Int) (x1002_37 : ByteArray) (x1003_37 : Int) (x1004_37 : ByteArray) (x1005_37 : Bool), v86 = .bool x86_37 ∧ Aside0 (bang_reader_designator.j2 kq a1 s0_3 t311 t312 x86_37 x1000_37 s0_1 x1002_37 x1003_37 x1004_37 x1005_37 = some (r1, r2, r3, r4, r5, r6, r7, r8)) ∧ Aside0 (kq ≤ kj26) ∧ Aside0 (IsS47 w0 wc g x1000_37 s0_1 x1002_37 x1003_37 x1004_37 x1005_37) ∧ Aside0 (KeepBut w wc g none) ∧ Aside0 (Below w0.heap.size w0 wc))
          case first =>
           have H := HC38.out
           clear HC38
           by_cases c39 : t312 = true
           ·subst c39
            have H1 : ((bang_reader_has.f x1000_26 s0_1 x1002_26 x1003_26 x1004_26 x1005_26 45).bind fun bt324 => (bang_reader_designator.j2 kj26 a1 s0_3 t311 true bt324.1 bt324.2.1 s0_1 bt324.2.2.1 bt324.2.2.2.1 bt324.2.2.2.2.1 bt324.2.2.2.2.2)) = some (r1, r2, r3, r4, r5, r6, r7, r8) := by rw [if_pos rfl] at H; exact H
            clear H
            have H := H1
            clear H1
            replace H := Option.bind_eq_some_iff.mp H
            obtain ⟨⟨t324, t325, t326, t327, t328, t329⟩, A400, H⟩ := H
            replace H : (bang_reader_designator.j2 kj26 a1 s0_3 t311 true t324 t325 s0_1 t326 t327 t328 t329) = some (r1, r2, r3, r4, r5, r6, r7, r8) := H
            have A40 := Aside0.mk A400
            clear A400
            have H' := Aside0.mk H
            clear H
            go_wp2_with (first | (go_at_call 36; (with_reducible refine (bang_reader_has.calls g x1000_26 s0_1 x1002_26 x1003_26 x1004_26 x1005_26 45 t324 t325 t326 t327 t328 t329 w0 _ ?side1 ?side2 A40.out).mono ?_); (case side1 => repeat (first | (with_reducible first | exact HI0.out | apply IsS47.alloc | apply IsS47.drewN | apply IsS47.drew | apply IsS47.set_0 | apply IsS47.set_2 | apply IsS47.set_3 | apply IsS47.set_4 | apply IsS47.set_5) | exact HI0.out)); (case side2 => repeat (first | (with_reducible first | exact HB.out | apply below_alloc | apply pw_below_drewN | apply below_drew1 | refine below_set ?_ (IsS47.ge HI0.out)) | exact HB.out)); rintro e w41 ⟨rfl, hi, hb, hk⟩; have n0_ := Aside0.mk (KeepBut.trans (by repeat (first | (with_reducible first | exact HK.out | apply KeepBut.set_ | apply keep_drewN | apply keep_drew | apply keep_alloc) | exact HK.out)) hk (.inl rfl)); have n1_ := Aside0.mk (hb); have n2_ := Aside0.mk (hi); clear HK; clear HB; clear HI0; have HK := n0_; have HB := n1_; have HI0 := n2_; clear n0_ n1_ n2_; (try clear hb); (try clear hb2); (try clear hk); (try clear hi)))
            go_meet
            case rel => exact ⟨_, (t324), (t325), (t326), (t327), (t328), (t329), (by first | rfl | (simp; done) | (simp [*]; done)), H', ⟨by have := HJ3.out; have := HJ26.out; first | omega | exact Nat.le_refl _⟩, ⟨by repeat (first | (with_reducible first | exact HI0.out | apply IsS47.alloc | apply IsS47.drewN | apply IsS47.drew | apply IsS47.set_0 | apply IsS47.set_2 | apply IsS47.set_3 | apply IsS47.set_4 | apply IsS47.set_5) | exact HI0.out)⟩, ⟨by repeat (first | (with_reducible first | exact HK.out | apply KeepBut.set_ | apply keep_drewN | apply keep_drew | apply keep_alloc) | exact HK.out)⟩, ⟨by repeat (first | (with_reducible first | exact HB.out | apply below_alloc | apply pw_below_drewN | apply below_drew1 | refine below_set ?_ (IsS47.ge HI0.out)) | exact HB.out)⟩⟩
           ·replace c39 := Bool.eq_false_iff.mpr c39
            subst c39
            have H1 : (bang_reader_designator.j2 kj26 a1 s0_3 t311 false false x1000_26 s0_1 x1002_26 x1003_26 x1004_26 x1005_26) = some (r1, r2, r3, r4, r5, r6, r7, r8) := by rw [if_neg (show ¬ (false = true) by decide)] at H; exact H
            clear H
            have H := H1
            clear H1
            have H' := Aside0.mk H
            clear H
            go_wp2
            go_meet
            case rel => exact ⟨_, (false), (x1000_26), (x1002_26), (x1003_26), (x1004_26), (x1005_26), (by first | rfl | (simp; done) | (simp [*]; done)), H', ⟨by have := HJ3.out; have := HJ26.out; first | omega | exact Nat.le_refl _⟩, ⟨by repeat (first | (with_reducible first | exact HI0.out | apply IsS47.alloc | apply IsS47.drewN | apply IsS47.drew | apply IsS47.set_0 | apply IsS47.set_2 | apply IsS47.set_3 | apply IsS47.set_4 | apply IsS47.set_5) | exact HI0.out)⟩, ⟨by repeat (first | (with_reducible first | exact HK.out | apply KeepBut.set_ | apply keep_drewN | apply keep_drew | apply keep_alloc) | exact HK.out)⟩, ⟨by repeat (first | (with_reducible first | exact HB.out | apply below_alloc | apply pw_below_drewN | apply below_drew1 | refine below_set ?_ (IsS47.ge HI0.out)) | exact HB.out)⟩⟩
          case rest =>
           clear HC38
           try clear c1
           try clear c2
           try clear p2
           try clear c3
           try clear c5
           try clear c6
           try clear p6
           try clear c7
           try clear c10
           try clear c14
           try clear c18
           try clear c20
           try clear c33
           try clear c36
           try clear c39
           try clear hcz16_0
           try clear hcz16_1
           try clear hcz16_2
           try clear hcz16_3
           try clear hcz16_4
           try clear hcz16_5
           try clear hcz23_0
           try clear hcz23_1
           try clear hcz23_2
           try clear hcz23_3
           try clear hcz23_4
           try clear hcz23_5
           try clear hcz25_0
           try clear hcz25_1
           try clear hcz25_2
           try clear hcz25_3
           try clear hcz25_4
           try clear hcz25_5
           try clear hcz30_0
           try clear hcz30_1
           try clear hcz30_2
           try clear hcz30_3
           try clear hcz30_4
           try clear hcz30_5
           try clear hcz37_0
           try clear hcz37_1
           try clear hcz37_2
           try clear hcz37_3
           try clear hcz37_4
           try clear hcz37_5
           try clear hcz5_0
           try clear hcz5_1
           try clear hcz5_2
           try clear hcz5_3
           try clear hcz5_4
           try clear hcz5_5
           try clear hfz16_0
           try clear hfz16_2
           try clear hfz16_3
           try clear hfz16_4
           try clear hfz16_5
           try clear hfz23_0
           try clear hfz23_2
           try clear hfz23_3
           try clear hfz23_4
           try clear hfz23_5
           try clear hfz25_0
           try clear hfz25_2
           try clear hfz25_3
           try clear hfz25_4
           try clear hfz25_5
           try clear hfz30_0
           try clear hfz30_2
           try clear hfz30_3
           try clear hfz30_4
           try clear hfz30_5
           try clear hfz37_0
           try clear hfz37_2
           try clear hfz37_3
           try clear hfz37_4
           try clear hfz37_5
           try clear hfz5_0
           try clear hfz5_2
           try clear hfz5_3
           try clear hfz5_4
           try clear hfz5_5
           try clear p2
           try clear p6
           obtain ⟨kq, x86_37, x1000_37, x1002_37, x1003_37, x1004_37, x1005_37, rfl, HA, HJ37, HI0, HK, HB⟩ := hcut
           cases kq with
           | zero => exact absurd HA.out (by simp [bang_reader_designator.j2])
           | succ kj37 =>
            have H := HA.out
            clear HA
            simp only [bang_reader_designator.j2] at H
            by_cases c42 : x86_37 = true
            ·subst c42
             have H1 : ((bang_reader_place.f kj37 x1000_37 s0_1 x1002_37 (wrap64 (x1003_37 + 1)) x1004_37 x1005_37 a1).bind fun bt330 => (if bt330.2.1 = true then (some (t311, bt330.1, true, bt330.2.2.1, bt330.2.2.2.1, bt330.2.2.2.2.1, bt330.2.2.2.2.2.1, bt330.2.2.2.2.2.2)) else (some (t311, wrap64 (a1 - 1), true, bt330.2.2.1, bt330.2.2.2.1, bt330.2.2.2.2.1, bt330.2.2.2.2.2.1, bt330.2.2.2.2.2.2)))) = some (r1, r2, r3, r4, r5, r6, r7, r8) := by rw [if_pos rfl] at H; exact H
             clear H
             have H := H1
             clear H1
             replace H := Option.bind_eq_some_iff.mp H
             obtain ⟨⟨t330, t331, t332, t333, t334, t335, t336⟩, A430, H⟩ := H
             replace H : (if t331 = true then (some (t311, t330, true, t332, t333, t334, t335, t336)) else (some (t311, wrap64 (a1 - 1), true, t332, t333, t334, t335, t336))) = some (r1, r2, r3, r4, r5, r6, r7, r8) := H
             have A43 := Aside0.mk A430
             clear A430
             by_cases c44 : t331 = true
             ·subst c44
              have H1 : (some (t311, t330, true, t332, t333, t334, t335, t336)) = some (r1, r2, r3, r4, r5, r6, r7, r8) := by rw [if_pos rfl] at H; exact H
              clear H
              have H := H1
              clear H1
              simp only [Option.some.injEq, Prod.mk.injEq] at H
              obtain ⟨rfl, rfl, rfl, rfl, rfl, rfl, rfl, rfl⟩ := H
              obtain ⟨ASz45_1, cSz45_1, HGz45, hgz45, ⟨HSz45_1, HCSz45_1⟩⟩ := HI0.out
              have hcz45_0 := cellS47_0 HGz45
              have hcz45_1 := cellS47_1 HGz45
              have hcz45_2 := cellS47_2 HGz45
              have hcz45_3 := cellS47_3 HGz45
              have hcz45_4 := cellS47_4 HGz45
              have hcz45_5 := cellS47_5 HGz45
              have hfz45_0 := blk_frozen HGz45 0
              have hfz45_2 := blk_frozen HGz45 2
              have hfz45_3 := blk_frozen HGz45 3
              have hfz45_4 := blk_frozen HGz45 4
              have hfz45_5 := blk_frozen HGz45 5
              clear HGz45 hgz45
              go_wp2_with (first | ((with_reducible refine gate_callee (f := 69) rfl ?_); refine goesL_ (some 102) rfl rfl Tryd.func69 (by kernel_rfl) rfl #[.pointer (some ⟨g, 0, none⟩), .int .i64 a1] rfl (by (try simp only [List.map_toArray, List.map_cons, List.map_nil]); first | done | rfl | (simp only [List.length_drop, List.length_take]; rfl)) ?_; (with_reducible refine (bang_reader_place.calls kj37 g x1000_37 s0_1 x1002_37 (wrap64 (x1003_37 + 1)) x1004_37 x1005_37 a1 t330 true t332 t333 t334 t335 t336 w0 _ ?side1 ?side2 A43.out).mono ?_); (case side1 => repeat (first | (with_reducible first | exact HI0.out | apply IsS47.alloc | apply IsS47.drewN | apply IsS47.drew | apply IsS47.set_0 | apply IsS47.set_2 | apply IsS47.set_3 | apply IsS47.set_4 | apply IsS47.set_5) | exact HI0.out)); (case side2 => repeat (first | (with_reducible first | exact HB.out | apply below_alloc | apply pw_below_drewN | apply below_drew1 | refine below_set ?_ (IsS47.ge HI0.out)) | exact HB.out)); rintro e w46 ⟨rfl, hi, hb, hk⟩; refine ⟨_, rfl, ?_⟩; have n0_ := Aside0.mk (KeepBut.trans (by repeat (first | (with_reducible first | exact HK.out | apply KeepBut.set_ | apply keep_drewN | apply keep_drew | apply keep_alloc) | exact HK.out)) hk (.inl rfl)); have n1_ := Aside0.mk (hb); have n2_ := Aside0.mk (hi); clear HK; clear HB; clear HI0; have HK := n0_; have HB := n1_; have HI0 := n2_; clear n0_ n1_ n2_; (try clear hb); (try clear hb2); (try clear hk); (try clear hi)))
              go_ret3
              exact ⟨by first | rfl | (simp [errW_none, errW_some] <;> rfl) | (simp [*, errW_none, errW_some] <;> rfl), by repeat (first | (with_reducible first | exact HI0.out | apply IsS47.alloc | apply IsS47.drewN | apply IsS47.drew | apply IsS47.set_0 | apply IsS47.set_2 | apply IsS47.set_3 | apply IsS47.set_4 | apply IsS47.set_5) | exact HI0.out), by repeat (first | (with_reducible first | exact HB.out | apply below_alloc | apply pw_below_drewN | apply below_drew1 | refine below_set ?_ (IsS47.ge HI0.out)) | exact HB.out), by repeat (first | (with_reducible first | exact HK.out | apply KeepBut.set_ | apply keep_drewN | apply keep_drew | apply keep_alloc) | exact HK.out)⟩
             ·replace c44 := Bool.eq_false_iff.mpr c44
              subst c44
              have H1 : (some (t311, wrap64 (a1 - 1), true, t332, t333, t334, t335, t336)) = some (r1, r2, r3, r4, r5, r6, r7, r8) := by rw [if_neg (show ¬ (false = true) by decide)] at H; exact H
              clear H
              have H := H1
              clear H1
              simp only [Option.some.injEq, Prod.mk.injEq] at H
              obtain ⟨rfl, rfl, rfl, rfl, rfl, rfl, rfl, rfl⟩ := H
              obtain ⟨ASz47_1, cSz47_1, HGz47, hgz47, ⟨HSz47_1, HCSz47_1⟩⟩ := HI0.out
              have hcz47_0 := cellS47_0 HGz47
              have hcz47_1 := cellS47_1 HGz47
              have hcz47_2 := cellS47_2 HGz47
              have hcz47_3 := cellS47_3 HGz47
              have hcz47_4 := cellS47_4 HGz47
              have hcz47_5 := cellS47_5 HGz47
              have hfz47_0 := blk_frozen HGz47 0
              have hfz47_2 := blk_frozen HGz47 2
              have hfz47_3 := blk_frozen HGz47 3
              have hfz47_4 := blk_frozen HGz47 4
              have hfz47_5 := blk_frozen HGz47 5
              clear HGz47 hgz47
              go_wp2_with (first | ((with_reducible refine gate_callee (f := 69) rfl ?_); refine goesL_ (some 102) rfl rfl Tryd.func69 (by kernel_rfl) rfl #[.pointer (some ⟨g, 0, none⟩), .int .i64 a1] rfl (by (try simp only [List.map_toArray, List.map_cons, List.map_nil]); first | done | rfl | (simp only [List.length_drop, List.length_take]; rfl)) ?_; (with_reducible refine (bang_reader_place.calls kj37 g x1000_37 s0_1 x1002_37 (wrap64 (x1003_37 + 1)) x1004_37 x1005_37 a1 t330 false t332 t333 t334 t335 t336 w0 _ ?side1 ?side2 A43.out).mono ?_); (case side1 => repeat (first | (with_reducible first | exact HI0.out | apply IsS47.alloc | apply IsS47.drewN | apply IsS47.drew | apply IsS47.set_0 | apply IsS47.set_2 | apply IsS47.set_3 | apply IsS47.set_4 | apply IsS47.set_5) | exact HI0.out)); (case side2 => repeat (first | (with_reducible first | exact HB.out | apply below_alloc | apply pw_below_drewN | apply below_drew1 | refine below_set ?_ (IsS47.ge HI0.out)) | exact HB.out)); rintro e w48 ⟨rfl, hi, hb, hk⟩; refine ⟨_, rfl, ?_⟩; have n0_ := Aside0.mk (KeepBut.trans (by repeat (first | (with_reducible first | exact HK.out | apply KeepBut.set_ | apply keep_drewN | apply keep_drew | apply keep_alloc) | exact HK.out)) hk (.inl rfl)); have n1_ := Aside0.mk (hb); have n2_ := Aside0.mk (hi); clear HK; clear HB; clear HI0; have HK := n0_; have HB := n1_; have HI0 := n2_; clear n0_ n1_ n2_; (try clear hb); (try clear hb2); (try clear hk); (try clear hi)))
              go_ret3
              exact ⟨by first | rfl | (simp [errW_none, errW_some] <;> rfl) | (simp [*, errW_none, errW_some] <;> rfl), by repeat (first | (with_reducible first | exact HI0.out | apply IsS47.alloc | apply IsS47.drewN | apply IsS47.drew | apply IsS47.set_0 | apply IsS47.set_2 | apply IsS47.set_3 | apply IsS47.set_4 | apply IsS47.set_5) | exact HI0.out), by repeat (first | (with_reducible first | exact HB.out | apply below_alloc | apply pw_below_drewN | apply below_drew1 | refine below_set ?_ (IsS47.ge HI0.out)) | exact HB.out), by repeat (first | (with_reducible first | exact HK.out | apply KeepBut.set_ | apply keep_drewN | apply keep_drew | apply keep_alloc) | exact HK.out)⟩
            ·replace c42 := Bool.eq_false_iff.mpr c42
             subst c42
             have H1 : (if t312 = true then (some (t311, t311, true, x1000_37, x1002_37, x1003_37, x1004_37, x1005_37)) else ((bang_reader_has.f x1000_37 s0_1 x1002_37 x1003_37 x1004_37 x1005_37 45).bind fun bt337 => (if bt337.1 = true then ((bang_reader_place.f kj37 bt337.2.1 s0_1 bt337.2.2.1 (wrap64 (bt337.2.2.2.1 + 1)) bt337.2.2.2.2.1 bt337.2.2.2.2.2 a1).bind fun bt343 => (if bt343.2.1 = true then (some (0, bt343.1, true, bt343.2.2.1, bt343.2.2.2.1, bt343.2.2.2.2.1, bt343.2.2.2.2.2.1, bt343.2.2.2.2.2.2)) else (some (0, 0, false, bt343.2.2.1, bt343.2.2.2.1, s0_3, bt343.2.2.2.2.2.1, bt343.2.2.2.2.2.2)))) else (some (0, 0, false, bt337.2.1, bt337.2.2.1, s0_3, bt337.2.2.2.2.1, bt337.2.2.2.2.2))))) = some (r1, r2, r3, r4, r5, r6, r7, r8) := by rw [if_neg (show ¬ (false = true) by decide)] at H; exact H
             clear H
             have H := H1
             clear H1
             by_cases c49 : t312 = true
             ·subst c49
              have H1 : (some (t311, t311, true, x1000_37, x1002_37, x1003_37, x1004_37, x1005_37)) = some (r1, r2, r3, r4, r5, r6, r7, r8) := by rw [if_pos rfl] at H; exact H
              clear H
              have H := H1
              clear H1
              simp only [Option.some.injEq, Prod.mk.injEq] at H
              obtain ⟨rfl, rfl, rfl, rfl, rfl, rfl, rfl, rfl⟩ := H
              go_wp2
              go_ret3
              exact ⟨by first | rfl | (simp [errW_none, errW_some] <;> rfl) | (simp [*, errW_none, errW_some] <;> rfl), by repeat (first | (with_reducible first | exact HI0.out | apply IsS47.alloc | apply IsS47.drewN | apply IsS47.drew | apply IsS47.set_0 | apply IsS47.set_2 | apply IsS47.set_3 | apply IsS47.set_4 | apply IsS47.set_5) | exact HI0.out), by repeat (first | (with_reducible first | exact HB.out | apply below_alloc | apply pw_below_drewN | apply below_drew1 | refine below_set ?_ (IsS47.ge HI0.out)) | exact HB.out), by repeat (first | (with_reducible first | exact HK.out | apply KeepBut.set_ | apply keep_drewN | apply keep_drew | apply keep_alloc) | exact HK.out)⟩
             ·replace c49 := Bool.eq_false_iff.mpr c49
              subst c49
              have H1 : ((bang_reader_has.f x1000_37 s0_1 x1002_37 x1003_37 x1004_37 x1005_37 45).bind fun bt337 => (if bt337.1 = true then ((bang_reader_place.f kj37 bt337.2.1 s0_1 bt337.2.2.1 (wrap64 (bt337.2.2.2.1 + 1)) bt337.2.2.2.2.1 bt337.2.2.2.2.2 a1).bind fun bt343 => (if bt343.2.1 = true then (some (0, bt343.1, true, bt343.2.2.1, bt343.2.2.2.1, bt343.2.2.2.2.1, bt343.2.2.2.2.2.1, bt343.2.2.2.2.2.2)) else (some (0, 0, false, bt343.2.2.1, bt343.2.2.2.1, s0_3, bt343.2.2.2.2.2.1, bt343.2.2.2.2.2.2)))) else (some (0, 0, false, bt337.2.1, bt337.2.2.1, s0_3, bt337.2.2.2.2.1, bt337.2.2.2.2.2)))) = some (r1, r2, r3, r4, r5, r6, r7, r8) := by rw [if_neg (show ¬ (false = true) by decide)] at H; exact H
              clear H
              have H := H1
              clear H1
              replace H := Option.bind_eq_some_iff.mp H
              obtain ⟨⟨t337, t338, t339, t340, t341, t342⟩, A500, H⟩ := H
              replace H : (if t337 = true then ((bang_reader_place.f kj37 t338 s0_1 t339 (wrap64 (t340 + 1)) t341 t342 a1).bind fun bt343 => (if bt343.2.1 = true then (some (0, bt343.1, true, bt343.2.2.1, bt343.2.2.2.1, bt343.2.2.2.2.1, bt343.2.2.2.2.2.1, bt343.2.2.2.2.2.2)) else (some (0, 0, false, bt343.2.2.1, bt343.2.2.2.1, s0_3, bt343.2.2.2.2.2.1, bt343.2.2.2.2.2.2)))) else (some (0, 0, false, t338, t339, s0_3, t341, t342))) = some (r1, r2, r3, r4, r5, r6, r7, r8) := H
              have A50 := Aside0.mk A500
              clear A500
              by_cases c51 : t337 = true
              ·subst c51
               have H1 : ((bang_reader_place.f kj37 t338 s0_1 t339 (wrap64 (t340 + 1)) t341 t342 a1).bind fun bt343 => (if bt343.2.1 = true then (some (0, bt343.1, true, bt343.2.2.1, bt343.2.2.2.1, bt343.2.2.2.2.1, bt343.2.2.2.2.2.1, bt343.2.2.2.2.2.2)) else (some (0, 0, false, bt343.2.2.1, bt343.2.2.2.1, s0_3, bt343.2.2.2.2.2.1, bt343.2.2.2.2.2.2)))) = some (r1, r2, r3, r4, r5, r6, r7, r8) := by rw [if_pos rfl] at H; exact H
               clear H
               have H := H1
               clear H1
               replace H := Option.bind_eq_some_iff.mp H
               obtain ⟨⟨t343, t344, t345, t346, t347, t348, t349⟩, A520, H⟩ := H
               replace H : (if t344 = true then (some (0, t343, true, t345, t346, t347, t348, t349)) else (some (0, 0, false, t345, t346, s0_3, t348, t349))) = some (r1, r2, r3, r4, r5, r6, r7, r8) := H
               have A52 := Aside0.mk A520
               clear A520
               by_cases c53 : t344 = true
               ·subst c53
                have H1 : (some (0, t343, true, t345, t346, t347, t348, t349)) = some (r1, r2, r3, r4, r5, r6, r7, r8) := by rw [if_pos rfl] at H; exact H
                clear H
                have H := H1
                clear H1
                simp only [Option.some.injEq, Prod.mk.injEq] at H
                obtain ⟨rfl, rfl, rfl, rfl, rfl, rfl, rfl, rfl⟩ := H
                go_wp2_with (first | ((with_reducible refine gate_callee (f := 36) rfl ?_); refine goesL_ (some 117) rfl rfl Tryd.func36 (by kernel_rfl) rfl #[.pointer (some ⟨g, 0, none⟩), .int .u8 45] rfl (by (try simp only [List.map_toArray, List.map_cons, List.map_nil]); first | done | rfl | (simp only [List.length_drop, List.length_take]; rfl)) ?_; (with_reducible refine (bang_reader_has.calls g x1000_37 s0_1 x1002_37 x1003_37 x1004_37 x1005_37 45 true t338 t339 t340 t341 t342 w0 _ ?side1 ?side2 A50.out).mono ?_); (case side1 => repeat (first | (with_reducible first | exact HI0.out | apply IsS47.alloc | apply IsS47.drewN | apply IsS47.drew | apply IsS47.set_0 | apply IsS47.set_2 | apply IsS47.set_3 | apply IsS47.set_4 | apply IsS47.set_5) | exact HI0.out)); (case side2 => repeat (first | (with_reducible first | exact HB.out | apply below_alloc | apply pw_below_drewN | apply below_drew1 | refine below_set ?_ (IsS47.ge HI0.out)) | exact HB.out)); rintro e w54 ⟨rfl, hi, hb, hk⟩; refine ⟨_, rfl, ?_⟩; have n0_ := Aside0.mk (KeepBut.trans (by repeat (first | (with_reducible first | exact HK.out | apply KeepBut.set_ | apply keep_drewN | apply keep_drew | apply keep_alloc) | exact HK.out)) hk (.inl rfl)); have n1_ := Aside0.mk (hb); have n2_ := Aside0.mk (hi); clear HK; clear HB; clear HI0; have HK := n0_; have HB := n1_; have HI0 := n2_; clear n0_ n1_ n2_; (try clear hb); (try clear hb2); (try clear hk); (try clear hi); obtain ⟨ASz55_1, cSz55_1, HGz55, hgz55, ⟨HSz55_1, HCSz55_1⟩⟩ := HI0.out; have hcz55_0 := cellS47_0 HGz55; have hcz55_1 := cellS47_1 HGz55; have hcz55_2 := cellS47_2 HGz55; have hcz55_3 := cellS47_3 HGz55; have hcz55_4 := cellS47_4 HGz55; have hcz55_5 := cellS47_5 HGz55; have hfz55_0 := blk_frozen HGz55 0; have hfz55_2 := blk_frozen HGz55 2; have hfz55_3 := blk_frozen HGz55 3; have hfz55_4 := blk_frozen HGz55 4; have hfz55_5 := blk_frozen HGz55 5; clear HGz55 hgz55) | ((with_reducible refine gate_callee (f := 69) rfl ?_); refine goesL_ (some 128) rfl rfl Tryd.func69 (by kernel_rfl) rfl #[.pointer (some ⟨g, 0, none⟩), .int .i64 a1] rfl (by (try simp only [List.map_toArray, List.map_cons, List.map_nil]); first | done | rfl | (simp only [List.length_drop, List.length_take]; rfl)) ?_; (with_reducible refine (bang_reader_place.calls kj37 g t338 s0_1 t339 (wrap64 (t340 + 1)) t341 t342 a1 t343 true t345 t346 t347 t348 t349 w0 _ ?side1 ?side2 A52.out).mono ?_); (case side1 => repeat (first | (with_reducible first | exact HI0.out | apply IsS47.alloc | apply IsS47.drewN | apply IsS47.drew | apply IsS47.set_0 | apply IsS47.set_2 | apply IsS47.set_3 | apply IsS47.set_4 | apply IsS47.set_5) | exact HI0.out)); (case side2 => repeat (first | (with_reducible first | exact HB.out | apply below_alloc | apply pw_below_drewN | apply below_drew1 | refine below_set ?_ (IsS47.ge HI0.out)) | exact HB.out)); rintro e w56 ⟨rfl, hi, hb, hk⟩; refine ⟨_, rfl, ?_⟩; have n0_ := Aside0.mk (KeepBut.trans (by repeat (first | (with_reducible first | exact HK.out | apply KeepBut.set_ | apply keep_drewN | apply keep_drew | apply keep_alloc) | exact HK.out)) hk (.inl rfl)); have n1_ := Aside0.mk (hb); have n2_ := Aside0.mk (hi); clear HK; clear HB; clear HI0; have HK := n0_; have HB := n1_; have HI0 := n2_; clear n0_ n1_ n2_; (try clear hb); (try clear hb2); (try clear hk); (try clear hi)))
                go_ret3
                exact ⟨by first | rfl | (simp [errW_none, errW_some] <;> rfl) | (simp [*, errW_none, errW_some] <;> rfl), by repeat (first | (with_reducible first | exact HI0.out | apply IsS47.alloc | apply IsS47.drewN | apply IsS47.drew | apply IsS47.set_0 | apply IsS47.set_2 | apply IsS47.set_3 | apply IsS47.set_4 | apply IsS47.set_5) | exact HI0.out), by repeat (first | (with_reducible first | exact HB.out | apply below_alloc | apply pw_below_drewN | apply below_drew1 | refine below_set ?_ (IsS47.ge HI0.out)) | exact HB.out), by repeat (first | (with_reducible first | exact HK.out | apply KeepBut.set_ | apply keep_drewN | apply keep_drew | apply keep_alloc) | exact HK.out)⟩
               ·replace c53 := Bool.eq_false_iff.mpr c53
                subst c53
                have H1 : (some (0, 0, false, t345, t346, s0_3, t348, t349)) = some (r1, r2, r3, r4, r5, r6, r7, r8) := by rw [if_neg (show ¬ (false = true) by decide)] at H; exact H
                clear H
                have H := H1
                clear H1
                simp only [Option.some.injEq, Prod.mk.injEq] at H
                obtain ⟨rfl, rfl, rfl, rfl, rfl, rfl, rfl, rfl⟩ := H
                go_wp2_with (first | ((with_reducible refine gate_callee (f := 36) rfl ?_); refine goesL_ (some 117) rfl rfl Tryd.func36 (by kernel_rfl) rfl #[.pointer (some ⟨g, 0, none⟩), .int .u8 45] rfl (by (try simp only [List.map_toArray, List.map_cons, List.map_nil]); first | done | rfl | (simp only [List.length_drop, List.length_take]; rfl)) ?_; (with_reducible refine (bang_reader_has.calls g x1000_37 s0_1 x1002_37 x1003_37 x1004_37 x1005_37 45 true t338 t339 t340 t341 t342 w0 _ ?side1 ?side2 A50.out).mono ?_); (case side1 => repeat (first | (with_reducible first | exact HI0.out | apply IsS47.alloc | apply IsS47.drewN | apply IsS47.drew | apply IsS47.set_0 | apply IsS47.set_2 | apply IsS47.set_3 | apply IsS47.set_4 | apply IsS47.set_5) | exact HI0.out)); (case side2 => repeat (first | (with_reducible first | exact HB.out | apply below_alloc | apply pw_below_drewN | apply below_drew1 | refine below_set ?_ (IsS47.ge HI0.out)) | exact HB.out)); rintro e w57 ⟨rfl, hi, hb, hk⟩; refine ⟨_, rfl, ?_⟩; have n0_ := Aside0.mk (KeepBut.trans (by repeat (first | (with_reducible first | exact HK.out | apply KeepBut.set_ | apply keep_drewN | apply keep_drew | apply keep_alloc) | exact HK.out)) hk (.inl rfl)); have n1_ := Aside0.mk (hb); have n2_ := Aside0.mk (hi); clear HK; clear HB; clear HI0; have HK := n0_; have HB := n1_; have HI0 := n2_; clear n0_ n1_ n2_; (try clear hb); (try clear hb2); (try clear hk); (try clear hi); obtain ⟨ASz58_1, cSz58_1, HGz58, hgz58, ⟨HSz58_1, HCSz58_1⟩⟩ := HI0.out; have hcz58_0 := cellS47_0 HGz58; have hcz58_1 := cellS47_1 HGz58; have hcz58_2 := cellS47_2 HGz58; have hcz58_3 := cellS47_3 HGz58; have hcz58_4 := cellS47_4 HGz58; have hcz58_5 := cellS47_5 HGz58; have hfz58_0 := blk_frozen HGz58 0; have hfz58_2 := blk_frozen HGz58 2; have hfz58_3 := blk_frozen HGz58 3; have hfz58_4 := blk_frozen HGz58 4; have hfz58_5 := blk_frozen HGz58 5; clear HGz58 hgz58) | ((with_reducible refine gate_callee (f := 69) rfl ?_); refine goesL_ (some 128) rfl rfl Tryd.func69 (by kernel_rfl) rfl #[.pointer (some ⟨g, 0, none⟩), .int .i64 a1] rfl (by (try simp only [List.map_toArray, List.map_cons, List.map_nil]); first | done | rfl | (simp only [List.length_drop, List.length_take]; rfl)) ?_; (with_reducible refine (bang_reader_place.calls kj37 g t338 s0_1 t339 (wrap64 (t340 + 1)) t341 t342 a1 t343 false t345 t346 t347 t348 t349 w0 _ ?side1 ?side2 A52.out).mono ?_); (case side1 => repeat (first | (with_reducible first | exact HI0.out | apply IsS47.alloc | apply IsS47.drewN | apply IsS47.drew | apply IsS47.set_0 | apply IsS47.set_2 | apply IsS47.set_3 | apply IsS47.set_4 | apply IsS47.set_5) | exact HI0.out)); (case side2 => repeat (first | (with_reducible first | exact HB.out | apply below_alloc | apply pw_below_drewN | apply below_drew1 | refine below_set ?_ (IsS47.ge HI0.out)) | exact HB.out)); rintro e w59 ⟨rfl, hi, hb, hk⟩; refine ⟨_, rfl, ?_⟩; have n0_ := Aside0.mk (KeepBut.trans (by repeat (first | (with_reducible first | exact HK.out | apply KeepBut.set_ | apply keep_drewN | apply keep_drew | apply keep_alloc) | exact HK.out)) hk (.inl rfl)); have n1_ := Aside0.mk (hb); have n2_ := Aside0.mk (hi); clear HK; clear HB; clear HI0; have HK := n0_; have HB := n1_; have HI0 := n2_; clear n0_ n1_ n2_; (try clear hb); (try clear hb2); (try clear hk); (try clear hi); obtain ⟨ASz60_1, cSz60_1, HGz60, hgz60, ⟨HSz60_1, HCSz60_1⟩⟩ := HI0.out; have hcz60_0 := cellS47_0 HGz60; have hcz60_1 := cellS47_1 HGz60; have hcz60_2 := cellS47_2 HGz60; have hcz60_3 := cellS47_3 HGz60; have hcz60_4 := cellS47_4 HGz60; have hcz60_5 := cellS47_5 HGz60; have hfz60_0 := blk_frozen HGz60 0; have hfz60_2 := blk_frozen HGz60 2; have hfz60_3 := blk_frozen HGz60 3; have hfz60_4 := blk_frozen HGz60 4; have hfz60_5 := blk_frozen HGz60 5; clear HGz60 hgz60))
                go_ret3
                exact ⟨by first | rfl | (simp [errW_none, errW_some] <;> rfl) | (simp [*, errW_none, errW_some] <;> rfl), by repeat (first | (with_reducible first | exact HI0.out | apply IsS47.alloc | apply IsS47.drewN | apply IsS47.drew | apply IsS47.set_0 | apply IsS47.set_2 | apply IsS47.set_3 | apply IsS47.set_4 | apply IsS47.set_5) | exact HI0.out), by repeat (first | (with_reducible first | exact HB.out | apply below_alloc | apply pw_below_drewN | apply below_drew1 | refine below_set ?_ (IsS47.ge HI0.out)) | exact HB.out), by repeat (first | (with_reducible first | exact HK.out | apply KeepBut.set_ | apply keep_drewN | apply keep_drew | apply keep_alloc) | exact HK.out)⟩
              ·replace c51 := Bool.eq_false_iff.mpr c51
               subst c51
               have H1 : (some (0, 0, false, t338, t339, s0_3, t341, t342)) = some (r1, r2, r3, r4, r5, r6, r7, r8) := by rw [if_neg (show ¬ (false = true) by decide)] at H; exact H
               clear H
               have H := H1
               clear H1
               simp only [Option.some.injEq, Prod.mk.injEq] at H
               obtain ⟨rfl, rfl, rfl, rfl, rfl, rfl, rfl, rfl⟩ := H
               go_wp2_with (first | ((with_reducible refine gate_callee (f := 36) rfl ?_); refine goesL_ (some 117) rfl rfl Tryd.func36 (by kernel_rfl) rfl #[.pointer (some ⟨g, 0, none⟩), .int .u8 45] rfl (by (try simp only [List.map_toArray, List.map_cons, List.map_nil]); first | done | rfl | (simp only [List.length_drop, List.length_take]; rfl)) ?_; (with_reducible refine (bang_reader_has.calls g x1000_37 s0_1 x1002_37 x1003_37 x1004_37 x1005_37 45 false t338 t339 t340 t341 t342 w0 _ ?side1 ?side2 A50.out).mono ?_); (case side1 => repeat (first | (with_reducible first | exact HI0.out | apply IsS47.alloc | apply IsS47.drewN | apply IsS47.drew | apply IsS47.set_0 | apply IsS47.set_2 | apply IsS47.set_3 | apply IsS47.set_4 | apply IsS47.set_5) | exact HI0.out)); (case side2 => repeat (first | (with_reducible first | exact HB.out | apply below_alloc | apply pw_below_drewN | apply below_drew1 | refine below_set ?_ (IsS47.ge HI0.out)) | exact HB.out)); rintro e w61 ⟨rfl, hi, hb, hk⟩; refine ⟨_, rfl, ?_⟩; have n0_ := Aside0.mk (KeepBut.trans (by repeat (first | (with_reducible first | exact HK.out | apply KeepBut.set_ | apply keep_drewN | apply keep_drew | apply keep_alloc) | exact HK.out)) hk (.inl rfl)); have n1_ := Aside0.mk (hb); have n2_ := Aside0.mk (hi); clear HK; clear HB; clear HI0; have HK := n0_; have HB := n1_; have HI0 := n2_; clear n0_ n1_ n2_; (try clear hb); (try clear hb2); (try clear hk); (try clear hi); obtain ⟨ASz62_1, cSz62_1, HGz62, hgz62, ⟨HSz62_1, HCSz62_1⟩⟩ := HI0.out; have hcz62_0 := cellS47_0 HGz62; have hcz62_1 := cellS47_1 HGz62; have hcz62_2 := cellS47_2 HGz62; have hcz62_3 := cellS47_3 HGz62; have hcz62_4 := cellS47_4 HGz62; have hcz62_5 := cellS47_5 HGz62; have hfz62_0 := blk_frozen HGz62 0; have hfz62_2 := blk_frozen HGz62 2; have hfz62_3 := blk_frozen HGz62 3; have hfz62_4 := blk_frozen HGz62 4; have hfz62_5 := blk_frozen HGz62 5; clear HGz62 hgz62))
               go_ret3
               exact ⟨by first | rfl | (simp [errW_none, errW_some] <;> rfl) | (simp [*, errW_none, errW_some] <;> rfl), by repeat (first | (with_reducible first | exact HI0.out | apply IsS47.alloc | apply IsS47.drewN | apply IsS47.drew | apply IsS47.set_0 | apply IsS47.set_2 | apply IsS47.set_3 | apply IsS47.set_4 | apply IsS47.set_5) | exact HI0.out), by repeat (first | (with_reducible first | exact HB.out | apply below_alloc | apply pw_below_drewN | apply below_drew1 | refine below_set ?_ (IsS47.ge HI0.out)) | exact HB.out), by repeat (first | (with_reducible first | exact HK.out | apply KeepBut.set_ | apply keep_drewN | apply keep_drew | apply keep_alloc) | exact HK.out)⟩
     ·replace c18 := Bool.eq_false_iff.mpr c18
      subst c18
      have H1 : (some (0, 0, false, t300, t301, t302, t303, t304)) = some (r1, r2, r3, r4, r5, r6, r7, r8) := by rw [if_neg (show ¬ (false = true) by decide)] at H; exact H
      clear H
      have H := H1
      clear H1
      simp only [Option.some.injEq, Prod.mk.injEq] at H
      obtain ⟨rfl, rfl, rfl, rfl, rfl, rfl, rfl, rfl⟩ := H
      go_wp2_with (first | ((with_reducible refine gate_callee (f := 36) rfl ?_); refine goesL_ (some 35) rfl rfl Tryd.func36 (by kernel_rfl) rfl #[.pointer (some ⟨g, 0, none⟩), .int .u8 42] rfl (by (try simp only [List.map_toArray, List.map_cons, List.map_nil]); first | done | rfl | (simp only [List.length_drop, List.length_take]; rfl)) ?_; (with_reducible refine (bang_reader_has.calls g x1000_3 s0_1 x1002_3 x1003_3 x1004_3 x1005_3 42 false t294 t295 t296 t297 t298 w0 _ ?side1 ?side2 A13.out).mono ?_); (case side1 => repeat (first | (with_reducible first | exact HI0.out | apply IsS47.alloc | apply IsS47.drewN | apply IsS47.drew | apply IsS47.set_0 | apply IsS47.set_2 | apply IsS47.set_3 | apply IsS47.set_4 | apply IsS47.set_5) | exact HI0.out)); (case side2 => repeat (first | (with_reducible first | exact HB.out | apply below_alloc | apply pw_below_drewN | apply below_drew1 | refine below_set ?_ (IsS47.ge HI0.out)) | exact HB.out)); rintro e w63 ⟨rfl, hi, hb, hk⟩; refine ⟨_, rfl, ?_⟩; have n0_ := Aside0.mk (KeepBut.trans (by repeat (first | (with_reducible first | exact HK.out | apply KeepBut.set_ | apply keep_drewN | apply keep_drew | apply keep_alloc) | exact HK.out)) hk (.inl rfl)); have n1_ := Aside0.mk (hb); have n2_ := Aside0.mk (hi); clear HK; clear HB; clear HI0; have HK := n0_; have HB := n1_; have HI0 := n2_; clear n0_ n1_ n2_; (try clear hb); (try clear hb2); (try clear hk); (try clear hi)) | ((with_reducible refine gate_callee (f := 36) rfl ?_); refine goesL_ (some 46) rfl rfl Tryd.func36 (by kernel_rfl) rfl #[.pointer (some ⟨g, 0, none⟩), .int .u8 58] rfl (by (try simp only [List.map_toArray, List.map_cons, List.map_nil]); first | done | rfl | (simp only [List.length_drop, List.length_take]; rfl)) ?_; (with_reducible refine (bang_reader_has.calls g t294 s0_1 t295 t296 t297 t298 58 false t300 t301 t302 t303 t304 w0 _ ?side1 ?side2 A17.out).mono ?_); (case side1 => repeat (first | (with_reducible first | exact HI0.out | apply IsS47.alloc | apply IsS47.drewN | apply IsS47.drew | apply IsS47.set_0 | apply IsS47.set_2 | apply IsS47.set_3 | apply IsS47.set_4 | apply IsS47.set_5) | exact HI0.out)); (case side2 => repeat (first | (with_reducible first | exact HB.out | apply below_alloc | apply pw_below_drewN | apply below_drew1 | refine below_set ?_ (IsS47.ge HI0.out)) | exact HB.out)); rintro e w64 ⟨rfl, hi, hb, hk⟩; refine ⟨_, rfl, ?_⟩; have n0_ := Aside0.mk (KeepBut.trans (by repeat (first | (with_reducible first | exact HK.out | apply KeepBut.set_ | apply keep_drewN | apply keep_drew | apply keep_alloc) | exact HK.out)) hk (.inl rfl)); have n1_ := Aside0.mk (hb); have n2_ := Aside0.mk (hi); clear HK; clear HB; clear HI0; have HK := n0_; have HB := n1_; have HI0 := n2_; clear n0_ n1_ n2_; (try clear hb); (try clear hb2); (try clear hk); (try clear hi)))
      go_ret3
      exact ⟨by first | rfl | (simp [errW_none, errW_some] <;> rfl) | (simp [*, errW_none, errW_some] <;> rfl), by repeat (first | (with_reducible first | exact HI0.out | apply IsS47.alloc | apply IsS47.drewN | apply IsS47.drew | apply IsS47.set_0 | apply IsS47.set_2 | apply IsS47.set_3 | apply IsS47.set_4 | apply IsS47.set_5) | exact HI0.out), by repeat (first | (with_reducible first | exact HB.out | apply below_alloc | apply pw_below_drewN | apply below_drew1 | refine below_set ?_ (IsS47.ge HI0.out)) | exact HB.out), by repeat (first | (with_reducible first | exact HK.out | apply KeepBut.set_ | apply keep_drewN | apply keep_drew | apply keep_alloc) | exact HK.out)⟩

end Go.Proofs.YthoanbjklgoggaaDoor.PAll
