-- Written for this claim by a program of the session (wip/ext).
import Derived.Test.YthoanbjklgoggaaDoorPAllx0
import Derived.Test.YthoanbjklgoggaaDoorPAllx11
import Derived.Test.YthoanbjklgoggaaDoorPAllx12
namespace Go.Proofs.YthoanbjklgoggaaDoor.PAll
open Go.RowKit Go.Proofs.YthoanbjklgoggaaDoorW.PrintWords Go.Proofs.YthoanbjklgoggaaDoorW.PrintLast Go.Proofs.YthoanbjklgoggaaDoorW.PrintMore
attribute [local go_sem] max2_int min2_int max_two min_two max_three min_three max_four min_four   -- for this text's walks alone
set_option linter.unusedVariables false
set_option linter.unusedSimpArgs false

/-! ### bang_reader_number: function 48 -/
def bang_reader_number.l0 : Nat → Int → Int → Int → List ByteArray → ByteArray → Int → ByteArray → Bool → Option (Int × Int × ByteArray × Int × ByteArray × Bool)
 | 0, _, _, _, _, _, _, _, _ => none
 | k + 1, x3, x4, x1000, x1001, x1002, x1003, x1004, x1005 => (bang_reader_digit.f x1000 x1001 x1002 x1003 x1004 x1005 x1003).bind fun bt130 => (if bt130.1 = true then (if (wrap64 (bt130.2.2.2.1 - x3)) < 9 then (if 0 ≤ bt130.2.2.2.1 then (if bt130.2.2.2.1 < (bt130.2.2.1.size : Int) then (bang_reader_number.l0 k x3 (wrap64 ((wrap64 (10 * x4)) + (((bt bt130.2.2.1 bt130.2.2.2.1) - 48) % 256))) bt130.2.1 x1001 bt130.2.2.1 (wrap64 (bt130.2.2.2.1 + 1)) bt130.2.2.2.2.1 bt130.2.2.2.2.2) else (none)) else (none)) else (bang_reader_number.l0 k x3 x4 bt130.2.1 x1001 bt130.2.2.1 (wrap64 (bt130.2.2.2.1 + 1)) bt130.2.2.2.2.1 bt130.2.2.2.2.2)) else (if (wrap64 (bt130.2.2.2.1 - x3)) > 9 then (some (999999999, bt130.2.1, bt130.2.2.1, bt130.2.2.2.1, bt130.2.2.2.2.1, bt130.2.2.2.2.2)) else (some (x4, bt130.2.1, bt130.2.2.1, bt130.2.2.2.1, bt130.2.2.2.2.1, bt130.2.2.2.2.2))))
def bang_reader_number.f (k : Nat) (s0_0 : Int) (s0_1 : List ByteArray) (s0_2 : ByteArray) (s0_3 : Int) (s0_4 : ByteArray) (s0_5 : Bool) : Option (Int × Int × ByteArray × Int × ByteArray × Bool) := bang_reader_number.l0 k s0_3 0 s0_0 s0_1 s0_2 s0_3 s0_4 s0_5
theorem bang_reader_number.mono_l : ∀ k, (∀ y0 y1 y2 y3 y4 y5 y6 y7, LeO (bang_reader_number.l0 k y0 y1 y2 y3 y4 y5 y6 y7) (bang_reader_number.l0 (k + 1) y0 y1 y2 y3 y4 y5 y6 y7))
 | 0 => fun _ _ _ _ _ _ _ _ r h => by simp [bang_reader_number.l0] at h
 | k + 1 => by
  have ih0 := bang_reader_number.mono_l k
  ·intro y0 y1 y2 y3 y4 y5 y6 y7
   unfold bang_reader_number.l0
   repeat' first
   | (with_reducible exact ih0 _ _ _ _ _ _ _ _)
   | (with_reducible exact LeO.refl _)
   | (with_reducible exact LeO.none _)
   | (with_reducible refine LeO.ite ?_ ?_)
   | (with_reducible refine LeO.bind ?_ (fun _ => ?_))
   | exact ih0 _ _ _ _ _ _ _ _
   | exact LeO.none _
   | refine LeO.ite ?_ ?_
   | refine LeO.bind ?_ (fun _ => ?_)
theorem bang_reader_number.mono : ∀ a0 a1 a2 a3 a4 a5 k, LeO (bang_reader_number.f k a0 a1 a2 a3 a4 a5) (bang_reader_number.f (k + 1) a0 a1 a2 a3 a4 a5) := by
 intro a0 a1 a2 a3 a4 a5 k
 have ih0 := bang_reader_number.mono_l k
 unfold bang_reader_number.f
 repeat' first
   | (with_reducible exact ih0 _ _ _ _ _ _ _ _)
   | (with_reducible exact LeO.refl _)
   | (with_reducible exact LeO.none _)
   | (with_reducible refine LeO.ite ?_ ?_)
   | (with_reducible refine LeO.bind ?_ (fun _ => ?_))
   | exact ih0 _ _ _ _ _ _ _ _
   | exact LeO.none _
   | refine LeO.ite ?_ ?_
   | refine LeO.bind ?_ (fun _ => ?_)
set_option maxHeartbeats 3000000 in
set_option maxRecDepth 100000 in
theorem bang_reader_number.calls (k : Nat) (g : Nat) (s0_0 : Int) (s0_1 : List ByteArray) (s0_2 : ByteArray) (s0_3 : Int) (s0_4 : ByteArray) (s0_5 : Bool) (r1 : Int) (r2 : Int) (r3 : ByteArray) (r4 : Int) (r5 : ByteArray) (r6 : Bool) (w0 w : World) (hI : IsS47 w0 w g s0_0 s0_1 s0_2 s0_3 s0_4 s0_5) (hB : Below w0.heap.size w0 w) (h : bang_reader_number.f k s0_0 s0_1 s0_2 s0_3 s0_4 s0_5 = some (r1, r2, r3, r4, r5, r6)) :
  Calls Tryd.prog 48 #[.pointer (some ⟨g, 0, none⟩)] w fun e w' => e = .returned (.int .i64 r1) ∧ IsS47 w0 w' g r2 s0_1 r3 r4 r5 r6 ∧ Below w0.heap.size w0 w' ∧ KeepBut w w' g none := by
 have HI0 := Aside0.mk hI
 have HK := Aside0.mk (KeepBut.refl w g none)
 have HL := Aside0.mk hB.size
 clear hI
 have HW0 := Aside0.mk hB.size
 have HB := Aside0.mk hB
 clear hB
 have H : (bang_reader_number.l0 k s0_3 0 s0_0 s0_1 s0_2 s0_3 s0_4 s0_5) = some (r1, r2, r3, r4, r5, r6) := h
 clear h
 have H' := Aside0.mk H
 clear H
 obtain ⟨ASz2_1, cSz2_1, HGz2, hgz2, ⟨HSz2_1, HCSz2_1⟩⟩ := HI0.out
 have hcz2_0 := cellS47_0 HGz2
 have hcz2_1 := cellS47_1 HGz2
 have hcz2_2 := cellS47_2 HGz2
 have hcz2_3 := cellS47_3 HGz2
 have hcz2_4 := cellS47_4 HGz2
 have hcz2_5 := cellS47_5 HGz2
 have hfz2_0 := blk_frozen HGz2 0
 have hfz2_2 := blk_frozen HGz2 2
 have hfz2_3 := blk_frozen HGz2 3
 have hfz2_4 := blk_frozen HGz2 4
 have hfz2_5 := blk_frozen HGz2 5
 clear HGz2 hgz2
 go_enter Tryd.func48, Tryd.ntmps48
 go_wp2
 repeat (go_quiet (fail); try go_wp2)
 go_loopg [4] k (fun kq v4 w' => ∃ (x4_1 : Int) (x1000_1 : Int) (x1002_1 : ByteArray) (x1003_1 : Int) (x1004_1 : ByteArray) (x1005_1 : Bool), v4 = .int .i64 x4_1 ∧ Aside0 (bang_reader_number.l0 kq s0_3 x4_1 x1000_1 s0_1 x1002_1 x1003_1 x1004_1 x1005_1 = some (r1, r2, r3, r4, r5, r6)) ∧ Aside0 (kq ≤ k) ∧ Aside0 (IsS47 w0 w' g x1000_1 s0_1 x1002_1 x1003_1 x1004_1 x1005_1) ∧ Aside0 (KeepBut w w' g none) ∧ Aside0 (Below w0.heap.size w0 w'))
 case atStart => exact ⟨(0), (s0_0), (s0_2), (s0_3), (s0_4), (s0_5), (by first | rfl | (simp; done) | (simp [*]; done)), H', ⟨Nat.le_refl _⟩, ⟨by repeat (first | (with_reducible first | exact HI0.out | apply IsS47.alloc | apply IsS47.drewN | apply IsS47.drew | apply IsS47.set_0 | apply IsS47.set_2 | apply IsS47.set_3 | apply IsS47.set_4 | apply IsS47.set_5) | exact HI0.out)⟩, ⟨by repeat (first | (with_reducible first | exact HK.out | apply KeepBut.set_ | apply keep_drewN | apply keep_drew | apply keep_alloc) | exact HK.out)⟩, ⟨by repeat (first | (with_reducible first | exact HB.out | apply below_alloc | apply pw_below_drewN | apply below_drew1 | refine below_set ?_ (IsS47.ge HI0.out)) | exact HB.out)⟩⟩
 case round =>
  clear H'
  try clear p2
  try clear hcz2_0
  try clear hcz2_1
  try clear hcz2_2
  try clear hcz2_3
  try clear hcz2_4
  try clear hcz2_5
  try clear hfz2_0
  try clear hfz2_2
  try clear hfz2_3
  try clear hfz2_4
  try clear hfz2_5
  obtain ⟨x4_1, x1000_1, x1002_1, x1003_1, x1004_1, x1005_1, rfl, HA, HK1, HI0, HK, HB⟩ := hrel
  cases gk with
  | zero => exact absurd HA.out (by simp [bang_reader_number.l0])
  | succ k1 =>
   have H := HA.out
   clear HA
   simp only [bang_reader_number.l0] at H
   replace H := Option.bind_eq_some_iff.mp H
   obtain ⟨⟨t130, t131, t132, t133, t134, t135⟩, A30, H⟩ := H
   replace H : (if t130 = true then (if (wrap64 (t133 - s0_3)) < 9 then (if 0 ≤ t133 then (if t133 < (t132.size : Int) then (bang_reader_number.l0 k1 s0_3 (wrap64 ((wrap64 (10 * x4_1)) + (((bt t132 t133) - 48) % 256))) t131 s0_1 t132 (wrap64 (t133 + 1)) t134 t135) else (none)) else (none)) else (bang_reader_number.l0 k1 s0_3 x4_1 t131 s0_1 t132 (wrap64 (t133 + 1)) t134 t135)) else (if (wrap64 (t133 - s0_3)) > 9 then (some (999999999, t131, t132, t133, t134, t135)) else (some (x4_1, t131, t132, t133, t134, t135)))) = some (r1, r2, r3, r4, r5, r6) := H
   have A3 := Aside0.mk A30
   clear A30
   by_cases c4 : t130 = true
   ·subst c4
    have H1 : (if (wrap64 (t133 - s0_3)) < 9 then (if 0 ≤ t133 then (if t133 < (t132.size : Int) then (bang_reader_number.l0 k1 s0_3 (wrap64 ((wrap64 (10 * x4_1)) + (((bt t132 t133) - 48) % 256))) t131 s0_1 t132 (wrap64 (t133 + 1)) t134 t135) else (none)) else (none)) else (bang_reader_number.l0 k1 s0_3 x4_1 t131 s0_1 t132 (wrap64 (t133 + 1)) t134 t135)) = some (r1, r2, r3, r4, r5, r6) := by rw [if_pos rfl] at H; exact H
    clear H
    have H := H1
    clear H1
    by_cases c5 : (wrap64 (t133 - s0_3)) < 9
    ·rw [if_pos c5] at H
     have c5b0 : decide ((wrap64 (t133 - s0_3)) < 9) = true := decide_eq_true c5
     clear c5
     by_cases c6 : 0 ≤ t133
     ·rw [if_pos c6] at H
      have c6b0 : decide (0 ≤ t133) = true := decide_eq_true c6
      clear c6
      by_cases c7 : t133 < (t132.size : Int)
      ·rw [if_pos c7] at H
       have c7b0 : decide (t133 < (t132.size : Int)) = true := decide_eq_true c7
       clear c7
       have H' := Aside0.mk H
       clear H
       obtain ⟨ASz9_1, cSz9_1, HGz9, hgz9, ⟨HSz9_1, HCSz9_1⟩⟩ := HI0.out
       have hcz9_0 := cellS47_0 HGz9
       have hcz9_1 := cellS47_1 HGz9
       have hcz9_2 := cellS47_2 HGz9
       have hcz9_3 := cellS47_3 HGz9
       have hcz9_4 := cellS47_4 HGz9
       have hcz9_5 := cellS47_5 HGz9
       have hfz9_0 := blk_frozen HGz9 0
       have hfz9_2 := blk_frozen HGz9 2
       have hfz9_3 := blk_frozen HGz9 3
       have hfz9_4 := blk_frozen HGz9 4
       have hfz9_5 := blk_frozen HGz9 5
       clear HGz9 hgz9
       go_wp2_with (first | (go_at_call 47; (with_reducible refine (bang_reader_digit.calls g x1000_1 s0_1 x1002_1 x1003_1 x1004_1 x1005_1 x1003_1 true t131 t132 t133 t134 t135 w0 _ ?side1 ?side2 A3.out).mono ?_); (case side1 => repeat (first | (with_reducible first | exact HI0.out | apply IsS47.alloc | apply IsS47.drewN | apply IsS47.drew | apply IsS47.set_0 | apply IsS47.set_2 | apply IsS47.set_3 | apply IsS47.set_4 | apply IsS47.set_5) | exact HI0.out)); (case side2 => repeat (first | (with_reducible first | exact HB.out | apply below_alloc | apply pw_below_drewN | apply below_drew1 | refine below_set ?_ (IsS47.ge HI0.out)) | exact HB.out)); rintro e w10 ⟨rfl, hi, hb, hk⟩; have n0_ := Aside0.mk (KeepBut.trans (by repeat (first | (with_reducible first | exact HK.out | apply KeepBut.set_ | apply keep_drewN | apply keep_drew | apply keep_alloc) | exact HK.out)) hk (.inl rfl)); have n1_ := Aside0.mk (hb); have n2_ := Aside0.mk (hi); clear HK; clear HB; clear HI0; have HK := n0_; have HB := n1_; have HI0 := n2_; clear n0_ n1_ n2_; (try clear hb); (try clear hb2); (try clear hk); (try clear hi); obtain ⟨ASz11_1, cSz11_1, HGz11, hgz11, ⟨HSz11_1, HCSz11_1⟩⟩ := HI0.out; have hcz11_0 := cellS47_0 HGz11; have hcz11_1 := cellS47_1 HGz11; have hcz11_2 := cellS47_2 HGz11; have hcz11_3 := cellS47_3 HGz11; have hcz11_4 := cellS47_4 HGz11; have hcz11_5 := cellS47_5 HGz11; have hfz11_0 := blk_frozen HGz11 0; have hfz11_2 := blk_frozen HGz11 2; have hfz11_3 := blk_frozen HGz11 3; have hfz11_4 := blk_frozen HGz11 4; have hfz11_5 := blk_frozen HGz11 5; clear HGz11 hgz11; have p8 : 0 ≤ (t133 : Int) := of_decide_eq_true (by first | (with_reducible assumption) | assumption); have q8 : t133 < (t132.size : Int) := of_decide_eq_true (by first | (with_reducible assumption) | assumption); have hx8 := bt_at t132 t133; replace p8 := eq_true p8; replace q8 := eq_true q8))
       repeat (go_quiet (first | (go_at_call 47; (with_reducible refine (bang_reader_digit.calls g x1000_1 s0_1 x1002_1 x1003_1 x1004_1 x1005_1 x1003_1 true t131 t132 t133 t134 t135 w0 _ ?side1 ?side2 A3.out).mono ?_); (case side1 => repeat (first | (with_reducible first | exact HI0.out | apply IsS47.alloc | apply IsS47.drewN | apply IsS47.drew | apply IsS47.set_0 | apply IsS47.set_2 | apply IsS47.set_3 | apply IsS47.set_4 | apply IsS47.set_5) | exact HI0.out)); (case side2 => repeat (first | (with_reducible first | exact HB.out | apply below_alloc | apply pw_below_drewN | apply below_drew1 | refine below_set ?_ (IsS47.ge HI0.out)) | exact HB.out)); rintro e w10 ⟨rfl, hi, hb, hk⟩; have n0_ := Aside0.mk (KeepBut.trans (by repeat (first | (with_reducible first | exact HK.out | apply KeepBut.set_ | apply keep_drewN | apply keep_drew | apply keep_alloc) | exact HK.out)) hk (.inl rfl)); have n1_ := Aside0.mk (hb); have n2_ := Aside0.mk (hi); clear HK; clear HB; clear HI0; have HK := n0_; have HB := n1_; have HI0 := n2_; clear n0_ n1_ n2_; (try clear hb); (try clear hb2); (try clear hk); (try clear hi); obtain ⟨ASz11_1, cSz11_1, HGz11, hgz11, ⟨HSz11_1, HCSz11_1⟩⟩ := HI0.out; have hcz11_0 := cellS47_0 HGz11; have hcz11_1 := cellS47_1 HGz11; have hcz11_2 := cellS47_2 HGz11; have hcz11_3 := cellS47_3 HGz11; have hcz11_4 := cellS47_4 HGz11; have hcz11_5 := cellS47_5 HGz11; have hfz11_0 := blk_frozen HGz11 0; have hfz11_2 := blk_frozen HGz11 2; have hfz11_3 := blk_frozen HGz11 3; have hfz11_4 := blk_frozen HGz11 4; have hfz11_5 := blk_frozen HGz11 5; clear HGz11 hgz11; have p8 : 0 ≤ (t133 : Int) := of_decide_eq_true (by first | (with_reducible assumption) | assumption); have q8 : t133 < (t132.size : Int) := of_decide_eq_true (by first | (with_reducible assumption) | assumption); have hx8 := bt_at t132 t133; replace p8 := eq_true p8; replace q8 := eq_true q8)); try go_wp2_with (first | (go_at_call 47; (with_reducible refine (bang_reader_digit.calls g x1000_1 s0_1 x1002_1 x1003_1 x1004_1 x1005_1 x1003_1 true t131 t132 t133 t134 t135 w0 _ ?side1 ?side2 A3.out).mono ?_); (case side1 => repeat (first | (with_reducible first | exact HI0.out | apply IsS47.alloc | apply IsS47.drewN | apply IsS47.drew | apply IsS47.set_0 | apply IsS47.set_2 | apply IsS47.set_3 | apply IsS47.set_4 | apply IsS47.set_5) | exact HI0.out)); (case side2 => repeat (first | (with_reducible first | exact HB.out | apply below_alloc | apply pw_below_drewN | apply below_drew1 | refine below_set ?_ (IsS47.ge HI0.out)) | exact HB.out)); rintro e w10 ⟨rfl, hi, hb, hk⟩; have n0_ := Aside0.mk (KeepBut.trans (by repeat (first | (with_reducible first | exact HK.out | apply KeepBut.set_ | apply keep_drewN | apply keep_drew | apply keep_alloc) | exact HK.out)) hk (.inl rfl)); have n1_ := Aside0.mk (hb); have n2_ := Aside0.mk (hi); clear HK; clear HB; clear HI0; have HK := n0_; have HB := n1_; have HI0 := n2_; clear n0_ n1_ n2_; (try clear hb); (try clear hb2); (try clear hk); (try clear hi); obtain ⟨ASz11_1, cSz11_1, HGz11, hgz11, ⟨HSz11_1, HCSz11_1⟩⟩ := HI0.out; have hcz11_0 := cellS47_0 HGz11; have hcz11_1 := cellS47_1 HGz11; have hcz11_2 := cellS47_2 HGz11; have hcz11_3 := cellS47_3 HGz11; have hcz11_4 := cellS47_4 HGz11; have hcz11_5 := cellS47_5 HGz11; have hfz11_0 := blk_frozen HGz11 0; have hfz11_2 := blk_frozen HGz11 2; have hfz11_3 := blk_frozen HGz11 3; have hfz11_4 := blk_frozen HGz11 4; have hfz11_5 := blk_frozen HGz11 5; clear HGz11 hgz11; have p8 : 0 ≤ (t133 : Int) := of_decide_eq_true (by first | (with_reducible assumption) | assumption); have q8 : t133 < (t132.size : Int) := of_decide_eq_true (by first | (with_reducible assumption) | assumption); have hx8 := bt_at t132 t133; replace p8 := eq_true p8; replace q8 := eq_true q8)))
       go_roundg k1
       case measure => have := HK1.out; omega
       case rel => exact ⟨(wrap64 ((wrap64 (10 * x4_1)) + (((bt t132 t133) - 48) % 256))), (t131), (t132), (wrap64 (t133 + 1)), (t134), (t135), (by first | rfl | (simp; done) | (simp [*]; done)), H', ⟨by have := HK1.out; omega⟩, ⟨by repeat (first | (with_reducible first | exact HI0.out | apply IsS47.alloc | apply IsS47.drewN | apply IsS47.drew | apply IsS47.set_0 | apply IsS47.set_2 | apply IsS47.set_3 | apply IsS47.set_4 | apply IsS47.set_5) | exact HI0.out)⟩, ⟨by repeat (first | (with_reducible first | exact HK.out | apply KeepBut.set_ | apply keep_drewN | apply keep_drew | apply keep_alloc) | exact HK.out)⟩, ⟨by repeat (first | (with_reducible first | exact HB.out | apply below_alloc | apply pw_below_drewN | apply below_drew1 | refine below_set ?_ (IsS47.ge HI0.out)) | exact HB.out)⟩⟩
      ·rw [if_neg c7] at H
       exact absurd H (by simp)
     ·rw [if_neg c6] at H
      exact absurd H (by simp)
    ·rw [if_neg c5] at H
     have c5b0 : decide ((wrap64 (t133 - s0_3)) < 9) = false := decide_eq_false c5
     clear c5
     have H' := Aside0.mk H
     clear H
     obtain ⟨ASz12_1, cSz12_1, HGz12, hgz12, ⟨HSz12_1, HCSz12_1⟩⟩ := HI0.out
     have hcz12_0 := cellS47_0 HGz12
     have hcz12_1 := cellS47_1 HGz12
     have hcz12_2 := cellS47_2 HGz12
     have hcz12_3 := cellS47_3 HGz12
     have hcz12_4 := cellS47_4 HGz12
     have hcz12_5 := cellS47_5 HGz12
     have hfz12_0 := blk_frozen HGz12 0
     have hfz12_2 := blk_frozen HGz12 2
     have hfz12_3 := blk_frozen HGz12 3
     have hfz12_4 := blk_frozen HGz12 4
     have hfz12_5 := blk_frozen HGz12 5
     clear HGz12 hgz12
     go_wp2_with (first | (go_at_call 47; (with_reducible refine (bang_reader_digit.calls g x1000_1 s0_1 x1002_1 x1003_1 x1004_1 x1005_1 x1003_1 true t131 t132 t133 t134 t135 w0 _ ?side1 ?side2 A3.out).mono ?_); (case side1 => repeat (first | (with_reducible first | exact HI0.out | apply IsS47.alloc | apply IsS47.drewN | apply IsS47.drew | apply IsS47.set_0 | apply IsS47.set_2 | apply IsS47.set_3 | apply IsS47.set_4 | apply IsS47.set_5) | exact HI0.out)); (case side2 => repeat (first | (with_reducible first | exact HB.out | apply below_alloc | apply pw_below_drewN | apply below_drew1 | refine below_set ?_ (IsS47.ge HI0.out)) | exact HB.out)); rintro e w13 ⟨rfl, hi, hb, hk⟩; have n0_ := Aside0.mk (KeepBut.trans (by repeat (first | (with_reducible first | exact HK.out | apply KeepBut.set_ | apply keep_drewN | apply keep_drew | apply keep_alloc) | exact HK.out)) hk (.inl rfl)); have n1_ := Aside0.mk (hb); have n2_ := Aside0.mk (hi); clear HK; clear HB; clear HI0; have HK := n0_; have HB := n1_; have HI0 := n2_; clear n0_ n1_ n2_; (try clear hb); (try clear hb2); (try clear hk); (try clear hi); obtain ⟨ASz14_1, cSz14_1, HGz14, hgz14, ⟨HSz14_1, HCSz14_1⟩⟩ := HI0.out; have hcz14_0 := cellS47_0 HGz14; have hcz14_1 := cellS47_1 HGz14; have hcz14_2 := cellS47_2 HGz14; have hcz14_3 := cellS47_3 HGz14; have hcz14_4 := cellS47_4 HGz14; have hcz14_5 := cellS47_5 HGz14; have hfz14_0 := blk_frozen HGz14 0; have hfz14_2 := blk_frozen HGz14 2; have hfz14_3 := blk_frozen HGz14 3; have hfz14_4 := blk_frozen HGz14 4; have hfz14_5 := blk_frozen HGz14 5; clear HGz14 hgz14))
     repeat (go_quiet (first | (go_at_call 47; (with_reducible refine (bang_reader_digit.calls g x1000_1 s0_1 x1002_1 x1003_1 x1004_1 x1005_1 x1003_1 true t131 t132 t133 t134 t135 w0 _ ?side1 ?side2 A3.out).mono ?_); (case side1 => repeat (first | (with_reducible first | exact HI0.out | apply IsS47.alloc | apply IsS47.drewN | apply IsS47.drew | apply IsS47.set_0 | apply IsS47.set_2 | apply IsS47.set_3 | apply IsS47.set_4 | apply IsS47.set_5) | exact HI0.out)); (case side2 => repeat (first | (with_reducible first | exact HB.out | apply below_alloc | apply pw_below_drewN | apply below_drew1 | refine below_set ?_ (IsS47.ge HI0.out)) | exact HB.out)); rintro e w13 ⟨rfl, hi, hb, hk⟩; have n0_ := Aside0.mk (KeepBut.trans (by repeat (first | (with_reducible first | exact HK.out | apply KeepBut.set_ | apply keep_drewN | apply keep_drew | apply keep_alloc) | exact HK.out)) hk (.inl rfl)); have n1_ := Aside0.mk (hb); have n2_ := Aside0.mk (hi); clear HK; clear HB; clear HI0; have HK := n0_; have HB := n1_; have HI0 := n2_; clear n0_ n1_ n2_; (try clear hb); (try clear hb2); (try clear hk); (try clear hi); obtain ⟨ASz14_1, cSz14_1, HGz14, hgz14, ⟨HSz14_1, HCSz14_1⟩⟩ := HI0.out; have hcz14_0 := cellS47_0 HGz14; have hcz14_1 := cellS47_1 HGz14; have hcz14_2 := cellS47_2 HGz14; have hcz14_3 := cellS47_3 HGz14; have hcz14_4 := cellS47_4 HGz14; have hcz14_5 := cellS47_5 HGz14; have hfz14_0 := blk_frozen HGz14 0; have hfz14_2 := blk_frozen HGz14 2; have hfz14_3 := blk_frozen HGz14 3; have hfz14_4 := blk_frozen HGz14 4; have hfz14_5 := blk_frozen HGz14 5; clear HGz14 hgz14)); try go_wp2_with (first | (go_at_call 47; (with_reducible refine (bang_reader_digit.calls g x1000_1 s0_1 x1002_1 x1003_1 x1004_1 x1005_1 x1003_1 true t131 t132 t133 t134 t135 w0 _ ?side1 ?side2 A3.out).mono ?_); (case side1 => repeat (first | (with_reducible first | exact HI0.out | apply IsS47.alloc | apply IsS47.drewN | apply IsS47.drew | apply IsS47.set_0 | apply IsS47.set_2 | apply IsS47.set_3 | apply IsS47.set_4 | apply IsS47.set_5) | exact HI0.out)); (case side2 => repeat (first | (with_reducible first | exact HB.out | apply below_alloc | apply pw_below_drewN | apply below_drew1 | refine below_set ?_ (IsS47.ge HI0.out)) | exact HB.out)); rintro e w13 ⟨rfl, hi, hb, hk⟩; have n0_ := Aside0.mk (KeepBut.trans (by repeat (first | (with_reducible first | exact HK.out | apply KeepBut.set_ | apply keep_drewN | apply keep_drew | apply keep_alloc) | exact HK.out)) hk (.inl rfl)); have n1_ := Aside0.mk (hb); have n2_ := Aside0.mk (hi); clear HK; clear HB; clear HI0; have HK := n0_; have HB := n1_; have HI0 := n2_; clear n0_ n1_ n2_; (try clear hb); (try clear hb2); (try clear hk); (try clear hi); obtain ⟨ASz14_1, cSz14_1, HGz14, hgz14, ⟨HSz14_1, HCSz14_1⟩⟩ := HI0.out; have hcz14_0 := cellS47_0 HGz14; have hcz14_1 := cellS47_1 HGz14; have hcz14_2 := cellS47_2 HGz14; have hcz14_3 := cellS47_3 HGz14; have hcz14_4 := cellS47_4 HGz14; have hcz14_5 := cellS47_5 HGz14; have hfz14_0 := blk_frozen HGz14 0; have hfz14_2 := blk_frozen HGz14 2; have hfz14_3 := blk_frozen HGz14 3; have hfz14_4 := blk_frozen HGz14 4; have hfz14_5 := blk_frozen HGz14 5; clear HGz14 hgz14)))
     go_roundg k1
     case measure => have := HK1.out; omega
     case rel => exact ⟨(x4_1), (t131), (t132), (wrap64 (t133 + 1)), (t134), (t135), (by first | rfl | (simp; done) | (simp [*]; done)), H', ⟨by have := HK1.out; omega⟩, ⟨by repeat (first | (with_reducible first | exact HI0.out | apply IsS47.alloc | apply IsS47.drewN | apply IsS47.drew | apply IsS47.set_0 | apply IsS47.set_2 | apply IsS47.set_3 | apply IsS47.set_4 | apply IsS47.set_5) | exact HI0.out)⟩, ⟨by repeat (first | (with_reducible first | exact HK.out | apply KeepBut.set_ | apply keep_drewN | apply keep_drew | apply keep_alloc) | exact HK.out)⟩, ⟨by repeat (first | (with_reducible first | exact HB.out | apply below_alloc | apply pw_below_drewN | apply below_drew1 | refine below_set ?_ (IsS47.ge HI0.out)) | exact HB.out)⟩⟩
   ·replace c4 := Bool.eq_false_iff.mpr c4
    subst c4
    have H1 : (if (wrap64 (t133 - s0_3)) > 9 then (some (999999999, t131, t132, t133, t134, t135)) else (some (x4_1, t131, t132, t133, t134, t135))) = some (r1, r2, r3, r4, r5, r6) := by rw [if_neg (show ¬ (false = true) by decide)] at H; exact H
    clear H
    have H := H1
    clear H1
    by_cases c15 : (wrap64 (t133 - s0_3)) > 9
    ·rw [if_pos c15] at H
     have c15b0 : decide (9 < (wrap64 (t133 - s0_3))) = true := decide_eq_true c15
     clear c15
     simp only [Option.some.injEq, Prod.mk.injEq] at H
     obtain ⟨rfl, rfl, rfl, rfl, rfl, rfl⟩ := H
     obtain ⟨ASz16_1, cSz16_1, HGz16, hgz16, ⟨HSz16_1, HCSz16_1⟩⟩ := HI0.out
     have hcz16_0 := cellS47_0 HGz16
     have hcz16_1 := cellS47_1 HGz16
     have hcz16_2 := cellS47_2 HGz16
     have hcz16_3 := cellS47_3 HGz16
     have hcz16_4 := cellS47_4 HGz16
     have hcz16_5 := cellS47_5 HGz16
     have hfz16_0 := blk_frozen HGz16 0
     have hfz16_2 := blk_frozen HGz16 2
     have hfz16_3 := blk_frozen HGz16 3
     have hfz16_4 := blk_frozen HGz16 4
     have hfz16_5 := blk_frozen HGz16 5
     clear HGz16 hgz16
     go_wp2_with (first | (go_at_call 47; (with_reducible refine (bang_reader_digit.calls g x1000_1 s0_1 x1002_1 x1003_1 x1004_1 x1005_1 x1003_1 false t131 t132 t133 t134 t135 w0 _ ?side1 ?side2 A3.out).mono ?_); (case side1 => repeat (first | (with_reducible first | exact HI0.out | apply IsS47.alloc | apply IsS47.drewN | apply IsS47.drew | apply IsS47.set_0 | apply IsS47.set_2 | apply IsS47.set_3 | apply IsS47.set_4 | apply IsS47.set_5) | exact HI0.out)); (case side2 => repeat (first | (with_reducible first | exact HB.out | apply below_alloc | apply pw_below_drewN | apply below_drew1 | refine below_set ?_ (IsS47.ge HI0.out)) | exact HB.out)); rintro e w17 ⟨rfl, hi, hb, hk⟩; have n0_ := Aside0.mk (KeepBut.trans (by repeat (first | (with_reducible first | exact HK.out | apply KeepBut.set_ | apply keep_drewN | apply keep_drew | apply keep_alloc) | exact HK.out)) hk (.inl rfl)); have n1_ := Aside0.mk (hb); have n2_ := Aside0.mk (hi); clear HK; clear HB; clear HI0; have HK := n0_; have HB := n1_; have HI0 := n2_; clear n0_ n1_ n2_; (try clear hb); (try clear hb2); (try clear hk); (try clear hi); obtain ⟨ASz18_1, cSz18_1, HGz18, hgz18, ⟨HSz18_1, HCSz18_1⟩⟩ := HI0.out; have hcz18_0 := cellS47_0 HGz18; have hcz18_1 := cellS47_1 HGz18; have hcz18_2 := cellS47_2 HGz18; have hcz18_3 := cellS47_3 HGz18; have hcz18_4 := cellS47_4 HGz18; have hcz18_5 := cellS47_5 HGz18; have hfz18_0 := blk_frozen HGz18 0; have hfz18_2 := blk_frozen HGz18 2; have hfz18_3 := blk_frozen HGz18 3; have hfz18_4 := blk_frozen HGz18 4; have hfz18_5 := blk_frozen HGz18 5; clear HGz18 hgz18))
     repeat (go_quiet (first | (go_at_call 47; (with_reducible refine (bang_reader_digit.calls g x1000_1 s0_1 x1002_1 x1003_1 x1004_1 x1005_1 x1003_1 false t131 t132 t133 t134 t135 w0 _ ?side1 ?side2 A3.out).mono ?_); (case side1 => repeat (first | (with_reducible first | exact HI0.out | apply IsS47.alloc | apply IsS47.drewN | apply IsS47.drew | apply IsS47.set_0 | apply IsS47.set_2 | apply IsS47.set_3 | apply IsS47.set_4 | apply IsS47.set_5) | exact HI0.out)); (case side2 => repeat (first | (with_reducible first | exact HB.out | apply below_alloc | apply pw_below_drewN | apply below_drew1 | refine below_set ?_ (IsS47.ge HI0.out)) | exact HB.out)); rintro e w17 ⟨rfl, hi, hb, hk⟩; have n0_ := Aside0.mk (KeepBut.trans (by repeat (first | (with_reducible first | exact HK.out | apply KeepBut.set_ | apply keep_drewN | apply keep_drew | apply keep_alloc) | exact HK.out)) hk (.inl rfl)); have n1_ := Aside0.mk (hb); have n2_ := Aside0.mk (hi); clear HK; clear HB; clear HI0; have HK := n0_; have HB := n1_; have HI0 := n2_; clear n0_ n1_ n2_; (try clear hb); (try clear hb2); (try clear hk); (try clear hi); obtain ⟨ASz18_1, cSz18_1, HGz18, hgz18, ⟨HSz18_1, HCSz18_1⟩⟩ := HI0.out; have hcz18_0 := cellS47_0 HGz18; have hcz18_1 := cellS47_1 HGz18; have hcz18_2 := cellS47_2 HGz18; have hcz18_3 := cellS47_3 HGz18; have hcz18_4 := cellS47_4 HGz18; have hcz18_5 := cellS47_5 HGz18; have hfz18_0 := blk_frozen HGz18 0; have hfz18_2 := blk_frozen HGz18 2; have hfz18_3 := blk_frozen HGz18 3; have hfz18_4 := blk_frozen HGz18 4; have hfz18_5 := blk_frozen HGz18 5; clear HGz18 hgz18)); try go_wp2_with (first | (go_at_call 47; (with_reducible refine (bang_reader_digit.calls g x1000_1 s0_1 x1002_1 x1003_1 x1004_1 x1005_1 x1003_1 false t131 t132 t133 t134 t135 w0 _ ?side1 ?side2 A3.out).mono ?_); (case side1 => repeat (first | (with_reducible first | exact HI0.out | apply IsS47.alloc | apply IsS47.drewN | apply IsS47.drew | apply IsS47.set_0 | apply IsS47.set_2 | apply IsS47.set_3 | apply IsS47.set_4 | apply IsS47.set_5) | exact HI0.out)); (case side2 => repeat (first | (with_reducible first | exact HB.out | apply below_alloc | apply pw_below_drewN | apply below_drew1 | refine below_set ?_ (IsS47.ge HI0.out)) | exact HB.out)); rintro e w17 ⟨rfl, hi, hb, hk⟩; have n0_ := Aside0.mk (KeepBut.trans (by repeat (first | (with_reducible first | exact HK.out | apply KeepBut.set_ | apply keep_drewN | apply keep_drew | apply keep_alloc) | exact HK.out)) hk (.inl rfl)); have n1_ := Aside0.mk (hb); have n2_ := Aside0.mk (hi); clear HK; clear HB; clear HI0; have HK := n0_; have HB := n1_; have HI0 := n2_; clear n0_ n1_ n2_; (try clear hb); (try clear hb2); (try clear hk); (try clear hi); obtain ⟨ASz18_1, cSz18_1, HGz18, hgz18, ⟨HSz18_1, HCSz18_1⟩⟩ := HI0.out; have hcz18_0 := cellS47_0 HGz18; have hcz18_1 := cellS47_1 HGz18; have hcz18_2 := cellS47_2 HGz18; have hcz18_3 := cellS47_3 HGz18; have hcz18_4 := cellS47_4 HGz18; have hcz18_5 := cellS47_5 HGz18; have hfz18_0 := blk_frozen HGz18 0; have hfz18_2 := blk_frozen HGz18 2; have hfz18_3 := blk_frozen HGz18 3; have hfz18_4 := blk_frozen HGz18 4; have hfz18_5 := blk_frozen HGz18 5; clear HGz18 hgz18)))
     go_ret
     exact ⟨by first | rfl | (simp [errW_none, errW_some] <;> rfl) | (simp [*, errW_none, errW_some] <;> rfl), by repeat (first | (with_reducible first | exact HI0.out | apply IsS47.alloc | apply IsS47.drewN | apply IsS47.drew | apply IsS47.set_0 | apply IsS47.set_2 | apply IsS47.set_3 | apply IsS47.set_4 | apply IsS47.set_5) | exact HI0.out), by repeat (first | (with_reducible first | exact HB.out | apply below_alloc | apply pw_below_drewN | apply below_drew1 | refine below_set ?_ (IsS47.ge HI0.out)) | exact HB.out), by repeat (first | (with_reducible first | exact HK.out | apply KeepBut.set_ | apply keep_drewN | apply keep_drew | apply keep_alloc) | exact HK.out)⟩
    ·rw [if_neg c15] at H
     have c15b0 : decide (9 < (wrap64 (t133 - s0_3))) = false := decide_eq_false c15
     clear c15
     simp only [Option.some.injEq, Prod.mk.injEq] at H
     obtain ⟨rfl, rfl, rfl, rfl, rfl, rfl⟩ := H
     obtain ⟨ASz19_1, cSz19_1, HGz19, hgz19, ⟨HSz19_1, HCSz19_1⟩⟩ := HI0.out
     have hcz19_0 := cellS47_0 HGz19
     have hcz19_1 := cellS47_1 HGz19
     have hcz19_2 := cellS47_2 HGz19
     have hcz19_3 := cellS47_3 HGz19
     have hcz19_4 := cellS47_4 HGz19
     have hcz19_5 := cellS47_5 HGz19
     have hfz19_0 := blk_frozen HGz19 0
     have hfz19_2 := blk_frozen HGz19 2
     have hfz19_3 := blk_frozen HGz19 3
     have hfz19_4 := blk_frozen HGz19 4
     have hfz19_5 := blk_frozen HGz19 5
     clear HGz19 hgz19
     go_wp2_with (first | (go_at_call 47; (with_reducible refine (bang_reader_digit.calls g x1000_1 s0_1 x1002_1 x1003_1 x1004_1 x1005_1 x1003_1 false t131 t132 t133 t134 t135 w0 _ ?side1 ?side2 A3.out).mono ?_); (case side1 => repeat (first | (with_reducible first | exact HI0.out | apply IsS47.alloc | apply IsS47.drewN | apply IsS47.drew | apply IsS47.set_0 | apply IsS47.set_2 | apply IsS47.set_3 | apply IsS47.set_4 | apply IsS47.set_5) | exact HI0.out)); (case side2 => repeat (first | (with_reducible first | exact HB.out | apply below_alloc | apply pw_below_drewN | apply below_drew1 | refine below_set ?_ (IsS47.ge HI0.out)) | exact HB.out)); rintro e w20 ⟨rfl, hi, hb, hk⟩; have n0_ := Aside0.mk (KeepBut.trans (by repeat (first | (with_reducible first | exact HK.out | apply KeepBut.set_ | apply keep_drewN | apply keep_drew | apply keep_alloc) | exact HK.out)) hk (.inl rfl)); have n1_ := Aside0.mk (hb); have n2_ := Aside0.mk (hi); clear HK; clear HB; clear HI0; have HK := n0_; have HB := n1_; have HI0 := n2_; clear n0_ n1_ n2_; (try clear hb); (try clear hb2); (try clear hk); (try clear hi); obtain ⟨ASz21_1, cSz21_1, HGz21, hgz21, ⟨HSz21_1, HCSz21_1⟩⟩ := HI0.out; have hcz21_0 := cellS47_0 HGz21; have hcz21_1 := cellS47_1 HGz21; have hcz21_2 := cellS47_2 HGz21; have hcz21_3 := cellS47_3 HGz21; have hcz21_4 := cellS47_4 HGz21; have hcz21_5 := cellS47_5 HGz21; have hfz21_0 := blk_frozen HGz21 0; have hfz21_2 := blk_frozen HGz21 2; have hfz21_3 := blk_frozen HGz21 3; have hfz21_4 := blk_frozen HGz21 4; have hfz21_5 := blk_frozen HGz21 5; clear HGz21 hgz21))
     repeat (go_quiet (first | (go_at_call 47; (with_reducible refine (bang_reader_digit.calls g x1000_1 s0_1 x1002_1 x1003_1 x1004_1 x1005_1 x1003_1 false t131 t132 t133 t134 t135 w0 _ ?side1 ?side2 A3.out).mono ?_); (case side1 => repeat (first | (with_reducible first | exact HI0.out | apply IsS47.alloc | apply IsS47.drewN | apply IsS47.drew | apply IsS47.set_0 | apply IsS47.set_2 | apply IsS47.set_3 | apply IsS47.set_4 | apply IsS47.set_5) | exact HI0.out)); (case side2 => repeat (first | (with_reducible first | exact HB.out | apply below_alloc | apply pw_below_drewN | apply below_drew1 | refine below_set ?_ (IsS47.ge HI0.out)) | exact HB.out)); rintro e w20 ⟨rfl, hi, hb, hk⟩; have n0_ := Aside0.mk (KeepBut.trans (by repeat (first | (with_reducible first | exact HK.out | apply KeepBut.set_ | apply keep_drewN | apply keep_drew | apply keep_alloc) | exact HK.out)) hk (.inl rfl)); have n1_ := Aside0.mk (hb); have n2_ := Aside0.mk (hi); clear HK; clear HB; clear HI0; have HK := n0_; have HB := n1_; have HI0 := n2_; clear n0_ n1_ n2_; (try clear hb); (try clear hb2); (try clear hk); (try clear hi); obtain ⟨ASz21_1, cSz21_1, HGz21, hgz21, ⟨HSz21_1, HCSz21_1⟩⟩ := HI0.out; have hcz21_0 := cellS47_0 HGz21; have hcz21_1 := cellS47_1 HGz21; have hcz21_2 := cellS47_2 HGz21; have hcz21_3 := cellS47_3 HGz21; have hcz21_4 := cellS47_4 HGz21; have hcz21_5 := cellS47_5 HGz21; have hfz21_0 := blk_frozen HGz21 0; have hfz21_2 := blk_frozen HGz21 2; have hfz21_3 := blk_frozen HGz21 3; have hfz21_4 := blk_frozen HGz21 4; have hfz21_5 := blk_frozen HGz21 5; clear HGz21 hgz21)); try go_wp2_with (first | (go_at_call 47; (with_reducible refine (bang_reader_digit.calls g x1000_1 s0_1 x1002_1 x1003_1 x1004_1 x1005_1 x1003_1 false t131 t132 t133 t134 t135 w0 _ ?side1 ?side2 A3.out).mono ?_); (case side1 => repeat (first | (with_reducible first | exact HI0.out | apply IsS47.alloc | apply IsS47.drewN | apply IsS47.drew | apply IsS47.set_0 | apply IsS47.set_2 | apply IsS47.set_3 | apply IsS47.set_4 | apply IsS47.set_5) | exact HI0.out)); (case side2 => repeat (first | (with_reducible first | exact HB.out | apply below_alloc | apply pw_below_drewN | apply below_drew1 | refine below_set ?_ (IsS47.ge HI0.out)) | exact HB.out)); rintro e w20 ⟨rfl, hi, hb, hk⟩; have n0_ := Aside0.mk (KeepBut.trans (by repeat (first | (with_reducible first | exact HK.out | apply KeepBut.set_ | apply keep_drewN | apply keep_drew | apply keep_alloc) | exact HK.out)) hk (.inl rfl)); have n1_ := Aside0.mk (hb); have n2_ := Aside0.mk (hi); clear HK; clear HB; clear HI0; have HK := n0_; have HB := n1_; have HI0 := n2_; clear n0_ n1_ n2_; (try clear hb); (try clear hb2); (try clear hk); (try clear hi); obtain ⟨ASz21_1, cSz21_1, HGz21, hgz21, ⟨HSz21_1, HCSz21_1⟩⟩ := HI0.out; have hcz21_0 := cellS47_0 HGz21; have hcz21_1 := cellS47_1 HGz21; have hcz21_2 := cellS47_2 HGz21; have hcz21_3 := cellS47_3 HGz21; have hcz21_4 := cellS47_4 HGz21; have hcz21_5 := cellS47_5 HGz21; have hfz21_0 := blk_frozen HGz21 0; have hfz21_2 := blk_frozen HGz21 2; have hfz21_3 := blk_frozen HGz21 3; have hfz21_4 := blk_frozen HGz21 4; have hfz21_5 := blk_frozen HGz21 5; clear HGz21 hgz21)))
     go_ret
     exact ⟨by first | rfl | (simp [errW_none, errW_some] <;> rfl) | (simp [*, errW_none, errW_some] <;> rfl), by repeat (first | (with_reducible first | exact HI0.out | apply IsS47.alloc | apply IsS47.drewN | apply IsS47.drew | apply IsS47.set_0 | apply IsS47.set_2 | apply IsS47.set_3 | apply IsS47.set_4 | apply IsS47.set_5) | exact HI0.out), by repeat (first | (with_reducible first | exact HB.out | apply below_alloc | apply pw_below_drewN | apply below_drew1 | refine below_set ?_ (IsS47.ge HI0.out)) | exact HB.out), by repeat (first | (with_reducible first | exact HK.out | apply KeepBut.set_ | apply keep_drewN | apply keep_drew | apply keep_alloc) | exact HK.out)⟩

end Go.Proofs.YthoanbjklgoggaaDoor.PAll
