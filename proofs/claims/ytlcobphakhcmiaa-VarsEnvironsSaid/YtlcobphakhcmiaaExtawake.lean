/- jobshelllaw15.awake, by hand: the chapter's examples, reckoned. -/
import Derived.Test.YtlcobphakhcmiaaPAllx0
import Derived.Test.YtlcobphakhcmiaaPAllx4
import Derived.Test.YtlcobphakhcmiaaPAllx5
import Derived.Test.YtlcobphakhcmiaaPAllx2
import Derived.Test.YtlcobphakhcmiaaPAllx3
namespace Go.Proofs.Ytlcobphakhcmiaa.PAll
open Go.RowKit Go.Proofs.YtlcobphakhcmiaaW.PrintWords Go.Proofs.YtlcobphakhcmiaaW.PrintLast Go.Proofs.YtlcobphakhcmiaaW.PrintMore
set_option linter.unusedVariables false

def aw1 : List S26 := [⟨⟨#[97]⟩, ⟨#[49]⟩, true, false, false⟩]
def aw2 : List S26 := [⟨⟨#[120]⟩, ⟨#[]⟩, false, true, false⟩]
def aw3s : List ByteArray := [⟨#[65, 61, 49]⟩, ⟨#[66]⟩, ⟨#[57, 61, 120]⟩, ⟨#[65, 61, 50, 61, 51]⟩]
def aw3 : List S26 := [⟨⟨#[65]⟩, ⟨#[50, 61, 51]⟩, true, true, false⟩]
def aw4s : List S26 := [⟨⟨#[114]⟩, ⟨#[]⟩, false, false, true⟩]
def aw5s : List S26 := [⟨⟨#[49]⟩, ⟨#[]⟩, false, false, false⟩]
theorem aw_e1 : vars_Set.f 9 [] ⟨#[97]⟩ ⟨#[49]⟩ = some (aw1, 0) := by kernel_rfl
theorem aw_e2 : vars_Mark.f 9 [] ⟨#[120]⟩ true false = some (aw2, 0) := by kernel_rfl
theorem aw_e3 : vars_From.f 9 aw3s = some (aw3, 0) := by kernel_rfl
theorem aw_e4 : vars_Set.f 9 aw4s ⟨#[114]⟩ ⟨#[]⟩ = some (aw4s, 11) := by kernel_rfl
theorem aw_e5 : vars_Get.f 9 aw3 ⟨#[65]⟩ = some (⟨#[65]⟩, ⟨#[50, 61, 51]⟩, true, true, false, true) := by kernel_rfl
theorem aw_e6 : vars_Environ.f 9 aw3 = some [⟨#[65, 61, 50, 61, 51]⟩] := by kernel_rfl
theorem aw_e7 : vars_Valid.f 9 aw5s = some 10 := by kernel_rfl
def jobshelllaw15_awake.f : Option Bool := some true

/-- A row that is read: its cells, known in this world. -/
theorem openV {w w0 : World} {ok : Nat → Prop} {base : Nat} {v : Value} {xs : List S26} (h : Kd.V k26 26 w base ok v xs) : ∃ A c, v = .slice A xs.length c ∧ xs.length ≤ c ∧ Kd.C k26 w A xs.length xs := by
  obtain ⟨A, c, rfl⟩ := Kd.V_slice h
  have h2 := Kd.V_reads' h
  exact ⟨A, c, rfl, h2.2.1, h2.2.2⟩
/-- The first element's cells, in a later world. -/
theorem first26 {w w' : World} {A : Option Addr} {x : S26} {xs : List S26} (h : Kd.C k26 w A (x :: xs).length (x :: xs)) (hb : Below w.heap.size w w') (o : Obj) : ∃ ad, A = some ad ∧ (w'.alloc o).cell? ad = some (.string x.f0) ∧ (w'.alloc o).cell? ⟨ad.block, ad.off + 1, none⟩ = some (.string x.f1) ∧ (w'.alloc o).cell? ⟨ad.block, ad.off + 2, none⟩ = some (.bool x.f2) ∧ (w'.alloc o).cell? ⟨ad.block, ad.off + 3, none⟩ = some (.bool x.f3) ∧ (w'.alloc o).cell? ⟨ad.block, ad.off + 4, none⟩ = some (.bool x.f4) := by
  obtain ⟨ad, e, h0, h1, h2, h3, h4⟩ := at_T26 h 0 (by omega) (by simp)
  rw [show ((0 : Int)).toNat = 0 from rfl, show 0 * 5 = 0 from rfl, Addr.add_zero'] at h0 h1 h2 h3 h4
  have k : ∀ {a : Addr} {v : Value}, w.cell? a = some v → (w'.alloc o).cell? a = some v := fun {a v} h => by
    have h5 := World.block_lt_of_cell? w _ h
    have h6 := (hb.cell h5).trans h
    rw [World.cell?_alloc_lt _ _ _ (World.block_lt_of_cell? w' _ h6)]
    exact h6
  exact ⟨ad, e, k h0, k h1, k h2, k h3, k h4⟩
set_option maxHeartbeats 1000000 in
set_option maxRecDepth 100000 in
theorem awake_any (w : World) : Calls Try.prog 11 #[] w fun e w' => e = .returned (.bool true) ∧ Below w.heap.size w w' := by
  have hu26 := Try.underlying26
  go_enter Try.func11, Try.ntmps11
  go_wp2_with fail
  refine (vars_Set.calls 9 (fun _ => False) none 0 [] _ _ aw1 0 _ (Kd.V_nil _ _ _ _ _) aw_e1).mono ?_
  rintro e w1 ⟨v1, rfl, hv1, hb1⟩
  obtain ⟨A1, c1, rfl, hc1, hC1⟩ := openV (w0 := w) hv1
  have HB1 := Aside0.mk hb1
  have HC1 := Aside0.mk hC1
  have HL1 := Aside0.mk hc1
  clear hv1 hb1 hC1 hc1
  go_wp2_with fail
  refine (vars_Mark.calls 9 (fun _ => False) none 0 [] _ _ _ aw2 0 _ (Kd.V_nil _ _ _ _ _) aw_e2).mono ?_
  rintro e w2 ⟨v2, rfl, hv2, hb2⟩
  obtain ⟨A2, c2, rfl, hc2, hC2⟩ := openV (w0 := w) hv2
  have HB2 := Aside0.mk hb2
  have HC2 := Aside0.mk hC2
  have HL2 := Aside0.mk hc2
  clear hv2 hb2 hC2 hc2
  go_wp2_with fail
  refine (vars_From.calls 9 (some ⟨w2.heap.size, 0, none⟩) 4 aw3s aw3 0 _ (Kd.C_litA Kd.string w2 9 (Reps.one rfl (Reps.one rfl (Reps.one rfl (Reps.one rfl (Reps.none _ _))))) (by decide)) (by decide) aw_e3).mono ?_
  rintro e w3 ⟨v3, rfl, hv3, hb3⟩
  obtain ⟨A3, c3, rfl, hc3, hC3⟩ := openV (w0 := w) (Kd.R_V hv3 (base' := 0))
  have HB3 := Aside0.mk (below_step (below_alloc (Below.refl _ _) _) hb3)
  have HC3 := Aside0.mk hC3
  have HL3 := Aside0.mk hc3
  clear hv3 hb3 hC3 hc3
  go_wp2_with fail
  refine (vars_Set.calls 9 (fun _ => True) (some ⟨w3.heap.size, 0, none⟩) 1 aw4s _ _ aw4s 11 _ ?hv aw_e4).mono ?_
  case hv => exact Kd.R_V (Kd.R_litA k26 w3 26 0 (Reps.c5 (k26_mkM _ _ _ ⟨⟨#[114]⟩, ⟨#[]⟩, false, false, true⟩) (Reps.none _ _)) (Nat.zero_le _) (by decide))
  rintro e w4 ⟨v4, rfl, hv4, hb4⟩
  have HB4 := Aside0.mk (below_step (below_alloc (Below.refl _ _) _) hb4)
  clear hv4 hb4
  go_wp2_with fail
  refine (vars_Get.calls 9 A3 c3 aw3 _ _ _ _ _ _ _ _ (Kd.C_below HC3.out HB4.out) HL3.out aw_e5).mono ?_
  rintro e w5 ⟨rfl, hb5⟩
  have HB5 := Aside0.mk hb5
  clear hb5
  have b35 := Aside0.mk (below_step HB4.out HB5.out)
  have b25 := Aside0.mk (below_step HB3.out b35.out)
  have b15 := Aside0.mk (below_step HB2.out b25.out)
  have b05 := Aside0.mk (below_step HB1.out b15.out)
  obtain ⟨ad1, e1, x10, x11, x12, x13, x14⟩ := first26 HC1.out b15.out (.cells #[.string ⟨#[65]⟩, .string ⟨#[50, 61, 51]⟩, .bool true, .bool true, .bool false] 26)
  obtain ⟨ad2, e2, x20, x21, x22, x23, x24⟩ := first26 HC2.out b25.out (.cells #[.string ⟨#[65]⟩, .string ⟨#[50, 61, 51]⟩, .bool true, .bool true, .bool false] 26)
  subst e1 e2
  go_wp2_with fail
  refine (vars_Environ.calls 9 A3 c3 aw3 _ _ (Kd.C_below HC3.out (below_alloc b35.out _)) HL3.out aw_e6).mono ?_
  rintro e w6 ⟨v6, rfl, hv6, hb6⟩
  obtain ⟨A6, c6, rfl⟩ := Kd.R_slice hv6
  have HB6 := Aside0.mk (below_step (below_alloc b05.out _) hb6)
  clear hv6 hb6 x10 x11 x12 x13 x14 x20 x21 x22 x23 x24
  go_wp2_with fail
  refine (vars_Valid.calls 9 (some ⟨w6.heap.size, 0, none⟩) 1 aw5s _ _ (Kd.C_litA k26 w6 26 (Reps.c5 (k26_mk _ ⟨⟨#[49]⟩, ⟨#[]⟩, false, false, false⟩) (Reps.none _ _)) (by decide)) (by decide) aw_e7).mono ?_
  rintro e w7 ⟨rfl, hb7⟩
  have HB7 := Aside0.mk (below_step (below_alloc HB6.out _) hb7)
  clear hb7
  go_wp2
  go_ret
  exact ⟨rfl, HB7.out⟩
theorem jobshelllaw15_awake.calls (r : Bool) (w : World) (h : jobshelllaw15_awake.f = some r) :
    Calls Try.prog 11 #[] w fun e w' => e = .returned (.bool r) ∧ Below w.heap.size w w' := by
  obtain rfl : true = r := Option.some.inj h
  exact awake_any w
end Go.Proofs.Ytlcobphakhcmiaa.PAll
