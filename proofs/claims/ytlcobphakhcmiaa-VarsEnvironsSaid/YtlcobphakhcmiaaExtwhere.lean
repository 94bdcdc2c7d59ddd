/- vars.where, by hand: it hands closures to a generic function. Its contract in the form of the printed ones. -/
import Derived.Test.YtlcobphakhcmiaaPAllx0
namespace Go.Proofs.Ytlcobphakhcmiaa.PAll
open Go.RowKit Go.Proofs.YtlcobphakhcmiaaW.PrintWords Go.Proofs.YtlcobphakhcmiaaW.PrintLast Go.Proofs.YtlcobphakhcmiaaW.PrintMore
set_option linter.unusedVariables false

/-- The place of a name in what is left of a list, i elements having been passed. -/
def whereFrom (name : ByteArray) : List S26 → Int → Int × Bool
  | [], i => (i, false)
  | v :: t, i => if (v.f0.toList == name.toList) = true then (i, true) else if Op.bytesLess v.f0.toList name.toList = true then whereFrom name t (i + 1) else (i, false)
def vars_where.f (l : List S26) (name : ByteArray) : Option (Int × Bool) := if l.length ≤ 9223372036854775807 then some (whereFrom name l 0) else none

set_option maxHeartbeats 1000000 in
theorem less_any (a b : ByteArray) (c d e : Bool) (g : Nat) (name : ByteArray) (w : World) (hc : w.cell? ⟨g, 0, none⟩ = some (.string name)) (hg : g < w.heap.size) :
    Calls Try.prog 42 #[.agg #[.string a, .string b, .bool c, .bool d, .bool e], .pointer (some ⟨g, 0, none⟩)] w fun e w' => e = .returned (.bool (Op.bytesLess a.toList name.toList)) ∧ Below w.heap.size w w' := by
  have hne : g ≠ w.heap.size := by omega
  go_enter Try.func42, Try.ntmps42
  go_wp2
  go_ret
  exact ⟨rfl, below_alloc (Below.refl _ _) _⟩
set_option maxHeartbeats 1000000 in
theorem same_any (a b : ByteArray) (c d e : Bool) (g : Nat) (name : ByteArray) (w : World) (hc : w.cell? ⟨g, 0, none⟩ = some (.string name)) (hg : g < w.heap.size) :
    Calls Try.prog 43 #[.agg #[.string a, .string b, .bool c, .bool d, .bool e], .pointer (some ⟨g, 0, none⟩)] w fun e w' => e = .returned (.bool (a.toList == name.toList)) ∧ Below w.heap.size w w' := by
  have hne : g ≠ w.heap.size := by omega
  go_enter Try.func43, Try.ntmps43
  go_wp2
  go_ret
  exact ⟨rfl, below_alloc (Below.refl _ _) _⟩

set_option maxHeartbeats 4000000 in
set_option maxRecDepth 100000 in
theorem place_any (A0 : Option Addr) (c0 : Nat) (l : List S26) (g : Nat) (name : ByteArray) (w : World) (hr0 : Kd.C k26 w A0 l.length l) (hc0 : l.length ≤ c0) (hm : l.length ≤ 9223372036854775807)
    (hc : w.cell? ⟨g, 0, none⟩ = some (.string name)) (hg : g < w.heap.size) :
    Calls Try.prog 41 #[.slice A0 l.length c0, .func (.func 42) #[] #[.pointer (some ⟨g, 0, none⟩)], .func (.func 43) #[] #[.pointer (some ⟨g, 0, none⟩)]] w fun e w' => e = .returned (.tuple #[.int .i64 (whereFrom name l 0).1, .bool (whereFrom name l 0).2]) ∧ Below w.heap.size w w' := by
  obtain ⟨r, hr⟩ : ∃ r, whereFrom name l 0 = r := ⟨_, rfl⟩
  rw [hr]
  have R0 : Aside0 (whereFrom name (l.drop 0) ((0 : Nat) : Int) = r) := ⟨hr⟩
  clear hr
  have HR := Aside0.mk hr0
  have HC := Aside0.mk hc
  have HG := Aside0.mk hg
  have HM := Aside0.mk hm
  clear hr0 hc0 hc hg
  go_enter Try.func41, Try.ntmps41
  go_wp2
  go_loopw [12] (fun i w' => ∃ k : Nat, i = .int .i64 k ∧ Aside0 (k ≤ l.length) ∧ Aside0 (Below w.heap.size w w') ∧ Aside0 (whereFrom name (l.drop k) k = r)) (fun i _ => l.length - (intOf i).toNat)
  case atStart => exact ⟨0, rfl, ⟨Nat.zero_le _⟩, ⟨Below.refl _ _⟩, R0⟩
  case round =>
    obtain ⟨k, rfl, HK, HB, HW⟩ := hrel
    clear R0
    by_cases hlt : k < l.length
    · have p0 : (0 : Int) ≤ (k : Int) := by omega
      have q0 : (k : Int) < (l.length : Int) := by omega
      obtain ⟨ad, e, hx0, hx1, hx2, hx3, hx4⟩ := at_T26 HR.out (k : Int) p0 q0
      cases e
      replace hx0 := (HB.out.cell (World.block_lt_of_cell? w _ hx0)).trans hx0
      replace hx1 := (HB.out.cell (World.block_lt_of_cell? w _ hx1)).trans hx1
      replace hx2 := (HB.out.cell (World.block_lt_of_cell? w _ hx2)).trans hx2
      replace hx3 := (HB.out.cell (World.block_lt_of_cell? w _ hx3)).trans hx3
      replace hx4 := (HB.out.cell (World.block_lt_of_cell? w _ hx4)).trans hx4
      have hgw : ∀ j, wr.cell? ⟨g, j, none⟩ = w.cell? ⟨g, j, none⟩ := fun j => HB.out.cell (p := ⟨g, j, none⟩) HG.out
      have HN : Aside0 (wr.cell? ⟨g, 0, none⟩ = some (.string name)) := ⟨(hgw 0).trans HC.out⟩
      clear hgw
      have HGR : Aside0 (g < wr.heap.size) := ⟨Nat.lt_of_lt_of_le HG.out HB.out.size⟩
      obtain ⟨x, hx⟩ : ∃ x, rd_T26 l (k : Int) = x := ⟨_, rfl⟩
      rw [hx] at hx0 hx1 hx2 hx3 hx4
      simp only [Int.toNat_natCast] at hx0 hx1 hx2 hx3 hx4
      have HX := Aside0.mk hx
      clear hx
      obtain ⟨a, b, c, d, e'⟩ := x
      have hsz : wr.heap.size < (wr.alloc (Obj.cells #[Value.string a, Value.string b, Value.bool c, Value.bool d, Value.bool e'] 26)).heap.size := by simp
      have hb0 : Below w.heap.size w (wr.alloc (Obj.cells #[Value.string a, Value.string b, Value.bool c, Value.bool d, Value.bool e'] 26)) := below_alloc HB.out _
      have HB0 := Aside0.mk hb0
      have HS0 := Aside0.mk hsz
      clear hb0 hsz
      have hd : l.drop k = ⟨a, b, c, d, e'⟩ :: l.drop (k + 1) := by
        rw [List.drop_eq_getElem_cons hlt]
        congr 1
        have h1 := HX.out
        unfold rd_T26 at h1
        rw [Int.toNat_natCast, List.getD_eq_getElem?_getD, List.getElem?_eq_getElem hlt] at h1
        exact h1
      have hw := HW.out
      rw [hd] at hw
      simp only [whereFrom] at hw
      clear hd HW HX
      cases e1 : (a.toList == name.toList) with
      | true =>
        rw [if_pos e1] at hw
        have HF := Aside0.mk hw
        clear hw
        go_wp2_with (go_at_call 43; refine (same_any _ _ _ _ _ g name _ ?hc ?hg).mono ?_; (case hc => exact (World.cell?_alloc_lt _ _ _ HGR.out).trans HN.out); (case hg => exact Nat.lt_trans HGR.out HS0.out); rintro e w1 ⟨rfl, hb1⟩; rw [e1]; have HB1 := Aside0.mk hb1; clear hb1)
        go_ret2
        rw [← HF.out]
        exact ⟨rfl, below_step HB0.out HB1.out⟩
      | false =>
        rw [if_neg (by rw [e1]; decide)] at hw
        cases e2 : Op.bytesLess a.toList name.toList with
        | true =>
          rw [if_pos e2] at hw
          have HF := Aside0.mk hw
          clear hw
          go_wp2_with (first | (go_at_call 43; refine (same_any _ _ _ _ _ g name _ ?hc ?hg).mono ?_; (case hc => exact (World.cell?_alloc_lt _ _ _ HGR.out).trans HN.out); (case hg => exact Nat.lt_trans HGR.out HS0.out); rintro e w1 ⟨rfl, hb1⟩; rw [e1]; have HB1 := Aside0.mk hb1; have z0 : w1.cell? ⟨wr.heap.size, 0, none⟩ = some (.string a) := (hb1.cell (p := ⟨wr.heap.size, 0, none⟩) HS0.out).trans (by simp); have z1 : w1.cell? ⟨wr.heap.size, 1, none⟩ = some (.string b) := (hb1.cell (p := ⟨wr.heap.size, 1, none⟩) HS0.out).trans (by simp); have z2 : w1.cell? ⟨wr.heap.size, 2, none⟩ = some (.bool c) := (hb1.cell (p := ⟨wr.heap.size, 2, none⟩) HS0.out).trans (by simp); have z3 : w1.cell? ⟨wr.heap.size, 3, none⟩ = some (.bool d) := (hb1.cell (p := ⟨wr.heap.size, 3, none⟩) HS0.out).trans (by simp); have z4 : w1.cell? ⟨wr.heap.size, 4, none⟩ = some (.bool e') := (hb1.cell (p := ⟨wr.heap.size, 4, none⟩) HS0.out).trans (by simp); clear hb1) | (go_at_call 42; refine (less_any _ _ _ _ _ g name _ ?hc ?hg).mono ?_; (case hc => exact (HB1.out.cell (p := ⟨g, 0, none⟩) (Nat.lt_trans HGR.out HS0.out)).trans ((World.cell?_alloc_lt _ _ _ HGR.out).trans HN.out)); (case hg => exact Nat.lt_of_lt_of_le (Nat.lt_trans HGR.out HS0.out) HB1.out.size); rintro e w2 ⟨rfl, hb2⟩; rw [e2]; have HB2 := Aside0.mk hb2; clear hb2))
          go_roundw
          case rel => exact ⟨k + 1, by go_num, ⟨hlt⟩, ⟨below_step (below_step HB0.out HB1.out) HB2.out⟩, HF⟩
          case measure => simp [intOf]; omega
        | false =>
          rw [if_neg (by rw [e2]; decide)] at hw
          have HF := Aside0.mk hw
          clear hw
          go_wp2_with (first | (go_at_call 43; refine (same_any _ _ _ _ _ g name _ ?hc ?hg).mono ?_; (case hc => exact (World.cell?_alloc_lt _ _ _ HGR.out).trans HN.out); (case hg => exact Nat.lt_trans HGR.out HS0.out); rintro e w1 ⟨rfl, hb1⟩; rw [e1]; have HB1 := Aside0.mk hb1; have z0 : w1.cell? ⟨wr.heap.size, 0, none⟩ = some (.string a) := (hb1.cell (p := ⟨wr.heap.size, 0, none⟩) HS0.out).trans (by simp); have z1 : w1.cell? ⟨wr.heap.size, 1, none⟩ = some (.string b) := (hb1.cell (p := ⟨wr.heap.size, 1, none⟩) HS0.out).trans (by simp); have z2 : w1.cell? ⟨wr.heap.size, 2, none⟩ = some (.bool c) := (hb1.cell (p := ⟨wr.heap.size, 2, none⟩) HS0.out).trans (by simp); have z3 : w1.cell? ⟨wr.heap.size, 3, none⟩ = some (.bool d) := (hb1.cell (p := ⟨wr.heap.size, 3, none⟩) HS0.out).trans (by simp); have z4 : w1.cell? ⟨wr.heap.size, 4, none⟩ = some (.bool e') := (hb1.cell (p := ⟨wr.heap.size, 4, none⟩) HS0.out).trans (by simp); clear hb1) | (go_at_call 42; refine (less_any _ _ _ _ _ g name _ ?hc ?hg).mono ?_; (case hc => exact (HB1.out.cell (p := ⟨g, 0, none⟩) (Nat.lt_trans HGR.out HS0.out)).trans ((World.cell?_alloc_lt _ _ _ HGR.out).trans HN.out)); (case hg => exact Nat.lt_of_lt_of_le (Nat.lt_trans HGR.out HS0.out) HB1.out.size); rintro e w2 ⟨rfl, hb2⟩; rw [e2]; have HB2 := Aside0.mk hb2; clear hb2))
          go_ret2
          rw [← HF.out]
          exact ⟨rfl, below_step (below_step HB0.out HB1.out) HB2.out⟩
    · have hk : k = l.length := by have := HK.out; omega
      have hw := HW.out
      rw [hk, List.drop_length] at hw
      simp only [whereFrom] at hw
      have HF := Aside0.mk hw
      clear hw HW
      obtain rfl := hk
      go_wp2
      go_ret2
      rw [← HF.out]
      exact ⟨rfl, HB.out⟩

set_option maxHeartbeats 1000000 in
theorem vars_where.calls (A0 : Option Addr) (c0 : Nat) (l0 : List S26) (a1 : ByteArray) (r1 : Int) (r2 : Bool) (w : World) (hr0 : Kd.C k26 w A0 l0.length l0) (hc0 : l0.length ≤ c0) (h : vars_where.f l0 a1 = some (r1, r2)) :
    Calls Try.prog 32 #[.slice A0 l0.length c0, .string a1] w fun e w' => e = .returned (.tuple #[.int .i64 r1, .bool r2]) ∧ Below w.heap.size w w' := by
  unfold vars_where.f at h
  split at h
  case isFalse => cases h
  rename_i hm
  have h := Option.some.inj h
  have e1 : (whereFrom a1 l0 0).1 = r1 := by rw [h]
  have e2 : (whereFrom a1 l0 0).2 = r2 := by rw [h]
  subst e1 e2
  clear h
  have HR := Aside0.mk hr0
  have HC := Aside0.mk hc0
  have HM := Aside0.mk hm
  clear hr0 hc0 hm
  have hmf : ∀ (fn : Fn) (first cap : Array Value) (w : World), (Instr.makeFunc fn first cap).run Try.prog w = .ok (.func fn first cap) w := fun _ _ _ _ => rfl
  go_enter Try.func32, Try.ntmps32
  go_wp2_with (go_at_call 41; refine (place_any _ _ l0 w.heap.size a1 _ ?hr HC.out HM.out ?hc ?hg).mono ?_; (case hr => exact Kd.C_below HR.out (below_alloc (Below.refl _ _) _)); (case hc => simp); (case hg => simp); rintro e w1 ⟨rfl, hb1⟩; have HB1 := Aside0.mk hb1; clear hb1)
  go_ret2
  exact ⟨rfl, below_step (below_alloc (Below.refl _ _) _) HB1.out⟩
end Go.Proofs.Ytlcobphakhcmiaa.PAll
