/- strings.Cut at a separator of one byte, by hand: its contract in the form of the printed ones. -/
import Derived.Test.YtlcobphakhcmiaaPAllx0
import Derived.Test.YtlcobphakhcmiaaExtShelf
import Derived.Lib.CutLaws
import Derived.RegionTactic
import Derived.IntWalk
namespace Go.Proofs.Ytlcobphakhcmiaa.PAll
open Go.RowKit Go.Proofs.YtlcobphakhcmiaaW.PrintWords Go.Proofs.YtlcobphakhcmiaaW.PrintLast Go.Proofs.YtlcobphakhcmiaaW.PrintMore
set_option linter.unusedVariables false

/-- The place of byte c in s, or -1. -/
def cutAt (s : ByteArray) (c : UInt8) : Int := Lib.indexByte s.data.toList c
def cut1 (s : ByteArray) (c : UInt8) : ByteArray × ByteArray × Bool :=
  if cutAt s c = -1 then (s, ⟨#[]⟩, false) else (s.extract 0 (cutAt s c).toNat, s.extract ((cutAt s c).toNat + 1) s.size, true)
def strings_Cut.f (s sep : ByteArray) : Option (ByteArray × ByteArray × Bool) :=
  match sep with
  | ⟨⟨[c]⟩⟩ => if s.size ≤ 9223372036854775807 then some (cut1 s c) else none
  | _ => none

theorem cutAt_cases (s : ByteArray) (c : UInt8) : cutAt s c = -1 ∨ ∃ i : Nat, cutAt s c = i ∧ i + 1 ≤ s.size := by
  have hge := Lib.indexByte_ge s.data.toList c
  by_cases h : cutAt s c = -1
  · exact Or.inl h
  · have h' : Lib.indexByte s.data.toList c ≠ -1 := h
    have e : Lib.indexByte s.data.toList c = ((Lib.indexByte s.data.toList c).toNat : Int) := by omega
    have hs := (Lib.indexByte_some e).1
    have hlt := (List.getElem?_eq_some_iff.1 hs).1
    rw [Array.length_toList] at hlt
    exact Or.inr ⟨_, e, hlt⟩

set_option maxHeartbeats 2000000 in
set_option maxRecDepth 100000 in
theorem slCut1 (s : ByteArray) (c : UInt8) (w : World) (hs : s.size ≤ 9223372036854775807) :
    Calls Try.prog 44 #[.string s, .string ⟨#[c]⟩] w fun e w' => e = .returned (.tuple #[.string (cut1 s c).1, .string (cut1 s c).2.1, .bool (cut1 s c).2.2]) ∧ ∃ n, w' = w.drewN n := by
  rcases cutAt_cases s c with hix | ⟨i, hix, hroom⟩
  · have e1 : cut1 s c = (s, ⟨#[]⟩, false) := by rw [cut1, if_pos hix]
    rw [e1]
    clear e1
    go_enter Try.func44, Try.ntmps44
    go_wp2_with (go_at_call 46; refine (Try.stringslite_Index_one _ _ _).mono ?_; rintro e w' ⟨rfl, rfl⟩; rw [show Lib.indexByte s.data.toList c = _ from hix])
    go_ret3
    exact ⟨rfl, 0, rfl⟩
  · have e1 : cut1 s c = (s.extract 0 i, s.extract (i + 1) s.size, true) := by rw [cut1, if_neg (by omega), hix]; rfl
    rw [e1]
    clear e1
    have c1 : (0 : Int) ≤ ↑i := by omega
    have c2 : (↑i : Int) ≤ ↑s.size := by omega
    have c3 : (0 : Int) ≤ ↑i + 1 := by omega
    have c4 : (↑i + 1 : Int) ≤ ↑s.size := by omega
    have c5 : IntKind.i64.wrap ((i : Int) + 1) = (i : Int) + 1 := IntWalk.i64_in _ (by omega)
    go_enter Try.func44, Try.ntmps44
    go_wp2_with (go_at_call 46; refine (Try.stringslite_Index_one _ _ _).mono ?_; rintro e w' ⟨rfl, rfl⟩; rw [show Lib.indexByte s.data.toList c = _ from hix])
    go_region
    go_wp2
    go_ret3
    exact ⟨rfl, 1, rfl⟩

theorem strings_Cut.calls (a0 a1 : ByteArray) (r1 r2 : ByteArray) (r3 : Bool) (w : World) (h : strings_Cut.f a0 a1 = some (r1, r2, r3)) :
    Calls Try.prog 35 #[.string a0, .string a1] w fun e w' => e = .returned (.tuple #[.string r1, .string r2, .bool r3]) ∧ Below w.heap.size w w' := by
  unfold strings_Cut.f at h
  split at h
  · rename_i c
    split at h
    case isFalse => cases h
    rename_i hs
    have h := Option.some.inj h
    have e1 : (cut1 a0 c).1 = r1 := by rw [h]
    have e2 : (cut1 a0 c).2.1 = r2 := by rw [h]
    have e3 : (cut1 a0 c).2.2 = r3 := by rw [h]
    subst e1 e2 e3
    clear h
    go_enter Try.func35, Try.ntmps35
    go_wp2_with (go_at_call 44; refine (slCut1 _ _ _ hs).mono ?_; rintro e w' ⟨rfl, n, rfl⟩)
    go_ret3
    exact ⟨rfl, pw_below_drewN (Below.refl _ _) n⟩
  · cases h
end Go.Proofs.Ytlcobphakhcmiaa.PAll
