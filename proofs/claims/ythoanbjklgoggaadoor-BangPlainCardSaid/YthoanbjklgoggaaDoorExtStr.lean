/- The library's searches, Cut, Replace and Join, off the shelf, in the form of the printed contracts; the cell of bytealg.MaxLen, handed on. -/
import Derived.Test.YthoanbjklgoggaaDoorPAllx0
import Derived.Test.YthoanbjklgoggaaDoorExtShelf
namespace Go.Proofs.YthoanbjklgoggaaDoor.PAll
open Go.RowKit Go.Proofs.YthoanbjklgoggaaDoorW.PrintWords Go.Proofs.YthoanbjklgoggaaDoorW.PrintLast Go.Proofs.YthoanbjklgoggaaDoorW.PrintMore
set_option linter.unusedVariables false
/-- The cell of internal/bytealg.MaxLen holds some number. -/
def MaxOk (w : World) : Prop := ∃ m : Int, w.cell? ⟨0, 0, none⟩ = some (.int .i64 m)
theorem MaxOk.le {w w' : World} (h : MaxOk w) (hb : Below w.heap.size w w') : MaxOk w' := by
  obtain ⟨m, hm⟩ := h
  exact ⟨m, (hb.cell (World.block_lt_of_cell? w _ hm)).trans hm⟩
theorem MaxOk.of (w : World) (h : w.ShapedOpen Tryd.prog) : MaxOk w := Tryd.laysM144.s1_3 w h
def strings_Contains.f (s sub : ByteArray) : Option Bool := if s.size < 4294967281 then some (Lib.contains s.data.toList sub.data.toList) else none
theorem strings_Contains.calls (a0 a1 : ByteArray) (r : Bool) (w : World) (hM : MaxOk w) (h : strings_Contains.f a0 a1 = some r) :
    Calls Tryd.prog 31 #[.string a0, .string a1] w fun e w' => e = .returned (.bool r) ∧ Below w.heap.size w w' := by
  unfold strings_Contains.f at h
  split at h
  case isFalse => cases h
  rename_i hs
  have h := Option.some.inj h
  subst h
  obtain ⟨m, hm⟩ := hM
  refine (Tryd.strings_Contains _ _ m _ hs hm).mono ?_
  rintro e w' ⟨rfl, rfl⟩
  exact ⟨rfl, Below.refl _ _⟩
def strings_Cut.f (s sep : ByteArray) : Option (ByteArray × ByteArray × Bool) :=
  if s.size < 4294967281 then some (⟨(Lib.cut s.data.toList sep.data.toList).1.toArray⟩, ⟨(Lib.cut s.data.toList sep.data.toList).2.1.toArray⟩, (Lib.cut s.data.toList sep.data.toList).2.2) else none
theorem strings_Cut.calls (a0 a1 : ByteArray) (r1 r2 : ByteArray) (r3 : Bool) (w : World) (hM : MaxOk w) (h : strings_Cut.f a0 a1 = some (r1, r2, r3)) :
    Calls Tryd.prog 29 #[.string a0, .string a1] w fun e w' => e = .returned (.tuple #[.string r1, .string r2, .bool r3]) ∧ Below w.heap.size w w' := by
  unfold strings_Cut.f at h
  split at h
  case isFalse => cases h
  rename_i hs
  have h := Option.some.inj h
  rw [Prod.mk.injEq, Prod.mk.injEq] at h
  obtain ⟨rfl, rfl, rfl⟩ := h
  obtain ⟨m, hm⟩ := hM
  refine (Tryd.strings_Cut _ _ m _ hs hm).mono ?_
  rintro e w' ⟨rfl, n, rfl⟩
  exact ⟨rfl, pw_below_drewN (Below.refl _ _) n⟩
def strings_Replace.f (s old new : ByteArray) (n : Int) : Option ByteArray :=
  if s.size < 4294967281 then (if 1 ≤ old.size then (if s.size + Lib.countB s old * new.size ≤ 140737488355328 then some ⟨(Lib.replace s.data.toList old.data.toList new.data.toList n).toArray⟩ else none) else none) else none
theorem strings_Replace.calls (a0 a1 a2 : ByteArray) (a3 : Int) (r : ByteArray) (w : World) (hM : MaxOk w) (h : strings_Replace.f a0 a1 a2 a3 = some r) :
    Calls Tryd.prog 32 #[.string a0, .string a1, .string a2, .int .i64 a3] w fun e w' => e = .returned (.string r) ∧ Below w.heap.size w w' := by
  unfold strings_Replace.f at h
  split at h
  case isFalse => cases h
  rename_i hs
  split at h
  case isFalse => cases h
  rename_i h1
  split at h
  case isFalse => cases h
  rename_i h2
  have h := Option.some.inj h
  subst h
  obtain ⟨m, hm⟩ := hM
  exact Tryd.strings_Replace _ _ _ _ m _ hs hm h1 h2
/-- Texts with another one between them. -/
def joinL (l : List ByteArray) (sep : ByteArray) : List UInt8 := Lib.join (l.map (·.data.toList)) sep.data.toList
def strings_Join.f (l : List ByteArray) (sep : ByteArray) : Option ByteArray :=
  if (joinL l sep).length ≤ 140737488355328 then (if l.length ≤ 140737488355328 then some ⟨(joinL l sep).toArray⟩ else none) else none
theorem strings_Join.calls (A0 : Option Addr) (c0 : Nat) (l0 : List ByteArray) (a1 : ByteArray) (r : ByteArray) (w : World) (hr0 : Kd.C Kd.string w A0 l0.length l0) (hc0 : l0.length ≤ c0) (h : strings_Join.f l0 a1 = some r) :
    Calls Tryd.prog 53 #[.slice A0 l0.length c0, .string a1] w fun e w' => e = .returned (.string r) ∧ Below w.heap.size w w' := by
  unfold strings_Join.f at h
  split at h
  case isFalse => cases h
  rename_i ht
  split at h
  case isFalse => cases h
  rename_i hm
  have h := Option.some.inj h
  subst h
  rcases Nat.eq_zero_or_pos l0.length with h0 | h0
  · obtain rfl := List.eq_nil_of_length_eq_zero h0
    refine (Tryd.strings_Join_none A0 c0 a1 w).mono ?_
    rintro e w' ⟨rfl, rfl⟩
    exact ⟨rfl, Below.refl _ _⟩
  · obtain ⟨ad, rfl, hc⟩ := hr0.2.2 h0
    have cells : ∀ (j : Nat) x, l0[j]? = some x → w.cell? (ad.add j) = some (.string x) := by
      intro j x hj
      obtain ⟨cs, h1, h2, h3⟩ := hc j x hj
      have h2 : cs = [Value.string x] := h2
      subst h2
      have := h3 0 (.string x) rfl
      have e : (Kd.string).sz = 1 := rfl
      rw [e] at this
      simpa using this
    obtain ⟨b, o, sp⟩ := ad
    have first := cells 0 _ (List.getElem?_eq_getElem h0)
    have hsp : sp = none := by
      cases sp with
      | none => rfl
      | some z =>
        exfalso
        have : (Addr.add ⟨b, o, some z⟩ 0) = ⟨b, o, some z⟩ := by simp [Addr.add]
        rw [this] at first
        unfold World.cell? at first
        split at first <;> simp at first
    subst hsp
    have add : ∀ j : Nat, Addr.add ⟨b, o, none⟩ j = ⟨b, o + j, none⟩ := by
      intro j
      unfold Addr.add
      by_cases hj : j = 0 <;> simp [hj]
    have hb : b < w.heap.size := by
      rw [add] at first
      exact World.block_lt_of_cell? w _ first
    refine (Tryd.strings_Join b o c0 l0 a1 w (fun j x hj => by rw [← add]; exact cells j x hj) hb hm hc0 ht).mono ?_
    rintro e w' ⟨rfl, hb⟩
    exact ⟨rfl, hb⟩
end Go.Proofs.YthoanbjklgoggaaDoor.PAll
