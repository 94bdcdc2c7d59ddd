/- strings.Join, by the shelf's contract: in the form of the printed ones. -/
import Derived.Test.YtbkhdgfehgfjpaaPAllx0
import Derived.Test.YtbkhdgfehgfjpaaExtShelf
namespace Go.Proofs.Ytbkhdgfehgfjpaa.PAll
open Go.RowKit Go.Proofs.YtbkhdgfehgfjpaaW.PrintWords Go.Proofs.YtbkhdgfehgfjpaaW.PrintLast Go.Proofs.YtbkhdgfehgfjpaaW.PrintMore
set_option linter.unusedVariables false
/-- Texts with another one between them. -/
def joinL (l : List ByteArray) (sep : ByteArray) : List UInt8 := Lib.join (l.map (·.data.toList)) sep.data.toList
def strings_Join.f (l : List ByteArray) (sep : ByteArray) : Option ByteArray :=
  if (joinL l sep).length ≤ 140737488355328 then (if l.length ≤ 140737488355328 then some ⟨(joinL l sep).toArray⟩ else none) else none
theorem strings_Join.calls (A0 : Option Addr) (c0 : Nat) (l0 : List ByteArray) (a1 : ByteArray) (r : ByteArray) (w : World) (hr0 : Kd.C Kd.string w A0 l0.length l0) (hc0 : l0.length ≤ c0) (h : strings_Join.f l0 a1 = some r) :
    Calls Try.prog 34 #[.slice A0 l0.length c0, .string a1] w fun e w' => e = .returned (.string r) ∧ Below w.heap.size w w' := by
  unfold strings_Join.f at h
  split at h
  case isFalse => cases h
  rename_i ht
  split at h
  case isFalse => cases h
  rename_i hm
  have h := Option.some.inj h
  subst h
  rcases Nat.eq_zero_or_pos l0.length with h0 | h0
  · obtain rfl := List.eq_nil_of_length_eq_zero h0
    refine (Try.strings_Join_none A0 c0 a1 w).mono ?_
    rintro e w' ⟨rfl, rfl⟩
    exact ⟨rfl, Below.refl _ _⟩
  · obtain ⟨ad, rfl, hc⟩ := hr0.2.2 h0
    have cells : ∀ (j : Nat) x, l0[j]? = some x → w.cell? (ad.add j) = some (.string x) := by
      intro j x hj
      obtain ⟨cs, h1, h2, h3⟩ := hc j x hj
      have h2 : cs = [Value.string x] := h2
      subst h2
      have := h3 0 (.string x) rfl
      have e : (Kd.string).sz = 1 := rfl
      rw [e] at this
      simpa using this
    obtain ⟨b, o, sp⟩ := ad
    have first := cells 0 _ (List.getElem?_eq_getElem h0)
    have hsp : sp = none := by
      cases sp with
      | none => rfl
      | some z =>
        exfalso
        have : (Addr.add ⟨b, o, some z⟩ 0) = ⟨b, o, some z⟩ := by simp [Addr.add]
        rw [this] at first
        unfold World.cell? at first
        split at first <;> simp at first
    subst hsp
    have add : ∀ j : Nat, Addr.add ⟨b, o, none⟩ j = ⟨b, o + j, none⟩ := by
      intro j
      unfold Addr.add
      by_cases hj : j = 0 <;> simp [hj]
    have hb : b < w.heap.size := by
      rw [add] at first
      exact World.block_lt_of_cell? w _ first
    refine (Try.strings_Join b o c0 l0 a1 w (fun j x hj => by rw [← add]; exact cells j x hj) hb hm hc0 ht).mono ?_
    rintro e w' ⟨rfl, hb⟩
    exact ⟨rfl, hb⟩
end Go.Proofs.Ytbkhdgfehgfjpaa.PAll
