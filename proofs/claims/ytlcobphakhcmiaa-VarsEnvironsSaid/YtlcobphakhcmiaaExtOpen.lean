/- The arguments' types of this seat, opened. -/
import Derived.Test.YtlcobphakhcmiaaExtRow
import Derived.Test.YtlcobphakhcmiaaPAllx0
import Derived.OpenShut
set_option linter.unusedVariables false
namespace Go.Proofs.Ytlcobphakhcmiaa.PAll
open Go.RowKit Go.Proofs.YtlcobphakhcmiaaW.PrintWords Go.Proofs.YtlcobphakhcmiaaW.PrintLast Go.Proofs.YtlcobphakhcmiaaW.PrintMore
/-- Sizes that Go can tell. -/
def good26 (x : S26) : Prop := x.f0.size ≤ 9223372036854775807 ∧ x.f1.size ≤ 9223372036854775807
theorem opens26 : Opens Try.prog 26 k26 good26 := by
  intro H enc w fuel cs x h
  obtain ⟨xs, n, _, _, hl, hlen, hf⟩ := DataW.trod_struct Try.underlying26 h
  have hc : Try.prog.cellsOf 26 = 5 := by kernel_rfl
  have h9 : Try.prog.cellsOf 9 = 1 := by kernel_rfl
  have h4 : Try.prog.cellsOf 4 = 1 := by kernel_rfl
  rw [hc] at hl
  match cs, hl with
  | [c0, c1, c2, c3, c4], _ =>
    match xs, hlen with
    | [y0, y1, y2, y3, y4], _ =>
      have e0 : DataW.trod enc Try.prog w 0 (fun _ => true) true n 9 (([c0, c1, c2, c3, c4].drop 0).take (Try.prog.cellsOf 9)) = some y0 := hf 0 _ rfl
      have e1 : DataW.trod enc Try.prog w 0 (fun _ => true) true n 9 (([c0, c1, c2, c3, c4].drop 1).take (Try.prog.cellsOf 9)) = some y1 := hf 1 _ rfl
      have e2 : DataW.trod enc Try.prog w 0 (fun _ => true) true n 4 (([c0, c1, c2, c3, c4].drop 2).take (Try.prog.cellsOf 4)) = some y2 := hf 2 _ rfl
      have e3 : DataW.trod enc Try.prog w 0 (fun _ => true) true n 4 (([c0, c1, c2, c3, c4].drop 3).take (Try.prog.cellsOf 4)) = some y3 := hf 3 _ rfl
      have e4 : DataW.trod enc Try.prog w 0 (fun _ => true) true n 4 (([c0, c1, c2, c3, c4].drop 4).take (Try.prog.cellsOf 4)) = some y4 := hf 4 _ rfl
      rw [h9] at e0 e1
      rw [h4] at e2 e3 e4
      obtain ⟨s0, k0, _, g0⟩ := DataW.trod_string Try.underlying9 e0
      obtain ⟨s1, k1, _, g1⟩ := DataW.trod_string Try.underlying9 e1
      obtain ⟨b2, k2, _⟩ := DataW.trod_bool Try.underlying4 e2
      obtain ⟨b3, k3, _⟩ := DataW.trod_bool Try.underlying4 e3
      obtain ⟨b4, k4, _⟩ := DataW.trod_bool Try.underlying4 e4
      simp at k0 k1 k2 k3 k4
      subst k0 k1 k2 k3 k4
      exact ⟨⟨s0, s1, b2, b3, b4⟩, k26_mk w _, by simpa [maxLen] using g0, by simpa [maxLen] using g1⟩
theorem opens22 : Opens Try.prog 22 (Kd.slice 26 k26) (fun l => l.length ≤ 9223372036854775807 ∧ ∀ x ∈ l, good26 x) := opens_slice Try.underlying22 (by kernel_rfl) opens26
theorem opens44 : Opens Try.prog 44 (Kd.slice 9 Kd.string) (fun l => l.length ≤ 9223372036854775807 ∧ ∀ x ∈ l, x.size ≤ 9223372036854775807) := opens_slice Try.underlying44 (by kernel_rfl) (opens_string Try.underlying9)
/-- [2]bool by value. -/
theorem open40 {H : Type} {enc : TypeId × Value → H} {w W : World} {r : Reach} {b0 : Nat} {v : Value} {d : DataW H} {p : List MemPlace} (hv : Value.okWide Try.prog W r b0 40 v) (h : DataW.Trod enc Try.prog w 0 (fun _ => true) true 40 v d p) : ∃ a b : Bool, v = .agg #[.bool a, .bool b] := by
  obtain ⟨cs, rfl, hcs, _⟩ : ∃ cs, v = .agg cs ∧ cs.size = Try.prog.cellsOf 40 ∧ Row.okWide Try.prog W r b0 40 cs := by simpa [Value.okWide, Try.underlying40] using hv
  obtain ⟨fuel, hf⟩ := h
  obtain ⟨xs, m, _, _, hl, hlen, hx⟩ := DataW.trod_array Try.underlying40 hf
  have hc : Try.prog.cellsOf 40 = 2 := by kernel_rfl
  have h4 : Try.prog.cellsOf 4 = 1 := by kernel_rfl
  rw [hc] at hl
  simp only [Value.cells] at hl hx
  match xs, hlen with
  | [y0, y1], _ =>
    have hcl : ∃ c0 c1, cs.toList = [c0, c1] := by
      match h : cs.toList, hl with
      | [c0, c1], _ => exact ⟨c0, c1, rfl⟩
    obtain ⟨c0, c1, hcc⟩ := hcl
    have e0 := hx 0 (by omega)
    have e1 := hx 1 (by omega)
    rw [h4, hcc] at e0 e1
    obtain ⟨b0, k0, _⟩ := DataW.trod_bool Try.underlying4 e0
    obtain ⟨b1, k1, _⟩ := DataW.trod_bool Try.underlying4 e1
    simp at k0 k1
    subst k0 k1
    exact ⟨b0, b1, by rw [← Array.toArray_toList (xs := cs), hcc]⟩
/-- [2]string by value. -/
theorem open51 {H : Type} {enc : TypeId × Value → H} {w W : World} {r : Reach} {b0 : Nat} {v : Value} {d : DataW H} {p : List MemPlace} (hv : Value.okWide Try.prog W r b0 51 v) (h : DataW.Trod enc Try.prog w 0 (fun _ => true) true 51 v d p) : ∃ a b : ByteArray, v = .agg #[.string a, .string b] := by
  obtain ⟨cs, rfl, hcs, _⟩ : ∃ cs, v = .agg cs ∧ cs.size = Try.prog.cellsOf 51 ∧ Row.okWide Try.prog W r b0 51 cs := by simpa [Value.okWide, Try.underlying51] using hv
  obtain ⟨fuel, hf⟩ := h
  obtain ⟨xs, m, _, _, hl, hlen, hx⟩ := DataW.trod_array Try.underlying51 hf
  have hc : Try.prog.cellsOf 51 = 2 := by kernel_rfl
  have h4 : Try.prog.cellsOf 9 = 1 := by kernel_rfl
  rw [hc] at hl
  simp only [Value.cells] at hl hx
  match xs, hlen with
  | [y0, y1], _ =>
    have hcl : ∃ c0 c1, cs.toList = [c0, c1] := by
      match h : cs.toList, hl with
      | [c0, c1], _ => exact ⟨c0, c1, rfl⟩
    obtain ⟨c0, c1, hcc⟩ := hcl
    have e0 := hx 0 (by omega)
    have e1 := hx 1 (by omega)
    rw [h4, hcc] at e0 e1
    obtain ⟨b0, k0, _⟩ := DataW.trod_string Try.underlying9 e0
    obtain ⟨b1, k1, _⟩ := DataW.trod_string Try.underlying9 e1
    simp at k0 k1
    subst k0 k1
    exact ⟨b0, b1, by rw [← Array.toArray_toList (xs := cs), hcc]⟩
end Go.Proofs.Ytlcobphakhcmiaa.PAll
