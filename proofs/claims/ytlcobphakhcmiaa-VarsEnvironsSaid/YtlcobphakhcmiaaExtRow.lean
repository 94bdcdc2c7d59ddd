/- How arguments of nested types are opened: what a datum's reading says of the memory that it was read from. Plain lemmas over any program. -/
import Derived.Test.YtlcobphakhcmiaaExtWords
import Derived.Deep.Slices
import Derived.ChangeArms
import Derived.ChangeShapes
import Derived.DataReads
set_option linter.unusedVariables false
namespace Go.Proofs.YtlcobphakhcmiaaW.PrintWords
open Go.RowKit

/-- Whatever reads as a datum of type t is a value of d's kind, and a good one. -/
def Opens (P : Program) (t : TypeId) {α : Type} (d : Kd α) (good : α → Prop) : Prop :=
  ∀ {H : Type} (enc : TypeId × Value → H) (w : World) (fuel : Nat) (cs : List Value) (x : DataW H × List MemPlace), DataW.trod enc P w 0 (fun _ => true) true fuel t cs = some x → ∃ a, d.K w a cs ∧ good a

section
variable {P : Program} {t e : TypeId} {α : Type} {d : Kd α} {good : α → Prop}
theorem opens_bool (ht : P.underlying t = some .bool) : Opens P t Kd.bool (fun _ => True) := by
  intro H enc w fuel cs x h
  obtain ⟨b, rfl, _⟩ := DataW.trod_bool ht h
  exact ⟨b, rfl, trivial⟩
theorem opens_int {k : IntKind} (ht : P.underlying t = some (.int k)) : Opens P t (Kd.int k) (fun n => (Lit.int k n).wf = true) := by
  intro H enc w fuel cs x h
  obtain ⟨n, rfl, _, hn⟩ := DataW.trod_int ht h
  exact ⟨n, rfl, hn⟩
theorem opens_string (ht : P.underlying t = some .string) : Opens P t Kd.string (fun s => s.size ≤ 9223372036854775807) := by
  intro H enc w fuel cs x h
  obtain ⟨s, rfl, _, hs⟩ := DataW.trod_string ht h
  exact ⟨s, rfl, by simpa [maxLen] using hs⟩
theorem cells_at {w : World} {a : Addr} {n : Nat} {cs : List Value} (h : w.cells? 0 a n = some cs) : cs.length = n ∧ ∀ (i : Nat) (u : Value), cs[i]? = some u → w.cell? (a.add i) = some u := by
  obtain ⟨_, hl, hc⟩ := World.cells?_some h
  refine ⟨hl, fun i u hu => ?_⟩
  have hi := (List.getElem?_eq_some_iff.1 hu).1
  rw [hc i (by omega)]
  exact hu
theorem opens_slice (ht : P.underlying t = some (.slice e)) (hc : P.cellsOf e = d.sz) (h : Opens P e d good) : Opens P t (Kd.slice e d) (fun l => l.length ≤ 9223372036854775807 ∧ ∀ x ∈ l, good x) := by
  intro H enc w fuel cs x hx
  rcases Go.Deep.open_slice ht hx with ⟨rfl, _⟩ | ⟨a, len, cap, m, n, D, Pl, rfl, _, hl, hm, hmm, _, hel⟩
  · exact ⟨[], ⟨none, 0, rfl, Nat.le_refl _, ⟨rfl, by simp, fun hn => absurd hn (by simp)⟩⟩, by simp, fun x hx => by cases hx⟩
  · simp at hmm
    have hm' : cap ≤ 9223372036854775807 := by simpa [maxLen] using hm
    have each : ∀ i : Fin len, ∃ y : α, (∃ cs', w.cells? 0 (a.add (i.1 * d.sz)) d.sz = some cs' ∧ d.K w y cs') ∧ good y := by
      intro i
      obtain ⟨cs', h1, h2⟩ := hel i.1 (by omega)
      rw [hc] at h1
      obtain ⟨y, hK, hg⟩ := h enc w n cs' _ h2
      exact ⟨y, ⟨cs', h1, hK⟩, hg⟩
    obtain ⟨f, hf⟩ := Classical.axiomOfChoice each
    have hlen : (List.ofFn f).length = len := by simp
    refine ⟨List.ofFn f, ⟨some a, cap, by rw [hlen], by rw [hlen]; exact hl, ⟨rfl, by rw [hlen]; omega, fun _ => ⟨a, rfl, fun j p hj => ?_⟩⟩⟩, by rw [hlen]; omega, fun y hy => ?_⟩
    · have hjl : j < len := by have := (List.getElem?_eq_some_iff.1 hj).1; omega
      obtain ⟨⟨cs', h1, hK⟩, _⟩ := hf ⟨j, hjl⟩
      have hp : f ⟨j, hjl⟩ = p := by
        rw [List.getElem?_ofFn] at hj
        simp [hjl] at hj
        exact hj
      rw [hp] at hK
      obtain ⟨hcl, hcell⟩ := cells_at h1
      exact ⟨cs', hcl, hK, fun i u hu => by rw [← Go.Deep.add_add]; exact hcell i u hu⟩
    · obtain ⟨i, rfl⟩ := List.mem_ofFn.1 hy
      exact (hf i).2
/-- An argument that is a slice. -/
theorem Opens.arg {H : Type} {enc : TypeId × Value → H} {w : World} {v : Value} {x : DataW H} {ps : List MemPlace} {l : TypeId} (ho : Opens P t (Kd.slice l d) (fun l => l.length ≤ 9223372036854775807 ∧ ∀ x ∈ l, good x)) (h : DataW.Trod enc P w 0 (fun _ => true) true t v x ps) (hv : v.cells.toList = [v]) :
    ∃ (l : List α) (A : Option Addr) (c : Nat), v = .slice A l.length c ∧ l.length ≤ c ∧ d.C w A l.length l ∧ l.length ≤ 9223372036854775807 ∧ ∀ x ∈ l, good x := by
  obtain ⟨fuel, hf⟩ := h
  rw [hv] at hf
  obtain ⟨l, ⟨A, c, he, hl, hC⟩, hm, hg⟩ := ho enc w fuel _ _ hf
  exact ⟨l, A, c, by simpa using he, hl, hC, hm, hg⟩
end
end Go.Proofs.YtlcobphakhcmiaaW.PrintWords
