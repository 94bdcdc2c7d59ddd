/- How this seat's arguments are opened: what a datum's reading says of the memory that it was read from, with the row's own reach for every text in it. -/
import Derived.Test.YtbkhdgfehgfjpaaExtWords
import Derived.Test.YtbkhdgfehgfjpaaPAllx0
import Derived.Deep.Slices
import Derived.ChangeArms
import Derived.ChangeShapes
import Derived.DataReads
import Derived.SizedLaws
set_option linter.unusedVariables false
namespace Go.Proofs.YtbkhdgfehgfjpaaW.PrintWords
open Go.RowKit

/-- Whatever reads as a datum of type t, and weighs no more than the reach, is a value of d's kind, and a good one. -/
def OpensW (P : Program) (t : TypeId) {α : Type} (d : Kd α) (good : α → Prop) : Prop :=
  ∀ {H : Type} (enc : TypeId × Value → H) (w : World) (fuel : Nat) (cs : List Value) (x : DataW H × List MemPlace), DataW.trod enc P w 0 (fun _ => true) true fuel t cs = some x → (∀ n ∈ x.1.weights P t, n ≤ reachBytes) → ∃ a, d.K w a cs ∧ good a
section
variable {P : Program} {t e : TypeId} {α : Type} {d : Kd α} {good : α → Prop}
theorem opensW_string (ht : P.underlying t = some .string) : OpensW P t Kd.string (fun s => s.size ≤ 140737488351232) := by
  intro H enc w fuel cs x h hw
  obtain ⟨s, rfl, rfl, hs⟩ := DataW.trod_string ht h
  have := hw s.data.toList.length (by simp [DataW.weights])
  rw [Array.length_toList] at this
  exact ⟨s, rfl, this⟩
theorem cells_at' {w : World} {a : Addr} {n : Nat} {cs : List Value} (h : w.cells? 0 a n = some cs) : cs.length = n ∧ ∀ i u, cs[i]? = some u → w.cell? (a.add i) = some u := by
  obtain ⟨_, hl, hc⟩ := World.cells?_some h
  refine ⟨hl, fun i u hu => ?_⟩
  have hi := (List.getElem?_eq_some_iff.1 hu).1
  rw [hc i (by omega)]
  exact hu
theorem weightsAll_mem {H : Type} {P : Program} {e : TypeId} : ∀ {l : List (DataW H)} {x : DataW H}, x ∈ l → ∀ n ∈ x.weights P e, n ∈ DataW.weightsAll P e l
  | y :: l, x, hx, n, hn => by
    simp only [DataW.weightsAll, List.mem_append]
    rcases List.mem_cons.1 hx with rfl | h
    · exact Or.inl hn
    · exact Or.inr (weightsAll_mem h n hn)
theorem opensW_slice (ht : P.underlying t = some (.slice e)) (hc : P.cellsOf e = d.sz) (h : OpensW P e d good) : OpensW P t (Kd.slice e d) (fun l => l.length ≤ 9223372036854775807 ∧ ∀ x ∈ l, good x) := by
  intro H enc w fuel cs x hx hw
  rcases Go.Deep.open_slice ht hx with ⟨rfl, _⟩ | ⟨a, len, cap, m, n, D, Pl, rfl, _, hl, hm, hmm, rfl, hel⟩
  · exact ⟨[], ⟨none, 0, rfl, Nat.le_refl _, ⟨rfl, by simp, fun hn => absurd hn (by simp)⟩⟩, by simp, fun x hx => by cases hx⟩
  · simp at hmm
    have hm' : cap ≤ 9223372036854775807 := by simpa [maxLen] using hm
    have each : ∀ i : Fin len, ∃ y : α, (∃ cs', w.cells? 0 (a.add (i.1 * d.sz)) d.sz = some cs' ∧ d.K w y cs') ∧ good y := by
      intro i
      obtain ⟨cs', h1, h2⟩ := hel i.1 (by omega)
      rw [hc] at h1
      obtain ⟨y, hK, hg⟩ := h enc w n cs' _ h2 (fun n hn => hw n (by
        simp only [DataW.weights, ht, List.mem_cons, List.mem_append]
        exact Or.inr (Or.inl (weightsAll_mem (List.mem_map.2 ⟨i.1, List.mem_range.2 i.2, rfl⟩) n hn))))
      exact ⟨y, ⟨cs', h1, hK⟩, hg⟩
    obtain ⟨f, hf⟩ := Classical.axiomOfChoice each
    have hlen : (List.ofFn f).length = len := by simp
    refine ⟨List.ofFn f, ⟨some a, cap, by rw [hlen], by rw [hlen]; exact hl, ⟨rfl, by rw [hlen]; omega, fun _ => ⟨a, rfl, fun j p hj => ?_⟩⟩⟩, by rw [hlen]; omega, fun y hy => ?_⟩
    · have hjl : j < len := by have := (List.getElem?_eq_some_iff.1 hj).1; omega
      obtain ⟨⟨cs', h1, hK⟩, _⟩ := hf ⟨j, hjl⟩
      have hp : f ⟨j, hjl⟩ = p := by
        rw [List.getElem?_ofFn] at hj
        simp [hjl] at hj
        exact hj
      rw [hp] at hK
      obtain ⟨hcl, hcell⟩ := cells_at' h1
      exact ⟨cs', hcl, hK, fun i u hu => by rw [← Go.Deep.add_add]; exact hcell i u hu⟩
    · obtain ⟨i, rfl⟩ := List.mem_ofFn.1 hy
      exact (hf i).2
/-- An argument that is a slice. -/
theorem OpensW.arg {H : Type} {enc : TypeId × Value → H} {w : World} {v : Value} {x : DataW H} {ps : List MemPlace} {l : TypeId} {ts : List TypeId} {ds : List (DataW H)} (ho : OpensW P t (Kd.slice l d) (fun l => l.length ≤ 9223372036854775807 ∧ ∀ x ∈ l, good x)) (h : DataW.Trod enc P w 0 (fun _ => true) true t v x ps) (hv : v.cells.toList = [v])
    (hsz : (DataW.weightsEach P ts ds).all (· ≤ reachBytes) = true) {j : Nat} (hj : ts[j]? = some t) (hd : ds[j]? = some x) :
    ∃ (l : List α) (A : Option Addr) (c : Nat), v = .slice A l.length c ∧ l.length ≤ c ∧ d.C w A l.length l ∧ l.length ≤ 9223372036854775807 ∧ ∀ x ∈ l, good x := by
  obtain ⟨fuel, hf⟩ := h
  rw [hv] at hf
  obtain ⟨l, ⟨A, c, he, hl, hC⟩, hm, hg⟩ := ho enc w fuel _ _ hf (fun n hn => by
    have := List.all_eq_true.1 hsz _ (DataW.weights_mem_each hj hd n hn)
    simpa using this)
  exact ⟨l, A, c, by simpa using he, hl, hC, hm, hg⟩
end
end Go.Proofs.YtbkhdgfehgfjpaaW.PrintWords
namespace Go.Proofs.Ytbkhdgfehgfjpaa.PAll
open Go.RowKit Go.Proofs.YtbkhdgfehgfjpaaW.PrintWords Go.Proofs.YtbkhdgfehgfjpaaW.PrintLast Go.Proofs.YtbkhdgfehgfjpaaW.PrintMore
/-- A run: its text within the reach. -/
def good38 (x : S38) : Prop := x.f0.size ≤ 140737488351232
theorem opens38 : OpensW Try.prog 38 k38 good38 := by
  intro H enc w fuel cs x h hw
  obtain ⟨xs, n, _, rfl, hl, hlen, hf⟩ := DataW.trod_struct Try.underlying38 h
  have hc : Try.prog.cellsOf 38 = 2 := by kernel_rfl
  have h9 : Try.prog.cellsOf 9 = 1 := by kernel_rfl
  have h3 : Try.prog.cellsOf 3 = 1 := by kernel_rfl
  rw [hc] at hl
  match cs, hl with
  | [c0, c1], _ =>
    match xs, hlen with
    | [y0, y1], _ =>
      have e0 : DataW.trod enc Try.prog w 0 (fun _ => true) true n 9 (([c0, c1].drop 0).take (Try.prog.cellsOf 9)) = some y0 := hf 0 _ rfl
      have e1 : DataW.trod enc Try.prog w 0 (fun _ => true) true n 3 (([c0, c1].drop 1).take (Try.prog.cellsOf 3)) = some y1 := hf 1 _ rfl
      rw [h9] at e0
      rw [h3] at e1
      obtain ⟨s0, k0, g00, g0⟩ := DataW.trod_string Try.underlying9 e0
      obtain ⟨b1, k1, _⟩ := DataW.trod_int Try.underlying3 e1
      simp at k0 k1
      subst k0 k1 g00
      have := hw s0.data.toList.length (by simp [DataW.weights, Try.underlying38, DataW.weightsEach])
      rw [Array.length_toList] at this
      exact ⟨⟨s0, b1⟩, k38_mk w _, this⟩
theorem opens22 : OpensW Try.prog 22 (Kd.slice 38 k38) (fun l => l.length ≤ 9223372036854775807 ∧ ∀ x ∈ l, good38 x) := opensW_slice Try.underlying22 (by kernel_rfl) opens38
theorem opens29 : OpensW Try.prog 29 (Kd.slice 9 Kd.string) (fun l => l.length ≤ 9223372036854775807 ∧ ∀ x ∈ l, x.size ≤ 140737488351232) := opensW_slice Try.underlying29 (by kernel_rfl) (opensW_string Try.underlying9)
end Go.Proofs.Ytbkhdgfehgfjpaa.PAll
