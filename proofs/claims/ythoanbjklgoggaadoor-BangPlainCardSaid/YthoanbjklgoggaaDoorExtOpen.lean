/- How this seat's arguments are opened: what a datum's reading says of the memory that it was read from, with the row's own reach for every text in it. -/
import Derived.WideShapes
import Derived.Test.YthoanbjklgoggaaDoorPAllx0
import Derived.Deep.Slices
import Derived.ChangeArms
import Derived.ChangeShapes
import Derived.DataReads
import Derived.SizedLaws
set_option linter.unusedVariables false
set_option linter.unusedSimpArgs false
namespace Go.Proofs.YthoanbjklgoggaaDoorW.PrintWords
open Go.RowKit

/-- Whatever reads as a datum of type t, and weighs no more than the reach, is a value of d's kind, and a good one. -/
def OpensW (P : Program) (t : TypeId) {α : Type} (d : Kd α) (good : α → Prop) : Prop :=
  ∀ {H : Type} (enc : TypeId × Value → H) (w : World) (fuel : Nat) (cs : List Value) (x : DataW H × List MemPlace), DataW.trod enc P w 0 (fun _ => true) true fuel t cs = some x → (∀ n ∈ x.1.weights P t, n ≤ reachBytes) → ∃ a, d.K w a cs ∧ good a
section
variable {P : Program} {t e : TypeId} {α : Type} {d : Kd α} {good : α → Prop}
theorem opensW_string (ht : P.underlying t = some .string) : OpensW P t Kd.string (fun s => s.size ≤ 140737488351232) := by
  intro H enc w fuel cs x h hw
  obtain ⟨s, rfl, rfl, hs⟩ := DataW.trod_string ht h
  have := hw s.data.toList.length (by simp [DataW.weights])
  rw [Array.length_toList] at this
  exact ⟨s, rfl, this⟩
theorem cells_at' {w : World} {a : Addr} {n : Nat} {cs : List Value} (h : w.cells? 0 a n = some cs) : cs.length = n ∧ ∀ i u, cs[i]? = some u → w.cell? (a.add i) = some u := by
  obtain ⟨_, hl, hc⟩ := World.cells?_some h
  refine ⟨hl, fun i u hu => ?_⟩
  have hi := (List.getElem?_eq_some_iff.1 hu).1
  rw [hc i (by omega)]
  exact hu
theorem weightsAll_mem {H : Type} {P : Program} {e : TypeId} : ∀ {l : List (DataW H)} {x : DataW H}, x ∈ l → ∀ n ∈ x.weights P e, n ∈ DataW.weightsAll P e l
  | y :: l, x, hx, n, hn => by
    simp only [DataW.weightsAll, List.mem_append]
    rcases List.mem_cons.1 hx with rfl | h
    · exact Or.inl hn
    · exact Or.inr (weightsAll_mem h n hn)
theorem opensW_slice (ht : P.underlying t = some (.slice e)) (hc : P.cellsOf e = d.sz) (h : OpensW P e d good) : OpensW P t (Kd.slice e d) (fun l => l.length ≤ 9223372036854775807 ∧ ∀ x ∈ l, good x) := by
  intro H enc w fuel cs x hx hw
  rcases Go.Deep.open_slice ht hx with ⟨rfl, _⟩ | ⟨a, len, cap, m, n, D, Pl, rfl, _, hl, hm, hmm, rfl, hel⟩
  · exact ⟨[], ⟨none, 0, rfl, Nat.le_refl _, ⟨rfl, by simp, fun hn => absurd hn (by simp)⟩⟩, by simp, fun x hx => by cases hx⟩
  · simp at hmm
    have hm' : cap ≤ 9223372036854775807 := by simpa [maxLen] using hm
    have each : ∀ i : Fin len, ∃ y : α, (∃ cs', w.cells? 0 (a.add (i.1 * d.sz)) d.sz = some cs' ∧ d.K w y cs') ∧ good y := by
      intro i
      obtain ⟨cs', h1, h2⟩ := hel i.1 (by omega)
      rw [hc] at h1
      obtain ⟨y, hK, hg⟩ := h enc w n cs' _ h2 (fun n hn => hw n (by
        simp only [DataW.weights, ht, List.mem_cons, List.mem_append]
        exact Or.inr (Or.inl (weightsAll_mem (List.mem_map.2 ⟨i.1, List.mem_range.2 i.2, rfl⟩) n hn))))
      exact ⟨y, ⟨cs', h1, hK⟩, hg⟩
    obtain ⟨f, hf⟩ := Classical.axiomOfChoice each
    have hlen : (List.ofFn f).length = len := by simp
    refine ⟨List.ofFn f, ⟨some a, cap, by rw [hlen], by rw [hlen]; exact hl, ⟨rfl, by rw [hlen]; omega, fun _ => ⟨a, rfl, fun j p hj => ?_⟩⟩⟩, by rw [hlen]; omega, fun y hy => ?_⟩
    · have hjl : j < len := by have := (List.getElem?_eq_some_iff.1 hj).1; omega
      obtain ⟨⟨cs', h1, hK⟩, _⟩ := hf ⟨j, hjl⟩
      have hp : f ⟨j, hjl⟩ = p := by
        rw [List.getElem?_ofFn] at hj
        simp [hjl] at hj
        exact hj
      rw [hp] at hK
      obtain ⟨hcl, hcell⟩ := cells_at' h1
      exact ⟨cs', hcl, hK, fun i u hu => by rw [← Go.Deep.add_add]; exact hcell i u hu⟩
    · obtain ⟨i, rfl⟩ := List.mem_ofFn.1 hy
      exact (hf i).2
/-- An argument that is a slice. -/
theorem OpensW.arg {H : Type} {enc : TypeId × Value → H} {w : World} {v : Value} {x : DataW H} {ps : List MemPlace} {l : TypeId} {ts : List TypeId} {ds : List (DataW H)} (ho : OpensW P t (Kd.slice l d) (fun l => l.length ≤ 9223372036854775807 ∧ ∀ x ∈ l, good x)) (h : DataW.Trod enc P w 0 (fun _ => true) true t v x ps) (hv : v.cells.toList = [v])
    (hsz : (DataW.weightsEach P ts ds).all (· ≤ reachBytes) = true) {j : Nat} (hj : ts[j]? = some t) (hd : ds[j]? = some x) :
    ∃ (l : List α) (A : Option Addr) (c : Nat), v = .slice A l.length c ∧ l.length ≤ c ∧ d.C w A l.length l ∧ l.length ≤ 9223372036854775807 ∧ ∀ x ∈ l, good x := by
  obtain ⟨fuel, hf⟩ := h
  rw [hv] at hf
  obtain ⟨l, ⟨A, c, he, hl, hC⟩, hm, hg⟩ := ho enc w fuel _ _ hf (fun n hn => by
    have := List.all_eq_true.1 hsz _ (DataW.weights_mem_each hj hd n hn)
    simpa using this)
  exact ⟨l, A, c, by simpa using he, hl, hC, hm, hg⟩
end
end Go.Proofs.YthoanbjklgoggaaDoorW.PrintWords
namespace Go.Proofs.YthoanbjklgoggaaDoor.PAll
open Go.RowKit Go.Proofs.YthoanbjklgoggaaDoorW.PrintWords Go.Proofs.YthoanbjklgoggaaDoorW.PrintLast Go.Proofs.YthoanbjklgoggaaDoorW.PrintMore
theorem opens22 : OpensW Tryd.prog 22 (Kd.slice 9 Kd.string) (fun l => l.length ≤ 9223372036854775807 ∧ ∀ x ∈ l, x.size ≤ 140737488351232) := opensW_slice Tryd.underlying22 (by kernel_rfl) (opensW_string Tryd.underlying9)
set_option maxRecDepth 100000 in
/-- A history, as an argument. -/
theorem openHist {H : Type} {enc : TypeId × Value → H} {w : World} {base : Nat} {v : Value} {x : DataW H} {ps : List MemPlace} {ts : List TypeId} {ds : List (DataW H)} (hv : Value.okWide Tryd.prog w .any base 24 v) (h : DataW.Trod enc Tryd.prog w 0 (fun _ => true) true 24 v x ps)
    (hsz : (DataW.weightsEach Tryd.prog ts ds).all (· ≤ reachBytes) = true) {j : Nat} (hj : ts[j]? = some 24) (hd : ds[j]? = some x) :
    ∃ (f : Int) (l : List ByteArray) (A : Option Addr) (c : Nat), v = .agg #[.int .i64 f, .slice A l.length c] ∧ l.length ≤ c ∧ Kd.C Kd.string w A l.length l ∧ l.length ≤ 9223372036854775807 ∧ ∀ x ∈ l, x.size ≤ 140737488351232 := by
  obtain ⟨cs0, rfl, hcs⟩ := Go.WideShapes.okWide_struct Tryd.underlying24 hv
  obtain ⟨fuel, hf⟩ := h
  have hc : Tryd.prog.cellsOf 24 = 2 := by kernel_rfl
  have h3 : Tryd.prog.cellsOf 3 = 1 := by kernel_rfl
  have h22 : Tryd.prog.cellsOf 22 = 1 := by kernel_rfl
  have wt : ∀ n ∈ x.weights Tryd.prog 24, n ≤ reachBytes := fun n hn => by
    have := List.all_eq_true.1 hsz _ (DataW.weights_mem_each hj hd n hn)
    simpa using this
  obtain ⟨xs, n, _, ex, hl, hlen, hg⟩ := DataW.trod_struct Tryd.underlying24 hf
  have ecs : (Value.cells (.agg cs0)).toList = cs0.toList := rfl
  rw [ecs] at hl hg hf
  rw [hc] at hl
  obtain ⟨c0, c1, rfl⟩ : ∃ c0 c1, cs0 = #[c0, c1] := by
    have hl' : cs0.toList.length = 2 := by simpa using hl
    match hcc : cs0.toList, hl' with
    | [c0, c1], _ => exact ⟨c0, c1, by rw [← Array.toArray_toList (xs := cs0), hcc]⟩
  match xs, hlen with
  | [y0, y1], _ =>
    have e0 : DataW.trod enc Tryd.prog w 0 (fun _ => true) true n 3 (([c0, c1].drop 0).take (Tryd.prog.cellsOf 3)) = some y0 := hg 0 _ rfl
    have e1 : DataW.trod enc Tryd.prog w 0 (fun _ => true) true n 22 (([c0, c1].drop 1).take (Tryd.prog.cellsOf 22)) = some y1 := hg 1 _ rfl
    rw [h3] at e0
    rw [h22] at e1
    obtain ⟨b1, k1, _⟩ := DataW.trod_int Tryd.underlying3 e0
    simp at k1
    subst k1
    have hx : x = .agg [y0.1, y1.1] := congrArg Prod.fst ex
    obtain ⟨l, ⟨A, c, he, hl2, hC⟩, hm, hgood⟩ := opens22 enc w n _ _ e1 (fun m hm => wt m (by
      rw [hx]
      simp only [DataW.weights, Tryd.underlying24, DataW.weightsEach, List.mem_append]
      simp [DataW.weightsEach, hm]))
    simp at he
    subst he
    exact ⟨b1, l, A, c, rfl, hl2, hC, hm, hgood⟩
end Go.Proofs.YthoanbjklgoggaaDoor.PAll
