/- Plain lemmas: numbers, reads of lists, what small lists of runs are, and the law's own examples. -/
import Derived.Test.YtbkhdgfehgfjpaaExtText
import Derived.Test.YtbkhdgfehgfjpaaExtJoin
namespace Go.Proofs.Ytbkhdgfehgfjpaa.PAll
open Go.RowKit Go.Proofs.YtbkhdgfehgfjpaaW.PrintWords Go.Proofs.YtbkhdgfehgfjpaaW.PrintLast
set_option linter.unusedVariables false
set_option linter.unusedSimpArgs false
theorem wrapS {i : Nat} (h : i < 9223372036854775807) : wrap64 ((i : Int) + 1) = ((i + 1 : Nat) : Int) := by unfold wrap64; omega
theorem wrapA {i j : Nat} (h : i + j ≤ 9223372036854775807) : wrap64 ((i : Int) + (j : Int)) = ((i + j : Nat) : Int) := by unfold wrap64; omega
theorem ilt {i n : Nat} (h : i < n) : (i : Int) < (n : Int) := by omega
theorem ige (i : Nat) : (0 : Int) ≤ (i : Int) := by omega
theorem dropc {α : Type} (l : List α) (i : Nat) (h : i < l.length) : l.drop i = l[i] :: l.drop (i + 1) := List.drop_eq_getElem_cons h
theorem rd38 (l : List S38) (i : Nat) (h : i < l.length) : rd_T38 l (i : Int) = l[i] := by
  unfold rd_T38
  rw [Int.toNat_natCast, List.getD_eq_getElem?_getD, List.getElem?_eq_getElem h]
  rfl
theorem rdo (l : List ByteArray) (i : Nat) (h : i < l.length) : rdOf ByteArray.empty l (i : Int) = l[i] := by
  unfold rdOf
  rw [Int.toNat_natCast, List.getD_eq_getElem?_getD, List.getElem?_eq_getElem h]
  rfl
theorem tl_inj {a b : ByteArray} (h : a.toList = b.toList) : a = b := by
  rw [Go.ByteArray.toList_eq, Go.ByteArray.toList_eq] at h
  cases a; cases b
  congr
  exact Array.toList_inj.1 h
theorem tl_nil {a : ByteArray} : a.toList = [] ↔ a.size = 0 := by
  rw [Go.ByteArray.toList_eq]
  show a.data.toList = [] ↔ a.data.size = 0
  rw [← Array.length_toList]
  exact List.length_eq_zero_iff.symm
theorem dl_len (a : ByteArray) : a.data.toList.length = a.size := by rw [Array.length_toList]; rfl
theorem ba_ext {a b : ByteArray} (h : a.data.toList = b.data.toList) : a = b := by
  cases a; cases b
  congr
  exact Array.toList_inj.1 h
/-- The bytes of the texts together. -/
def tot (l : List S38) : Nat := (catL (l.map (·.f0))).length
theorem tot_cons (x : S38) (l : List S38) : tot (x :: l) = x.f0.size + tot l := by
  unfold tot
  rw [List.map_cons, catL, List.length_append, dl_len]
theorem catL_app (a b : List ByteArray) : catL (a ++ b) = catL a ++ catL b := by
  induction a with
  | nil => rfl
  | cons x t ih => rw [List.cons_append, catL, catL, ih, List.append_assoc]
end Go.Proofs.Ytbkhdgfehgfjpaa.PAll
