/- The histories' tests come to an end, and Expand leaves a line without an exclamation mark as it is: in plain Lean. -/
import Derived.Test.YthoanbjklgoggaaDoorPAllx4
import Derived.Test.YthoanbjklgoggaaDoorPAllx5
import Derived.Test.YthoanbjklgoggaaDoorExtExpand
import Derived.Laws.RangeAny
import Derived.KernelRfl
namespace Go.Proofs.YthoanbjklgoggaaDoor.PAll
open Go.RowKit Go.Proofs.YthoanbjklgoggaaDoorW.PrintWords Go.Proofs.YthoanbjklgoggaaDoorW.PrintLast
set_option linter.unusedVariables false
set_option linter.unusedSimpArgs false
theorem wrapS {i : Nat} (h : i < 9223372036854775807) : wrap64 ((i : Int) + 1) = ((i + 1 : Nat) : Int) := by unfold wrap64; omega
theorem ilt {i n : Nat} (h : i < n) : (i : Int) < (n : Int) := by omega
theorem ige (i : Nat) : (0 : Int) ≤ (i : Int) := by omega
theorem dl_len (a : ByteArray) : a.data.toList.length = a.size := by rw [Array.length_toList]; rfl
theorem ba_ext {a b : ByteArray} (h : a.data.toList = b.data.toList) : a = b := by
  cases a with | mk x => cases b with | mk y => exact congrArg ByteArray.mk (Array.ext' h)
theorem bt_nat (s : ByteArray) (i : Nat) (h : i < s.size) : bt s (i : Int) = ((s[i]'h).toNat : Int) := (bt_at s (i : Int) (by simpa using h)).symm
theorem ev_small (h0 : Int) (l : List ByteArray) : ∀ (d i : Nat) (n : Int), 140 - i ≤ d → i ≤ 140 → ∃ r, Ev (fun k => jobshellref43_Small.l0 k n (i : Int) h0 l) r := by
  intro d
  induction d with
  | zero =>
    intro i n h1 h2
    have hi : ¬ (i : Int) < 140 := by omega
    have e : ∃ r, ∀ k, jobshellref43_Small.l0 (k + 1) n (i : Int) h0 l = some r := by
      by_cases c1 : (i : Int) < (l.length : Int)
      · by_cases c2 : (l.length : Int) ≤ 140
        · exact ⟨decide (n < 30000), fun k => by simp only [jobshellref43_Small.l0]; rw [if_pos c1, if_neg hi, if_pos c2]⟩
        · exact ⟨false, fun k => by simp only [jobshellref43_Small.l0]; rw [if_pos c1, if_neg hi, if_neg c2]⟩
      · by_cases c2 : (l.length : Int) ≤ 140
        · exact ⟨decide (n < 30000), fun k => by simp only [jobshellref43_Small.l0]; rw [if_neg c1, if_pos c2]⟩
        · exact ⟨false, fun k => by simp only [jobshellref43_Small.l0]; rw [if_neg c1, if_neg c2]⟩
    obtain ⟨r, hr⟩ := e
    exact ⟨r, Ev.step hr (Ev.now r)⟩
  | succ d ih =>
    intro i n h1 h2
    by_cases c1 : (i : Int) < (l.length : Int)
    · by_cases c3 : (i : Int) < 140
      · by_cases c4 : n < 30000
        · obtain ⟨r, hr⟩ := ih (i + 1) (wrap64 (n + ((rdOf ByteArray.empty l (i : Int)).size : Int))) (by omega) (by omega)
          refine ⟨r, Ev.step (fun k => ?_) hr⟩
          simp only [jobshellref43_Small.l0]
          rw [if_pos c1, if_pos c3, if_pos c4, if_pos (ige i), wrapS (by omega)]
        · by_cases c2 : (l.length : Int) ≤ 140
          · exact ⟨decide (n < 30000), Ev.step (fun k => by simp only [jobshellref43_Small.l0]; rw [if_pos c1, if_pos c3, if_neg c4, if_pos c2]) (Ev.now _)⟩
          · exact ⟨false, Ev.step (fun k => by simp only [jobshellref43_Small.l0]; rw [if_pos c1, if_pos c3, if_neg c4, if_neg c2]) (Ev.now _)⟩
      · by_cases c2 : (l.length : Int) ≤ 140
        · exact ⟨decide (n < 30000), Ev.step (fun k => by simp only [jobshellref43_Small.l0]; rw [if_pos c1, if_neg c3, if_pos c2]) (Ev.now _)⟩
        · exact ⟨false, Ev.step (fun k => by simp only [jobshellref43_Small.l0]; rw [if_pos c1, if_neg c3, if_neg c2]) (Ev.now _)⟩
    · by_cases c2 : (l.length : Int) ≤ 140
      · exact ⟨decide (n < 30000), Ev.step (fun k => by simp only [jobshellref43_Small.l0]; rw [if_neg c1, if_pos c2]) (Ev.now _)⟩
      · exact ⟨false, Ev.step (fun k => by simp only [jobshellref43_Small.l0]; rw [if_neg c1, if_neg c2]) (Ev.now _)⟩
theorem ev_feeds (s : ByteArray) (hB : s.size ≤ 1099511627776000) : ∀ (d i : Nat), s.size - i ≤ d → i ≤ s.size → ∃ r, Ev (fun k => jobshellref43_feeds.l0 k s (i : Int)) r := by
  intro d
  induction d with
  | zero =>
    intro i h1 h2
    exact ⟨false, Ev.step (fun k => by simp only [jobshellref43_feeds.l0]; rw [if_neg (by omega)]) (Ev.now _)⟩
  | succ d ih =>
    intro i h1 h2
    by_cases c1 : (i : Int) < (s.size : Int)
    · by_cases c2 : bt s (i : Int) = 10
      · exact ⟨true, Ev.step (fun k => by simp only [jobshellref43_feeds.l0]; rw [if_pos c1, if_pos (ige i), if_pos c2]) (Ev.now _)⟩
      · obtain ⟨r, hr⟩ := ih (i + 1) (by omega) (by omega)
        exact ⟨r, Ev.step (fun k => by simp only [jobshellref43_feeds.l0]; rw [if_pos c1, if_pos (ige i), if_neg c2, wrapS (by omega)]) hr⟩
    · exact ⟨false, Ev.step (fun k => by simp only [jobshellref43_feeds.l0]; rw [if_neg c1]) (Ev.now _)⟩
theorem rdOf_mem (l : List ByteArray) (i : Nat) (h : i < l.length) : rdOf ByteArray.empty l (i : Int) ∈ l := by
  unfold rdOf
  rw [Int.toNat_natCast, List.getD_eq_getElem?_getD, List.getElem?_eq_getElem h]
  exact List.getElem_mem h
theorem ev_valid_l0 (h0 : Int) (l : List ByteArray) (hl : l.length ≤ 128) (hs : ∀ x ∈ l, x.size ≤ 140737488351232) : ∀ (d i : Nat), l.length - i ≤ d → i ≤ l.length → ∃ r, Ev (fun k => jobshellref43_Valid.l0 k (i : Int) h0 l) r := by
  intro d
  induction d with
  | zero =>
    intro i h1 h2
    exact ⟨0, Ev.step (fun k => by simp only [jobshellref43_Valid.l0]; rw [if_neg (by omega)]) (Ev.now _)⟩
  | succ d ih =>
    intro i h1 h2
    by_cases c1 : (i : Int) < (l.length : Int)
    · obtain ⟨x, hx⟩ : ∃ x, rdOf ByteArray.empty l (i : Int) = x := ⟨_, rfl⟩
      have hm := hs x (hx ▸ rdOf_mem l i (by omega))
      obtain ⟨r2, hr2⟩ := ih (i + 1) (by omega) (by omega)
      have j2 : ∀ b, ∃ r, Ev (fun k => jobshellref43_Valid.j2 k (i : Int) x b h0 l) r := by
        intro b
        cases b with
        | true => exact ⟨1, Ev.step (fun k => by simp only [jobshellref43_Valid.j2]; rw [if_pos trivial]) (Ev.now _)⟩
        | false =>
          by_cases c2 : (x.size : Int) > 4096
          · exact ⟨3, Ev.step (fun k => by simp only [jobshellref43_Valid.j2]; rw [if_neg (by simp), if_pos c2]) (Ev.now _)⟩
          · by_cases c3 : (i : Int) > 0
            · have w1 : wrap64 ((i : Int) - 1) = ((i - 1 : Nat) : Int) := by unfold wrap64; omega
              by_cases c4 : x.toList = (rdOf ByteArray.empty l ((i - 1 : Nat) : Int)).toList
              · exact ⟨9, Ev.step (fun k => by simp only [jobshellref43_Valid.j2]; rw [if_neg (by simp), if_neg c2, if_pos c3, w1, if_pos (ige _), if_pos (by omega), if_pos c4]) (Ev.now _)⟩
              · exact ⟨r2, Ev.step (fun k => by simp only [jobshellref43_Valid.j2]; rw [if_neg (by simp), if_neg c2, if_pos c3, w1, if_pos (ige _), if_pos (by omega), if_neg c4, wrapS (by omega)]) hr2⟩
            · exact ⟨r2, Ev.step (fun k => by simp only [jobshellref43_Valid.j2]; rw [if_neg (by simp), if_neg c2, if_neg c3, wrapS (by omega)]) hr2⟩
      by_cases c5 : x.toList = ([] : List UInt8)
      · obtain ⟨r, hr⟩ := j2 true
        exact ⟨r, Ev.step (fun k => by simp only [jobshellref43_Valid.l0]; rw [if_pos c1, if_pos (ige i), hx, if_pos c5]) hr⟩
      · obtain ⟨b, hb⟩ := ev_feeds x (by omega) _ 0 (Nat.le_refl _) (by omega)
        obtain ⟨r, hr⟩ := j2 b
        exact ⟨r, Ev.step (fun k => by simp only [jobshellref43_Valid.l0]; rw [if_pos c1, if_pos (ige i), hx, if_neg c5]) (Ev.bind (g := fun k => jobshellref43_feeds.f k x) hb hr)⟩
    · exact ⟨0, Ev.step (fun k => by simp only [jobshellref43_Valid.l0]; rw [if_neg c1]) (Ev.now _)⟩
theorem ev_valid (h0 : Int) (l : List ByteArray) (hs : ∀ x ∈ l, x.size ≤ 140737488351232) : ∃ r, Ev (fun k => jobshellref43_Valid.f k h0 l) r := by
  unfold jobshellref43_Valid.f
  by_cases c1 : (l.length : Int) > 128
  · exact ⟨4, by simp only [if_pos c1]; exact Ev.now _⟩
  · simp only [if_neg c1]
    have j0 : ∀ b, ∃ r, Ev (fun k => jobshellref43_Valid.j0 k b h0 l) r := by
      intro b
      cases b with
      | true => exact ⟨2, Ev.step (fun k => by simp only [jobshellref43_Valid.j0]; rw [if_pos trivial]) (Ev.now _)⟩
      | false =>
        obtain ⟨r, hr⟩ := ev_valid_l0 h0 l (by omega) hs _ 0 (Nat.le_refl _) (by omega)
        exact ⟨r, Ev.step (fun k => by simp only [jobshellref43_Valid.j0]; rw [if_neg (by simp)]; rfl) hr⟩
    by_cases c2 : h0 < 1
    · simp only [if_pos c2]
      exact j0 true
    · simp only [if_neg c2]
      exact j0 _
theorem ev_ok (h0 : Int) (l : List ByteArray) (hs : ∀ x ∈ l, x.size ≤ 140737488351232) : ∃ r, Ev (fun k => jobshelllaw44_ok.f k h0 l) r := by
  unfold jobshelllaw44_ok.f
  obtain ⟨a, ha⟩ := ev_small h0 l _ 0 0 (Nat.le_refl _) (by omega)
  obtain ⟨b, hb⟩ := ev_valid h0 l hs
  cases a with
  | true => exact ⟨_, Ev.bind (g := fun k => jobshellref43_Small.f k h0 l) ha (by simp only [if_true]; exact Ev.bind (g := fun k => jobshellref43_Valid.f k h0 l) hb (Ev.now _))⟩
  | false => exact ⟨_, Ev.bind (g := fun k => jobshellref43_Small.f k h0 l) ha (by simp only [Bool.false_eq_true, if_false]; exact Ev.now _)⟩
theorem ev_has (s : ByteArray) (c : Int) (hB : s.size ≤ 1099511627776000) : ∀ (d i : Nat), s.size - i ≤ d → i ≤ s.size → ∃ r, Ev (fun k => jobshelllaw44_has.l0 k s c (i : Int)) r ∧ (r = false → ∀ (j : Nat) (hj : j < s.size), i ≤ j → ((s[j]'hj).toNat : Int) ≠ c) := by
  intro d
  induction d with
  | zero =>
    intro i h1 h2
    exact ⟨false, Ev.step (fun k => by simp only [jobshelllaw44_has.l0]; rw [if_neg (by omega)]) (Ev.now _), fun _ j hj hij => by omega⟩
  | succ d ih =>
    intro i h1 h2
    by_cases c1 : (i : Int) < (s.size : Int)
    · by_cases c2 : bt s (i : Int) = c
      · exact ⟨true, Ev.step (fun k => by simp only [jobshelllaw44_has.l0]; rw [if_pos c1, if_pos (ige i), if_pos c2]) (Ev.now _), fun h => by cases h⟩
      · obtain ⟨r, hr, hq⟩ := ih (i + 1) (by omega) (by omega)
        refine ⟨r, Ev.step (fun k => by simp only [jobshelllaw44_has.l0]; rw [if_pos c1, if_pos (ige i), if_neg c2, wrapS (by omega)]) hr, fun h j hj hij => ?_⟩
        rcases Nat.eq_or_lt_of_le hij with rfl | hij
        · rw [← bt_nat s i hj]
          exact c2
        · exact hq h j hj hij
    · exact ⟨false, Ev.step (fun k => by simp only [jobshelllaw44_has.l0]; rw [if_neg c1]) (Ev.now _), fun _ j hj hij => by omega⟩
theorem rune33 (s : ByteArray) (pos : Nat) (h : pos < s.size) (hr : ((Utf8.decode s pos).1 : Int) = 33) : ((s[pos]'h).toNat : Int) = 33 := by
  by_cases ha : (s[pos]'h).toNat < 128
  · rw [decode_ascii s pos h ha] at hr
    exact hr
  · have := (decode_high s pos h (by omega)).1
    omega
theorem width_pos (s : ByteArray) (pos : Nat) (h : pos < s.size) : 1 ≤ (Utf8.decode s pos).2 := by
  by_cases ha : (s[pos]'h).toNat < 128
  · rw [decode_ascii s pos h ha]
    exact Nat.le_refl _
  · exact (decode_high s pos h (by omega)).2
theorem catT_all (s : ByteArray) : catT [] s 0 = s := by
  apply ba_ext
  unfold catT
  simp
theorem ev_exp (h0 : Int) (l : List ByteArray) (s : ByteArray) (hB : s.size ≤ 4096) (hs : ∀ (j : Nat) (hj : j < s.size), ((s[j]'hj).toNat : Int) ≠ 33) : ∀ (d pos : Nat) (un : Int) (q : Bool), s.size - pos ≤ d → Ev (fun k => bang_Expand.l0 k h0 l s pos [] 0 un q false) (s, false, 0) := by
  intro d
  induction d with
  | zero =>
    intro pos un q h1
    refine Ev.step (fun k => ?_) (Ev.now _)
    rw [bang_Expand.l0, if_neg (by omega), if_pos (by omega), if_pos (by omega), catT_all, if_pos (by omega)]
    unfold bang_result.f
    rw [if_neg (by omega)]
  | succ d ih =>
    intro pos un q h1
    by_cases hp : pos < s.size
    · have hw := width_pos s pos hp
      have n := fun un q => ih (pos + (Utf8.decode s pos).2) un q (by omega)
      have h33 : ¬ ((Utf8.decode s pos).1 : Int) = 33 := fun h => hs pos hp (rune33 s pos hp h)
      by_cases c1 : (pos : Int) < un
      · refine Ev.step (fun k => ?_) (n un q)
        rw [bang_Expand.l0, if_pos hp, if_pos c1]
      · by_cases c2 : ((Utf8.decode s pos).1 : Int) = 92
        · refine Ev.step (fun k => ?_) (n ((pos : Int) + 2) q)
          rw [bang_Expand.l0, if_pos hp, if_neg c1, if_pos c2]
        · by_cases c3 : ((Utf8.decode s pos).1 : Int) = 34
          · refine Ev.step (fun k => ?_) (n un (!q))
            rw [bang_Expand.l0, if_pos hp, if_neg c1, if_neg c2, if_pos c3]
          · by_cases c4 : ((Utf8.decode s pos).1 : Int) = 39
            · cases q with
              | true =>
                refine Ev.step (fun k => ?_) (n un true)
                rw [bang_Expand.l0, if_pos hp, if_neg c1, if_neg c2, if_neg c3, if_pos c4, if_pos rfl]
              | false =>
                obtain ⟨v, hv⟩ : ∃ v, strings_IndexByte.f (s.extract (pos + 1) s.size) 39 = some v := ⟨_, rfl⟩
                have hv2 : v ≤ 100000 := by
                  have e : Lib.indexByte (s.extract (pos + 1) s.size).data.toList (39 : Int).toNat.toUInt8 = v := Option.some.inj hv
                  by_cases hneg : v < 0
                  · omega
                  · have e2 : Lib.indexByte (s.extract (pos + 1) s.size).data.toList (39 : Int).toNat.toUInt8 = (v.toNat : Int) := by rw [e]; omega
                    have h3 := (List.getElem?_eq_some_iff.1 (Lib.indexByte_some e2).1).1
                    rw [dl_len, ByteArray.size_extract] at h3
                    omega
                by_cases c5 : v ≥ 0
                · refine Ev.step (fun k => ?_) (n ((pos : Int) + v + 2) false)
                  rw [bang_Expand.l0, if_pos hp, if_neg c1, if_neg c2, if_neg c3, if_pos c4, if_neg (by simp), hv, Option.bind_some, if_pos c5, if_pos hv2]
                · refine Ev.step (fun k => ?_) (n (s.size : Int) false)
                  rw [bang_Expand.l0, if_pos hp, if_neg c1, if_neg c2, if_neg c3, if_pos c4, if_neg (by simp), hv, Option.bind_some, if_neg c5]
            · refine Ev.step (fun k => ?_) (n un q)
              rw [bang_Expand.l0, if_pos hp, if_neg c1, if_neg c2, if_neg c3, if_neg c4, if_neg h33]
    · refine Ev.step (fun k => ?_) (Ev.now _)
      rw [bang_Expand.l0, if_neg hp, if_pos (by omega), if_pos (by omega), catT_all, if_pos (by omega)]
      unfold bang_result.f
      rw [if_neg (by omega)]
theorem ev_Expand (h0 : Int) (l : List ByteArray) (s : ByteArray) (hB : s.size ≤ 4096) (hs : ∀ (j : Nat) (hj : j < s.size), ((s[j]'hj).toNat : Int) ≠ 33) (h94 : strings_HasPrefix.f s (⟨#[94]⟩ : ByteArray) = some false) : Ev (fun k => bang_Expand.f k h0 l s) (s, false, 0) := by
  unfold bang_Expand.f
  simp only [if_neg (show ¬ (s.size : Int) > 4096 by omega), h94, Option.bind_some]
  exact ev_exp h0 l s hB hs _ 0 0 false (Nat.le_refl _)
end Go.Proofs.YthoanbjklgoggaaDoor.PAll
