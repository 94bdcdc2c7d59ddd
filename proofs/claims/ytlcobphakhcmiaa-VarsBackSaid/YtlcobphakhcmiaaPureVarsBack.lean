/- The law VarsBack, in plain Lean: From(Environ(l)) is the list of the exported variables that are set, and its environment is the same again. -/
import Derived.Test.YtlcobphakhcmiaaExtDefVarsBack
import Derived.Test.YtlcobphakhcmiaaExtPlain9
namespace Go.Proofs.Ytlcobphakhcmiaa.Pure
open Go.RowKit Go.Proofs.Ytlcobphakhcmiaa.PAll Go.Proofs.YtlcobphakhcmiaaW.PrintWords Go.Proofs.YtlcobphakhcmiaaW.PrintLast
set_option linter.unusedSimpArgs false
/-- Exported and set. -/
def exV (v : S26) : Bool := v.f2 && v.f3
def mkV (v : S26) : S26 := ⟨v.f0, v.f1, true, true, false⟩
theorem nm_bytes (s : ByteArray) : ∀ n i, nmFrom s n i = true → ∀ j, i ≤ j → j < i + n → nmOk j (bt s j) = true
  | 0, i, _, j, h1, h2 => absurd h2 (by omega)
  | n + 1, i, h, j, h1, h2 => by
    simp only [nmFrom, Bool.and_eq_true] at h
    rcases Nat.eq_or_lt_of_le h1 with rfl | hl
    · exact h.1
    · exact nm_bytes s n (i + 1) h.2 j hl (by omega)
theorem name_no61 {s : ByteArray} (h : nameB s = true) : ∀ j : Nat, s.data.toList[j]? ≠ some 61 := by
  intro j hj
  have hlt : j < s.size := by
    have := (List.getElem?_eq_some_iff.1 hj).1
    rwa [Array.length_toList] at this
  have h1 : nmFrom s s.size 0 = true := by
    simp [nameB] at h
    exact h.2
  have h2 := nm_bytes s s.size 0 h1 j (Nat.zero_le _) (by omega)
  have h3 : bt s (j : Int) = 61 := (bt61 s j hlt).2 hj
  rw [h3] at h2
  have e : nmOk j 61 = false := by
    unfold nmOk
    rw [show letB 61 = false from rfl, show digB 61 = false from rfl]
    simp
  rw [e] at h2
  cases h2
theorem index61 : ∀ (a b : List UInt8), (∀ j : Nat, a[j]? ≠ some 61) → Lib.indexByte (a ++ 61 :: b) 61 = (a.length : Int)
  | [], b, _ => rfl
  | x :: a, b, h => by
    have h0 : ¬ (x == 61) = true := fun hx => h 0 (by simpa using hx)
    have ih := index61 a b (fun j hj => h (j + 1) (by simpa using hj))
    rw [List.cons_append, Lib.indexByte, if_neg h0, ih, if_neg (by simp)]
    simp
theorem entry_data (v : S26) : (entry v).data.toList = v.f0.data.toList ++ 61 :: v.f1.data.toList := by
  unfold entry
  rw [ByteArray.data_append, ByteArray.data_append]
  simp
theorem entry_size (v : S26) : (entry v).size = v.f0.size + 1 + v.f1.size := by
  unfold entry
  rw [ByteArray.size_append, ByteArray.size_append]
  rfl
theorem ba_ext {a b : ByteArray} (h : a.data.toList = b.data.toList) : a = b := by
  cases a; cases b
  congr
  exact Array.toList_inj.1 h
theorem div_entry {v : S26} (h : nameB v.f0 = true) : divF (entry v) = (v.f0, v.f1, true) := by
  have hc : cutAt (entry v) 61 = (v.f0.size : Int) := by
    unfold cutAt
    rw [entry_data, index61 _ _ (name_no61 h), Array.length_toList]
    rfl
  have hl : v.f0.data.toList.length = v.f0.size := by rw [Array.length_toList]; rfl
  have hl1 : v.f1.data.toList.length = v.f1.size := by rw [Array.length_toList]; rfl
  have e1 : (entry v).extract 0 v.f0.size = v.f0 := by
    apply ba_ext
    rw [Lib.extract_data, entry_data, List.drop_zero, Nat.sub_zero, ← hl, List.take_left]
  have e2 : (entry v).extract (v.f0.size + 1) (entry v).size = v.f1 := by
    apply ba_ext
    rw [Lib.extract_data, entry_data, entry_size]
    rw [show v.f0.data.toList ++ 61 :: v.f1.data.toList = (v.f0.data.toList ++ [61]) ++ v.f1.data.toList by simp, show v.f0.size + 1 = (v.f0.data.toList ++ [61]).length by rw [List.length_append, hl]; rfl, List.drop_left]
    exact List.take_of_length_le (by rw [hl1]; omega)
  unfold divF
  rw [if_neg (by rw [hc]; omega), hc, Int.toNat_natCast, e1, e2, h]
theorem tw_all {α : Type} {p : α → Bool} : ∀ {l : List α}, (∀ x ∈ l, p x = true) → l.takeWhile p = l ∧ l.dropWhile p = []
  | [], _ => ⟨rfl, rfl⟩
  | a :: l, h => by
    have ih := tw_all (l := l) (fun x hx => h x (List.mem_cons_of_mem _ hx))
    rw [List.takeWhile_cons_of_pos (h a (by simp)), List.dropWhile_cons_of_pos (h a (by simp)), ih.1, ih.2]
    exact ⟨rfl, rfl⟩
theorem put_last {out : List S26} {v : S26} (h : ∀ x ∈ out, lt x.f0 v.f0 = true) : putF out v = out ++ [v] := by
  have e1 : bef v.f0 out = out := (tw_all h).1
  have e2 : (out.dropWhile fun x => lt x.f0 v.f0) = [] := (tw_all h).2
  unfold putF aft
  rw [e1, e2]
  rfl
theorem from_back (F : List S26) (hF : Asc F) (hok : ∀ v ∈ F, okV v) (hl : F.length ≤ 128) : ∀ (rest done : List S26), F = done ++ rest → fromF (done.map mkV) (rest.map entry) = (F.map mkV, 0)
  | [], done, h => by
    rw [List.append_nil] at h
    subst h
    simp only [List.map_nil, fromF]
    rw [if_neg (by rw [List.length_map]; omega)]
  | v :: t, done, h => by
    have hv : v ∈ F := by rw [h]; simp
    obtain ⟨o1, o2, o3⟩ := hok v hv
    have hlt : ∀ x ∈ done.map mkV, lt x.f0 (mkV v).f0 = true := by
      intro x hx
      obtain ⟨y, hy, rfl⟩ := List.mem_map.1 hx
      rw [h] at hF
      exact (List.pairwise_append.1 hF).2.2 y hy v (by simp)
    simp only [List.map_cons, fromF]
    rw [div_entry o1]
    simp only [if_true]
    rw [if_neg o2]
    have hp := put_last hlt
    rw [show (⟨v.f0, v.f1, true, true, false⟩ : S26) = mkV v from rfl, hp, show done.map mkV ++ [mkV v] = (done ++ [v]).map mkV by simp]
    exact from_back F hF hok hl t (done ++ [v]) (by rw [h]; simp)
theorem VarsBack : jobshelllaw15_VarsBack.Pure := by
  intro l hm _
  obtain ⟨b, hb⟩ := ev_Small l hm
  refine Ev.rounds (g := fun k => jobshelllaw15_VarsBack.f k l) ?_
  have stop : Ev (fun k => jobshelllaw15_VarsBack.j0 k l true) true := Ev.step (fun k => by simp only [jobshelllaw15_VarsBack.j0]; rfl) ev_awake
  unfold jobshelllaw15_VarsBack.f
  refine Ev.bind hb ?_
  cases b with
  | false => exact stop
  | true =>
    simp only [if_true]
    refine Ev.bind (ev_rValid l) ?_
    by_cases hv : valF l = 0
    · obtain ⟨h1, h2, h3⟩ := (valF_zero l).1 hv
      rw [show (valF l != 0) = false by rw [hv]; rfl]
      obtain ⟨F, hF⟩ : ∃ F, l.filter exV = F := ⟨_, rfl⟩
      have hFs : Asc F := by rw [← hF]; exact List.Pairwise.sublist List.filter_sublist h3
      have hFok : ∀ v ∈ F, okV v := fun v hv => h2 v (by rw [← hF] at hv; exact (List.mem_filter.1 hv).1)
      have hFl : F.length ≤ 128 := by rw [← hF]; exact Nat.le_trans (List.length_filter_le _ _) h1
      have hE : envF l = F.map entry := by rw [← hF]; rfl
      have hfrom : fromF [] (envF l) = (F.map mkV, 0) := by rw [hE]; exact from_back F hFs hFok hFl F [] rfl
      have hsz : ∀ x ∈ envF l, x.size ≤ 9223372036854775807 := by
        intro x hx
        rw [hE] at hx
        obtain ⟨v, hv, rfl⟩ := List.mem_map.1 hx
        obtain ⟨o1, o2, _⟩ := hFok v hv
        have := name_size o1
        rw [entry_size]
        omega
      have hM : envF (F.map mkV) = envF l := by
        rw [hE]
        unfold envF
        rw [List.filter_eq_self.2 (fun x hx => by obtain ⟨y, _, rfl⟩ := List.mem_map.1 hx; rfl), List.map_map]
        rfl
      have loop : ∀ (d i : Nat), l.length - i = d → i ≤ l.length → Ev (fun k => jobshelllaw15_VarsBack.l0 k l (F.map mkV) (((l.take i).filter exV).length : Nat) i) true := by
        intro d
        induction d with
        | zero =>
          intro i g1 g2
          refine Ev.step (fun k => ?_) ev_awake
          simp only [jobshelllaw15_VarsBack.l0]
          rw [if_neg (by omega), List.take_of_length_le (by omega), hF, if_pos (by rw [List.length_map])]
        | succ d ih =>
          intro i g1 g2
          have hi : i < l.length := by omega
          have ht : l.take (i + 1) = l.take i ++ [l[i]] := List.take_succ_eq_append_getElem hi
          have hkk : ((l.take i).filter exV).length ≤ i := Nat.le_trans (List.length_filter_le _ _) (by rw [List.length_take]; omega)
          have next := ih (i + 1) (by omega) (by omega)
          rw [ht, List.filter_append] at next
          have skip : exV l[i] = false → Ev (fun k => jobshelllaw15_VarsBack.j3 k l (F.map mkV) (((l.take i).filter exV).length : Nat) i true) true := by
            intro hx
            rw [List.filter_cons_of_neg (by simpa using hx), List.filter_nil, List.append_nil] at next
            exact Ev.step (fun k => by simp only [jobshelllaw15_VarsBack.j3]; rw [if_pos trivial, wrapS (by omega)]) next
          by_cases h2' : l[i].f2 = true
          · refine Ev.step (fun k => by simp only [jobshelllaw15_VarsBack.l0]; rw [if_pos (ilt hi), if_pos (ige i), rdn l i hi, if_pos h2']) ?_
            cases h3' : l[i].f3 with
            | false => exact skip (by unfold exV; rw [h2', h3']; rfl)
            | true =>
              have hx : exV l[i] = true := by unfold exV; rw [h2', h3']; rfl
              rw [List.filter_cons_of_pos hx, List.filter_nil, List.length_append, List.length_singleton] at next
              have hsplit : F = (l.take i).filter exV ++ l[i] :: (l.drop (i + 1)).filter exV := by
                rw [← hF]
                conv => lhs; rw [← List.take_append_drop i l, dropc l i hi]
                rw [List.filter_append, List.filter_cons_of_pos hx]
              obtain ⟨q, hq⟩ : ∃ q, ((l.take i).filter exV).length = q := ⟨_, rfl⟩
              rw [hq] at next hkk ⊢
              have hlen : q < (F.map mkV).length := by rw [List.length_map, hsplit, List.length_append, hq]; simp
              have hat : (F.map mkV)[q] = mkV l[i] := by
                have h5 : F[q]? = some l[i] := by rw [hsplit, ← hq]; simp
                rw [List.getElem_map]
                congr 1
                exact (List.getElem?_eq_some_iff.1 h5).2
              refine Ev.step (fun k => ?_) next
              simp only [jobshelllaw15_VarsBack.j3]
              rw [if_neg (by simp), if_neg (by omega), if_pos (ige q), if_pos (ilt hlen), if_pos (ige i), if_pos (ilt hi), rdn _ q hlen, rdn l i hi, hat, if_neg (by simp [mkV]), wrapS (by omega), wrapS (by omega)]
          · refine Ev.step (fun k => by simp only [jobshelllaw15_VarsBack.l0]; rw [if_pos (ilt hi), if_pos (ige i), rdn l i hi, if_neg h2']) ?_
            exact skip (by unfold exV; simp [h2'])
      have hel := envF_len l
      refine Ev.step (fun k => by simp only [jobshelllaw15_VarsBack.j0]; rw [if_neg (by simp)]) ?_
      have FR := ev_From (envF l) (by omega) hsz
      rw [hfrom] at FR
      refine Ev.bind (ev_Environ l h1 h2) (Ev.bind FR ?_)
      have hlm : ((F.map mkV).length : Int) = ((envF l).length : Int) := by rw [hE, List.length_map, List.length_map]
      simp only [if_true, if_pos hlm]
      have EN := ev_Environ (F.map mkV) (by rw [List.length_map]; exact hFl) (fun v hv => by obtain ⟨y, hy, rfl⟩ := List.mem_map.1 hv; exact ⟨(hFok y hy).1, (hFok y hy).2.1, .inl rfl⟩)
      rw [hM] at EN
      refine Ev.bind EN (Ev.bind (ev_SameT _ (by omega)) ?_)
      refine Ev.step (fun k => by simp only [jobshelllaw15_VarsBack.j1]; rw [if_neg (by simp)]) ?_
      have := loop l.length 0 (by omega) (by omega)
      rw [List.take_zero] at this
      exact this
    · rw [show (valF l != 0) = true from bne_iff_ne.2 hv]
      exact stop
end Go.Proofs.Ytlcobphakhcmiaa.Pure
