/- bang.Expand (a Builder and an event's state in a range over a string), by hand: its contract in the form of the printed ones. -/
import Derived.Test.YthoanbjklgoggaaDoorPAllx0
import Derived.Test.YthoanbjklgoggaaDoorPAllx9
import Derived.Test.YthoanbjklgoggaaDoorPAllx7
import Derived.Test.YthoanbjklgoggaaDoorPAllx10
import Derived.Test.YthoanbjklgoggaaDoorPAllx6
import Derived.Test.YthoanbjklgoggaaDoorPAllx30
import Derived.Test.YthoanbjklgoggaaDoorExtIdx
import Derived.Test.YthoanbjklgoggaaDoorExtShelf
import Derived.Test.YthoanbjklgoggaaDoorExtStr
import Derived.BigCall
import Derived.Deep.RegionWith
import Derived.BigRegion
namespace Go.Proofs.YthoanbjklgoggaaDoor.PAll
open Go.RowKit Go.Proofs.YthoanbjklgoggaaDoorW.PrintWords Go.Proofs.YthoanbjklgoggaaDoorW.PrintLast Go.Proofs.YthoanbjklgoggaaDoorW.PrintMore
set_option linter.unusedVariables false
set_option linter.unusedSimpArgs false
/-- The text that the Builder holds, and what is still to come. -/
def catT (acc : List UInt8) (s : ByteArray) (fr : Int) : ByteArray := ⟨(acc ++ (s.extract fr.toNat s.size).data.toList).toArray⟩
def addT (acc : List UInt8) (s : ByteArray) (fr : Int) (pos : Nat) (t : ByteArray) : List UInt8 := acc ++ (s.extract fr.toNat pos ++ t).data.toList
/-- The loop of Expand. -/
def bang_Expand.l0 : Nat → Int → List ByteArray → ByteArray → Nat → List UInt8 → Int → Int → Bool → Bool → Option (ByteArray × Bool × Int)
  | 0, _, _, _, _, _, _, _, _, _ => none
  | k + 1, h0, l, s, pos, acc, fr, un, q, sh =>
    if pos < s.size then
      (if (pos : Int) < un then bang_Expand.l0 k h0 l s (pos + (Utf8.decode s pos).2) acc fr un q sh
      else (if ((Utf8.decode s pos).1 : Int) = 92 then bang_Expand.l0 k h0 l s (pos + (Utf8.decode s pos).2) acc fr ((pos : Int) + 2) q sh
      else (if ((Utf8.decode s pos).1 : Int) = 34 then bang_Expand.l0 k h0 l s (pos + (Utf8.decode s pos).2) acc fr un (!q) sh
      else (if ((Utf8.decode s pos).1 : Int) = 39 then
        (if q = true then bang_Expand.l0 k h0 l s (pos + (Utf8.decode s pos).2) acc fr un q sh
        else ((strings_IndexByte.f (s.extract (pos + 1) s.size) 39).bind fun n => (if n ≥ 0 then (if n ≤ 100000 then bang_Expand.l0 k h0 l s (pos + (Utf8.decode s pos).2) acc fr ((pos : Int) + n + 2) q sh else none) else bang_Expand.l0 k h0 l s (pos + (Utf8.decode s pos).2) acc fr (s.size : Int) q sh)))
      else (if ((Utf8.decode s pos).1 : Int) = 33 then
        ((bang_stays.f s (pos : Int) q).bind fun st => (if st = true then bang_Expand.l0 k h0 l s (pos + (Utf8.decode s pos).2) acc fr un q sh
        else ((bang_reader_read.f k h0 l s ((pos : Int) + 1) (⟨#[]⟩ : ByteArray) false).bind fun r =>
          (if r.2.1 = 0 then (if r.1 = true then (if 0 ≤ fr then (if fr ≤ (pos : Int) then (if (addT acc s fr pos r.2.2.2.2.2.1).length ≤ 140737488355328 then bang_Expand.l0 k h0 l s (pos + (Utf8.decode s pos).2) (addT acc s fr pos r.2.2.2.2.2.1) r.2.2.2.2.1 r.2.2.2.2.1 q (sh || r.2.2.2.2.2.2) else none) else none) else none)
            else bang_Expand.l0 k h0 l s (pos + (Utf8.decode s pos).2) acc fr un q sh)
          else some ((⟨#[]⟩ : ByteArray), false, r.2.1)))))
      else bang_Expand.l0 k h0 l s (pos + (Utf8.decode s pos).2) acc fr un q sh)))))
    else (if 0 ≤ fr then (if fr ≤ (s.size : Int) then (if (catT acc s fr).size ≤ 140737488355328 then bang_result.f (catT acc s fr) sh else none) else none) else none)
def bang_Expand.f (k : Nat) (h0 : Int) (l : List ByteArray) (s : ByteArray) : Option (ByteArray × Bool × Int) :=
  if (s.size : Int) > 4096 then some ((⟨#[]⟩ : ByteArray), false, 3)
  else ((strings_HasPrefix.f s (⟨#[94]⟩ : ByteArray)).bind fun p => (if p = true then bang_quick.f k h0 l s else bang_Expand.l0 k h0 l s 0 [] 0 0 false false))
theorem bang_Expand.mono_l : ∀ k h0 l s pos acc fr un q sh, LeO (bang_Expand.l0 k h0 l s pos acc fr un q sh) (bang_Expand.l0 (k + 1) h0 l s pos acc fr un q sh)
  | 0, _, _, _, _, _, _, _, _, _ => LeO.none _
  | k + 1, h0, l, s, pos, acc, fr, un, q, sh => by
    have ih := bang_Expand.mono_l k
    rw [bang_Expand.l0, bang_Expand.l0]
    repeat' first
      | (with_reducible exact ih _ _ _ _ _ _ _ _ _)
      | (with_reducible exact bang_reader_read.mono _ _ _ _ _ _ _)
      | (with_reducible exact LeO.refl _)
      | (with_reducible exact LeO.none _)
      | (with_reducible refine LeO.ite ?_ ?_)
      | (with_reducible refine LeO.bind ?_ (fun _ => ?_))
theorem bang_Expand.mono : ∀ a0 a1 a2 k, LeO (bang_Expand.f k a0 a1 a2) (bang_Expand.f (k + 1) a0 a1 a2) := by
  intro a0 a1 a2 k
  unfold bang_Expand.f
  repeat' first
      | (with_reducible exact bang_Expand.mono_l _ _ _ _ _ _ _ _ _ _)
      | (with_reducible exact bang_quick.mono _ _ _ _)
      | (with_reducible exact LeO.refl _)
      | (with_reducible exact LeO.none _)
      | (with_reducible refine LeO.ite ?_ ?_)
      | (with_reducible refine LeO.bind ?_ (fun _ => ?_))
theorem builder_below {T e : TypeId} {B b : Nat} {bs : List Value} {w w' : World} (h : Lib.IsBuilderF T e B b bs w) (hb : Below w.heap.size w w') : Lib.IsBuilderF T e B b bs w' := by
  have key : ∀ p, Lib.BuilderAtF T e B b p bs w → Lib.BuilderAtF T e B b p bs w' := by
    rintro p ⟨h1, v, h2, ⟨h3, h4⟩, h5⟩
    have old : ∀ (k : Nat) (o : Obj), w.heap[k]? = some o → w'.heap[k]? = some o := fun k o hk => (hb.block k (Array.getElem?_eq_some_iff.1 hk).1).trans hk
    refine ⟨h1, v, old _ _ h2, ⟨h3, ?_⟩, h5⟩
    rcases h4 with h4 | ⟨g, cap, cur, fz, a1, a2, a3, a4⟩
    · exact Or.inl h4
    · exact Or.inr ⟨g, cap, cur, fz, a1, a2, old _ _ a3, a4⟩
  exact h.elim (fun x => Or.inl (key _ x)) (fun x => Or.inr (key _ x))
set_option maxHeartbeats 8000000 in
set_option maxRecDepth 100000 in
theorem bang_Expand.calls (k : Nat) (a0_0 : Int) (A0_1 : Option Addr) (c0_1 : Nat) (l0_1 : List ByteArray) (a1 : ByteArray) (r1 : ByteArray) (r2 : Bool) (r3 : Int) (w : World) (hr0_1 : Kd.C Kd.string w A0_1 l0_1.length l0_1) (hc0_1 : l0_1.length ≤ c0_1) (hM : MaxOk w) (h : bang_Expand.f k a0_0 l0_1 a1 = some (r1, r2, r3)) :
    Calls Tryd.prog 9 #[.agg #[.int .i64 a0_0, .slice A0_1 l0_1.length c0_1], .string a1] w fun e w' => e = .returned (.tuple #[.string r1, .bool r2, .int .i64 r3]) ∧ Below w.heap.size w w' := by
  have hu24 := Tryd.underlying24
  have hu47 := Tryd.underlying47
  have HR0 := Aside0.mk hr0_1
  have HC0 := Aside0.mk hc0_1
  have HB := Aside0.mk (Below.refl w.heap.size w)
  clear hr0_1 hc0_1
  unfold bang_Expand.f at h
  by_cases c1 : (a1.size : Int) > 4096
  · rw [if_pos c1] at h
    have h := Option.some.inj h
    rw [Prod.mk.injEq, Prod.mk.injEq] at h
    obtain ⟨rfl, rfl, rfl⟩ := h
    have c1b : decide (4096 < (a1.size : Int)) = true := decide_eq_true c1
    clear c1
    go_enter Tryd.func9, Tryd.ntmps9
    go_wp2
    go_ret3
    exact ⟨rfl, by repeat (first | (with_reducible first | exact HB.out | apply below_alloc | apply pw_below_drewN | apply below_drew1) | exact HB.out)⟩
  · rw [if_neg c1] at h
    have c1b : decide (4096 < (a1.size : Int)) = false := decide_eq_false c1
    have HSB : Aside0 (a1.size ≤ 4096) := ⟨by omega⟩
    clear c1
    obtain ⟨p, hp, h⟩ := Option.bind_eq_some_iff.mp h
    have HP := Aside0.mk hp
    clear hp
    have box0 : Aside0 ((w.alloc (.cells #[.int .i64 a0_0, .slice A0_1 l0_1.length c0_1] 24)).heap[w.heap.size]? = some (.cells #[.int .i64 a0_0, .slice A0_1 l0_1.length c0_1] 24 (0, 0))) := ⟨by simpa using heap_alloc_new w _⟩
    have HB1 : Aside0 (Below w.heap.size w (w.alloc (.cells #[.int .i64 a0_0, .slice A0_1 l0_1.length c0_1] 24))) := ⟨below_alloc HB.out _⟩
    by_cases hp : p = true
    · subst hp
      rw [if_pos rfl] at h
      have H := Aside0.mk h
      clear h
      have hc0 : (w.alloc (.cells #[.int .i64 a0_0, .slice A0_1 l0_1.length c0_1] 24)).cell? ⟨w.heap.size, 0, none⟩ = some (.int .i64 a0_0) := (blk_cell box0.out 0).trans rfl
      have hc1 : (w.alloc (.cells #[.int .i64 a0_0, .slice A0_1 l0_1.length c0_1] 24)).cell? ⟨w.heap.size, 1, none⟩ = some (.slice A0_1 l0_1.length c0_1) := (blk_cell box0.out 1).trans rfl
      obtain ⟨W0, hW0⟩ : ∃ W0, w.alloc (.cells #[.int .i64 a0_0, .slice A0_1 l0_1.length c0_1] 24) = W0 := ⟨_, rfl⟩
      clear hW0 W0
      go_enter Tryd.func9, Tryd.ntmps9
      go_wp2_with (first
        | (go_at_call 16; refine (strings_HasPrefix.calls _ _ _ _ HP.out).mono ?_; rintro e w1 ⟨rfl, ⟨nd, rfl⟩⟩; have hd0 : ((w.alloc (.cells #[.int .i64 a0_0, .slice A0_1 l0_1.length c0_1] 24)).drewN nd).cell? ⟨w.heap.size, 0, none⟩ = some (.int .i64 a0_0) := hc0; have hd1 : ((w.alloc (.cells #[.int .i64 a0_0, .slice A0_1 l0_1.length c0_1] 24)).drewN nd).cell? ⟨w.heap.size, 1, none⟩ = some (.slice A0_1 l0_1.length c0_1) := hc1; have HB2 : Aside0 (Below w.heap.size w ((w.alloc (.cells #[.int .i64 a0_0, .slice A0_1 l0_1.length c0_1] 24)).drewN nd)) := ⟨pw_below_drewN HB1.out nd⟩)
        | (go_at_call 17; refine (bang_quick.calls k a0_0 A0_1 c0_1 l0_1 a1 r1 r2 r3 _ (Kd.C_below HR0.out HB2.out) HC0.out (hM.le HB2.out) H.out).mono ?_; rintro e w2 ⟨rfl, hb⟩; have HQ := Aside0.mk (HB2.out.trans (hb.mono HB2.out.size)); clear hb))
      go_ret3
      exact ⟨rfl, HQ.out⟩
    · have e0 := Bool.eq_false_iff.mpr hp
      subst e0
      clear hp
      rw [if_neg (by simp)] at h
      have H' := Aside0.mk h
      clear h
      go_enter Tryd.func9, Tryd.ntmps9
      go_wp2_with (first
        | (go_at_call 16; refine (strings_HasPrefix.calls _ _ _ _ HP.out).mono ?_; rintro e w1 ⟨rfl, ⟨nd, rfl⟩⟩; have HB2 : Aside0 (Below w.heap.size w ((w.alloc (.cells #[.int .i64 a0_0, .slice A0_1 l0_1.length c0_1] 24)).drewN nd)) := ⟨pw_below_drewN HB1.out nd⟩; have box1 : Aside0 (((w.alloc (.cells #[.int .i64 a0_0, .slice A0_1 l0_1.length c0_1] 24)).drewN nd).heap[w.heap.size]? = some (.cells #[.int .i64 a0_0, .slice A0_1 l0_1.length c0_1] 24 (0, 0))) := ⟨box0.out⟩; have HSZ : Aside0 (((w.alloc (.cells #[.int .i64 a0_0, .slice A0_1 l0_1.length c0_1] 24)).drewN nd).heap.size = w.heap.size + 1) := ⟨by simp [World.drewN]⟩; generalize (w.alloc (.cells #[.int .i64 a0_0, .slice A0_1 l0_1.length c0_1] 24)).drewN nd = w1 at HB2 box1 HSZ ⊢))
      have hM1 : MaxOk w1 := hM.le HB2.out
      have HM1 := Aside0.mk hM1
      have HR1 := Aside0.mk (Kd.C_below HR0.out HB2.out)
      clear hM1 hM HB1 box0 HP HR0 HB c1b
      have start_it : Aside0 (((w1.alloc (.cells #[.pointer none, .slice none 0 0] 42)).iter a1 0).heap[w1.heap.size + 1]? = some (.stringIter a1 0)) := ⟨by have := World.iter_heap (w1.alloc (.cells #[.pointer none, .slice none 0 0] 42)) a1 0; simpa using this⟩
      have start_b : Aside0 (Lib.IsBuilderF 42 5 w1.heap.size w1.heap.size (Lib.byteCells []) ((w1.alloc (.cells #[.pointer none, .slice none 0 0] 42)).iter a1 0)) := ⟨(Lib.IsBuilderF.of (Lib.fresh_isBuilder 42 5 w1)).alloc _⟩
      have start_w : Aside0 (Below w1.heap.size w1 ((w1.alloc (.cells #[.pointer none, .slice none 0 0] 42)).iter a1 0)) := ⟨((Below.refl _ w1).alloc (Nat.le_refl _) _).alloc (by simp) _⟩
      go_loopg [8, 9, 10, 11] k (fun kq v8 v9 v10 v11 wr => ∃ (pos : Nat) (acc : List UInt8) (fr un : Int) (q sh : Bool), v8 = .int .i64 fr ∧ v9 = .int .i64 un ∧ v10 = .bool q ∧ v11 = .bool sh ∧ Aside0 (bang_Expand.l0 kq a0_0 l0_1 a1 pos acc fr un q sh = some (r1, r2, r3)) ∧ Aside0 (kq ≤ k) ∧ Aside0 (Lib.IsBuilderF 42 5 w1.heap.size w1.heap.size (Lib.byteCells acc) wr) ∧ Aside0 (wr.heap[w1.heap.size + 1]? = some (.stringIter a1 pos)) ∧ Aside0 (Below w1.heap.size w1 wr))
      case atStart => exact ⟨0, [], 0, 0, false, false, rfl, rfl, rfl, rfl, H', ⟨Nat.le_refl _⟩, start_b, start_it, start_w⟩
      case round =>
        clear H' start_b start_it start_w
        obtain ⟨pos, acc, fr, un, q, sh, rfl, rfl, rfl, rfl, HA, HK1, HBU, HIT, HBL⟩ := hrel
        cases gk with
        | zero => exact absurd HA.out (by simp [bang_Expand.l0])
        | succ k1 =>
          have H := HA.out
          clear HA
          rw [bang_Expand.l0] at H
          by_cases hp : pos < a1.size
          · rw [if_pos hp] at H
            have hnx : ∀ ty, (Instr.next (.pointer (some ⟨w1.heap.size + 1, 0, none⟩)) true ty).run Tryd.prog wr = _ := fun ty => Lib.run_next_any_at wr (w1.heap.size + 1) a1 pos ty HIT.out hp
            have hI2 := HBU.out.iterAt HIT.out (pos + (Utf8.decode a1 pos).2)
            have hit2 := Lib.iterAt_heap wr (w1.heap.size + 1) a1 pos (pos + (Utf8.decode a1 pos).2) HIT.out
            have hbw2 := Lib.below_iterAt HBL.out (k := w1.heap.size + 1) (by omega) a1 (pos + (Utf8.decode a1 pos).2)
            obtain ⟨nx, hnxe⟩ : ∃ nx, pos + (Utf8.decode a1 pos).2 = nx := ⟨_, rfl⟩
            rw [hnxe] at hnx hI2 hit2 hbw2 H
            obtain ⟨W, hW⟩ : ∃ W, wr.iterAt (w1.heap.size + 1) a1 nx = W := ⟨_, rfl⟩
            rw [hW] at hnx hI2 hit2 hbw2
            obtain ⟨c, hc⟩ : ∃ c : Int, ((Utf8.decode a1 pos).1 : Int) = c := ⟨_, rfl⟩
            rw [hc] at hnx H
            have HI := Aside0.mk hI2
            have HIT2 := Aside0.mk hit2
            have HBW := Aside0.mk hbw2
            have HP := Aside0.mk hp
            clear hI2 hit2 hbw2 hp HBU HIT HBL hW hnxe hc
            by_cases c2 : (pos : Int) < un
            · rw [if_pos c2] at H
              have c2b : decide ((pos : Int) < un) = true := decide_eq_true c2
              clear c2
              have H' := Aside0.mk H
              clear H
              go_wp2
              go_roundg k1
              case measure => have := HK1.out; omega
              case rel => exact ⟨nx, acc, fr, un, q, sh, rfl, rfl, rfl, rfl, H', ⟨by have := HK1.out; omega⟩, HI, HIT2, HBW⟩
            · rw [if_neg c2] at H
              have c2b : decide ((pos : Int) < un) = false := decide_eq_false c2
              clear c2
              by_cases c3 : c = 92
              · rw [if_pos c3] at H
                have c3b : (c == 92) = true := beq_iff_eq.mpr c3
                clear c3
                have w2 : wrap64 ((pos : Int) + 2) = (pos : Int) + 2 := by have := HSB.out; have := HP.out; unfold wrap64; omega
                rw [← w2] at H
                clear w2
                have H' := Aside0.mk H
                clear H
                go_wp2
                go_roundg k1
                case measure => have := HK1.out; omega
                case rel => exact ⟨nx, acc, fr, wrap64 ((pos : Int) + 2), q, sh, rfl, rfl, rfl, rfl, H', ⟨by have := HK1.out; omega⟩, HI, HIT2, HBW⟩
              · rw [if_neg c3] at H
                have c3b : (c == 92) = false := beq_eq_false_iff_ne.mpr c3
                clear c3
                by_cases c4 : c = 34
                · rw [if_pos c4] at H
                  have c4b : (c == 34) = true := beq_iff_eq.mpr c4
                  clear c4
                  have H' := Aside0.mk H
                  clear H
                  go_wp2
                  go_roundg k1
                  case measure => have := HK1.out; omega
                  case rel => exact ⟨nx, acc, fr, un, !q, sh, rfl, rfl, rfl, rfl, H', ⟨by have := HK1.out; omega⟩, HI, HIT2, HBW⟩
                · rw [if_neg c4] at H
                  have c4b : (c == 34) = false := beq_eq_false_iff_ne.mpr c4
                  clear c4
                  by_cases c5 : c = 39
                  · rw [if_pos c5] at H
                    have c5b : (c == 39) = true := beq_iff_eq.mpr c5
                    have c6b : (c == 33) = false := by rw [c5]; decide
                    clear c5
                    cases q with
                    | true =>
                      rw [if_pos rfl] at H
                      have H' := Aside0.mk H
                      clear H
                      go_wp2
                      go_roundg k1
                      case measure => have := HK1.out; omega
                      case rel => exact ⟨nx, acc, fr, un, true, sh, rfl, rfl, rfl, rfl, H', ⟨by have := HK1.out; omega⟩, HI, HIT2, HBW⟩
                    | false =>
                      rw [if_neg (by simp)] at H
                      obtain ⟨n, A0, H⟩ := Option.bind_eq_some_iff.mp H
                      have e1 : wrap64 ((pos : Int) + 1) = ((pos + 1 : Nat) : Int) := by have := HSB.out; have := HP.out; unfold wrap64; omega
                      have b1 : (0 ≤ wrap64 ((pos : Int) + 1)) = True := eq_true (by rw [e1]; omega)
                      have b2 : (wrap64 ((pos : Int) + 1) ≤ (a1.size : Int)) = True := eq_true (by rw [e1]; have := HP.out; omega)
                      have b3 : decide (0 ≤ wrap64 ((pos : Int) + 1)) = true := decide_eq_true (of_eq_true b1)
                      have b4 : decide (wrap64 ((pos : Int) + 1) ≤ (a1.size : Int)) = true := decide_eq_true (of_eq_true b2)
                      have A : Aside0 (strings_IndexByte.f (a1.extract (wrap64 ((pos : Int) + 1)).toNat a1.size) 39 = some n) := ⟨by rw [e1, Int.toNat_natCast]; exact A0⟩
                      clear A0 e1
                      by_cases c7 : n ≥ 0
                      · rw [if_pos c7] at H
                        have c7b : decide (0 ≤ n) = true := decide_eq_true c7
                        by_cases c8 : n ≤ 100000
                        · rw [if_pos c8] at H
                          have w2 : wrap64 (wrap64 ((pos : Int) + n) + 2) = (pos : Int) + n + 2 := by have := HSB.out; have := HP.out; unfold wrap64; omega
                          rw [← w2] at H
                          clear w2 c7 c8
                          have H' := Aside0.mk H
                          clear H
                          go_wp2_with (go_at_call 18; refine (strings_IndexByte.calls (a1.extract (wrap64 ((pos : Int) + 1)).toNat a1.size) 39 n _ A.out).mono ?_; rintro e w3 ⟨rfl, ⟨nd, rfl⟩⟩; have HI3 : Aside0 (Lib.IsBuilderF 42 5 w1.heap.size w1.heap.size (Lib.byteCells acc) (W.drewN nd)) := ⟨HI.out⟩; have HIT23 : Aside0 ((W.drewN nd).heap[w1.heap.size + 1]? = some (.stringIter a1 nx)) := ⟨HIT2.out⟩; have HBW3 : Aside0 (Below w1.heap.size w1 (W.drewN nd)) := ⟨pw_below_drewN HBW.out nd⟩; generalize W.drewN nd = W3 at HI3 HIT23 HBW3 ⊢)
                          go_roundg k1
                          case measure => have := HK1.out; omega
                          case rel => exact ⟨nx, acc, fr, wrap64 (wrap64 ((pos : Int) + n) + 2), false, sh, rfl, rfl, rfl, rfl, H', ⟨by have := HK1.out; omega⟩, HI3, HIT23, HBW3⟩
                        · rw [if_neg c8] at H
                          cases H
                      · rw [if_neg c7] at H
                        have c7b : decide (0 ≤ n) = false := decide_eq_false c7
                        clear c7
                        have H' := Aside0.mk H
                        clear H
                        go_wp2_with (go_at_call 18; refine (strings_IndexByte.calls (a1.extract (wrap64 ((pos : Int) + 1)).toNat a1.size) 39 n _ A.out).mono ?_; rintro e w3 ⟨rfl, ⟨nd, rfl⟩⟩; have HI3 : Aside0 (Lib.IsBuilderF 42 5 w1.heap.size w1.heap.size (Lib.byteCells acc) (W.drewN nd)) := ⟨HI.out⟩; have HIT23 : Aside0 ((W.drewN nd).heap[w1.heap.size + 1]? = some (.stringIter a1 nx)) := ⟨HIT2.out⟩; have HBW3 : Aside0 (Below w1.heap.size w1 (W.drewN nd)) := ⟨pw_below_drewN HBW.out nd⟩; generalize W.drewN nd = W3 at HI3 HIT23 HBW3 ⊢)
                        go_roundg k1
                        case measure => have := HK1.out; omega
                        case rel => exact ⟨nx, acc, fr, (a1.size : Int), false, sh, rfl, rfl, rfl, rfl, H', ⟨by have := HK1.out; omega⟩, HI3, HIT23, HBW3⟩
                  · rw [if_neg c5] at H
                    have c5b : (c == 39) = false := beq_eq_false_iff_ne.mpr c5
                    clear c5
                    by_cases c6 : c = 33
                    · rw [if_pos c6] at H
                      have c6b : (c == 33) = true := beq_iff_eq.mpr c6
                      clear c6
                      obtain ⟨st, A0, H⟩ := Option.bind_eq_some_iff.mp H
                      have A := Aside0.mk A0
                      clear A0
                      by_cases hst : st = true
                      · subst hst
                        rw [if_pos rfl] at H
                        have H' := Aside0.mk H
                        clear H
                        go_wp2_with (go_at_call 19; refine (bang_stays.calls a1 (pos : Int) q true _ A.out).mono ?_; rintro e w3 ⟨rfl, ⟨nd, rfl⟩⟩; have HI3 : Aside0 (Lib.IsBuilderF 42 5 w1.heap.size w1.heap.size (Lib.byteCells acc) (W.drewN nd)) := ⟨HI.out⟩; have HIT23 : Aside0 ((W.drewN nd).heap[w1.heap.size + 1]? = some (.stringIter a1 nx)) := ⟨HIT2.out⟩; have HBW3 : Aside0 (Below w1.heap.size w1 (W.drewN nd)) := ⟨pw_below_drewN HBW.out nd⟩; generalize W.drewN nd = W3 at HI3 HIT23 HBW3 ⊢)
                        go_roundg k1
                        case measure => have := HK1.out; omega
                        case rel => exact ⟨nx, acc, fr, un, q, sh, rfl, rfl, rfl, rfl, H', ⟨by have := HK1.out; omega⟩, HI3, HIT23, HBW3⟩
                      · have e0 := Bool.eq_false_iff.mpr hst
                        subst e0
                        clear hst
                        rw [if_neg (by simp)] at H
                        obtain ⟨⟨t1, t2, t3, t4, t5, t6, t7⟩, R0, H⟩ := Option.bind_eq_some_iff.mp H
                        have w1e : wrap64 ((pos : Int) + 1) = (pos : Int) + 1 := by have := HSB.out; have := HP.out; unfold wrap64; omega
                        rw [← w1e] at R0
                        clear w1e
                        have R := Aside0.mk R0
                        clear R0
                        dsimp only at H
                        go_wp2_with (go_at_call 19; refine (bang_stays.calls a1 (pos : Int) q false _ A.out).mono ?_; rintro e w3 ⟨rfl, ⟨nd, rfl⟩⟩; have HI3 : Aside0 (Lib.IsBuilderF 42 5 w1.heap.size w1.heap.size (Lib.byteCells acc) (W.drewN nd)) := ⟨HI.out⟩; have HIT23 : Aside0 ((W.drewN nd).heap[w1.heap.size + 1]? = some (.stringIter a1 nx)) := ⟨HIT2.out⟩; have HBW3 : Aside0 (Below w1.heap.size w1 (W.drewN nd)) := ⟨pw_below_drewN HBW.out nd⟩; generalize W.drewN nd = W3 at HI3 HIT23 HBW3 ⊢; have bx2 : W3.heap[w.heap.size]? = some (.cells #[.int .i64 a0_0, .slice A0_1 l0_1.length c0_1] 24 (0, 0)) := (HBW3.out.block _ (by have := HSZ.out; omega)).trans box1.out; have hbc0 : W3.cell? ⟨w.heap.size, 0, none⟩ = some (.int .i64 a0_0) := (blk_cell bx2 0).trans rfl; have hbc1 : W3.cell? ⟨w.heap.size, 1, none⟩ = some (.slice A0_1 l0_1.length c0_1) := (blk_cell bx2 1).trans rfl; clear bx2; have HM3 := Aside0.mk (HM1.out.le HBW3.out); have HR3 := Aside0.mk (Kd.C_below HR1.out HBW3.out))
                        refine (bang_reader_read.calls k1 W3.heap.size a0_0 l0_1 a1 (wrap64 ((pos : Int) + 1)) (⟨#[]⟩ : ByteArray) false t1 t2 t3 t4 t5 t6 t7 W3 _ (IsS47.new W3 W3 A0_1 c0_1 a0_0 l0_1 a1 (wrap64 ((pos : Int) + 1)) (⟨#[]⟩ : ByteArray) false (Below.refl _ _) ⟨HR3.out, HC0.out⟩) (below_alloc (Below.refl _ _) _) HM3.out R.out).mono ?_
                        rintro e W4 ⟨rfl, hI4, hb4, hk4⟩
                        have HI4 : Aside0 (Lib.IsBuilderF 42 5 w1.heap.size w1.heap.size (Lib.byteCells acc) W4) := ⟨builder_below HI3.out hb4⟩
                        have HIT24 : Aside0 (W4.heap[w1.heap.size + 1]? = some (.stringIter a1 nx)) := ⟨(hb4.block _ (Array.getElem?_eq_some_iff.1 HIT23.out).1).trans HIT23.out⟩
                        have HBW4 : Aside0 (Below w1.heap.size w1 W4) := ⟨HBW3.out.trans (hb4.mono HBW3.out.size)⟩
                        have HG1 : Aside0 (w1.heap.size + 1 < W3.heap.size) := ⟨(Array.getElem?_eq_some_iff.1 HIT23.out).1⟩
                        have HS4 := Aside0.mk hI4
                        clear hI4 hb4 hk4 hbc0 hbc1 HI3 HIT23 HR3 HM3 R A HI HIT2 HBW
                        obtain ⟨g, hg⟩ : ∃ g, W3.heap.size = g := ⟨_, rfl⟩
                        rw [hg] at HG1 HS4 ⊢
                        by_cases c8 : t2 = 0
                        · rw [if_pos c8] at H
                          have c8b : (t2 != 0) = false := bne_eq_false_iff_eq.mpr c8
                          clear c8
                          cases t1 with
                          | false =>
                            rw [if_neg (by simp)] at H
                            have H' := Aside0.mk H
                            clear H
                            go_wp2
                            go_roundg k1
                            case measure => have := HK1.out; omega
                            case rel => exact ⟨nx, acc, fr, un, q, sh, rfl, rfl, rfl, rfl, H', ⟨by have := HK1.out; omega⟩, HI4, HIT24, HBW4⟩
                          | true =>
                            rw [if_pos rfl] at H
                            by_cases d1 : 0 ≤ fr
                            · rw [if_pos d1] at H
                              by_cases d2 : fr ≤ (pos : Int)
                              · rw [if_pos d2] at H
                                by_cases d3 : (addT acc a1 fr pos t6).length ≤ 140737488355328
                                · rw [if_pos d3] at H
                                  have H' := Aside0.mk H
                                  clear H
                                  obtain ⟨A4, c4', HG, hge, hS⟩ := HS4.out
                                  have HG4 := Aside0.mk HG
                                  have q3 := cellS47_3 HG
                                  have q4 := cellS47_4 HG
                                  have q5 := cellS47_5 HG
                                  have d1b : (0 ≤ fr) = True := eq_true d1
                                  have d2b : (fr ≤ (pos : Int)) = True := eq_true d2
                                  have d4b : ((pos : Int) ≤ (a1.size : Int)) = True := eq_true (by have := HP.out; omega)
                                  have d1c : decide (0 ≤ fr) = true := decide_eq_true d1
                                  have d2c : decide (fr ≤ (pos : Int)) = true := decide_eq_true d2
                                  have d4c : decide ((pos : Int) ≤ (a1.size : Int)) = true := decide_eq_true (of_eq_true d4b)
                                  have d5b : (0 ≤ (pos : Int)) = True := eq_true (by omega)
                                  have HLEN : Aside0 ((Lib.byteCells acc).length + (a1.extract fr.toNat pos ++ t6).size ≤ 140737488355328) := ⟨by unfold addT at d3; rw [List.length_append, Array.length_toList] at d3; rw [Lib.byteCells_length]; exact d3⟩
                                  have HSZ4 : Aside0 (w1.heap.size ≤ W4.heap.size) := ⟨HBW4.out.size⟩
                                  clear HG hge hS d1 d2 d3
                                  go_wp2
                                  have q4d : W4.drew.cell? ⟨g, 4, none⟩ = some (.string t6) := q4
                                  have HI4d : Aside0 (Lib.IsBuilderF 42 5 w1.heap.size w1.heap.size (Lib.byteCells acc) W4.drew) := ⟨HI4.out⟩
                                  have HSZd : Aside0 (w1.heap.size ≤ W4.drew.heap.size) := ⟨HSZ4.out⟩
                                  have k0 : (a1.extract fr.toNat pos).size + t6.size ≤ 9223372036854775807 := by have := HLEN.out; rw [ByteArray.size_append] at this; omega
                                  rw [ByteArray.size_extract] at k0
                                  have k5_ : ¬ 9223372036854775807 < min pos a1.size - fr.toNat + t6.size := by omega
                                  clear k0
                                  go_region_with (go_at_call 21; refine (Tryd.Builder_WriteString_k w1.heap.size w1.heap.size _ (a1.extract fr.toNat pos ++ t6) _ HI4d.out HLEN.out HSZd.out).mono ?_; rintro e W5 ⟨rfl, h1, b1, k5⟩; have HI5 := Aside0.mk h1; have HB5 := Aside0.mk b1; have HK5 := Aside0.mk k5; clear h1 b1 k5)
                                  have HG5 : W5.heap[g]? = some (.cells #[.int .i64 t3, .slice A4 l0_1.length c4', .string t4, .int .i64 t5, .string t6, .bool t7] 47 (0, 0)) := HK5.out g _ HG4.out (fun e1 => by have := Option.some.inj e1; have := HG1.out; omega) (fun _ _ e1 => by injection e1 with _ e2 _; exact absurd e2 (by decide))
                                  have q3e : W5.drew.cell? ⟨g, 3, none⟩ = some (.int .i64 t5) := cellS47_3 HG5
                                  have q5e : W5.drew.cell? ⟨g, 5, none⟩ = some (.bool t7) := cellS47_5 HG5
                                  have HIT5 : Aside0 (W5.drew.heap[w1.heap.size + 1]? = some (.stringIter a1 nx)) := ⟨HK5.out.iter (w := W4.drew) HIT24.out (by omega)⟩
                                  have HBW5 : Aside0 (Below w1.heap.size w1 W5.drew) := ⟨(HBW4.out.drew.trans HB5.out).drew⟩
                                  have HI6 : Aside0 (Lib.IsBuilderF 42 5 w1.heap.size w1.heap.size (Lib.byteCells (addT acc a1 fr pos t6)) W5.drew) := ⟨by unfold addT; rw [Lib.byteCells_append]; exact Or.inr HI5.out⟩
                                  clear HG5 HI5 HB5 HK5 q3 q4 q5 q4d HI4d HSZd HG4 HLEN HSZ4 HI4 HIT24 HBW4 k5_ d1b d2b d4b d1c d2c d4c d5b
                                  go_wp2
                                  go_region
                                  cases sh with
                                  | false =>
                                    go_wp2
                                    go_roundg k1
                                    case measure => have := HK1.out; omega
                                    case rel => exact ⟨nx, addT acc a1 fr pos t6, t5, t5, q, t7, rfl, rfl, rfl, (by first | rfl | simp), H', ⟨by have := HK1.out; omega⟩, HI6, HIT5, HBW5⟩
                                  | true =>
                                    go_wp2
                                    go_roundg k1
                                    case measure => have := HK1.out; omega
                                    case rel => exact ⟨nx, addT acc a1 fr pos t6, t5, t5, q, true, rfl, rfl, rfl, (by first | rfl | simp), H', ⟨by have := HK1.out; omega⟩, HI6, HIT5, HBW5⟩
                                · rw [if_neg d3] at H
                                  cases H
                              · rw [if_neg d2] at H
                                cases H
                            · rw [if_neg d1] at H
                              cases H
                        · rw [if_neg c8] at H
                          have c8b : (t2 != 0) = true := bne_iff_ne.mpr c8
                          have H := Option.some.inj H
                          rw [Prod.mk.injEq, Prod.mk.injEq] at H
                          obtain ⟨rfl, rfl, rfl⟩ := H
                          clear c8
                          go_wp2
                          go_ret3
                          exact ⟨rfl, HB2.out.trans (HBW4.out.mono HB2.out.size)⟩
                    · rw [if_neg c6] at H
                      have c6b : (c == 33) = false := beq_eq_false_iff_ne.mpr c6
                      clear c6
                      have H' := Aside0.mk H
                      clear H
                      go_wp2
                      go_roundg k1
                      case measure => have := HK1.out; omega
                      case rel => exact ⟨nx, acc, fr, un, q, sh, rfl, rfl, rfl, rfl, H', ⟨by have := HK1.out; omega⟩, HI, HIT2, HBW⟩
          · rw [if_neg hp] at H
            have hnx : ∀ ty, (Instr.next (.pointer (some ⟨w1.heap.size + 1, 0, none⟩)) true ty).run Tryd.prog wr = _ := fun ty => Lib.run_next_end_at wr (w1.heap.size + 1) a1 pos ty HIT.out hp
            by_cases d1 : 0 ≤ fr
            · rw [if_pos d1] at H
              by_cases d2 : fr ≤ (a1.size : Int)
              · rw [if_pos d2] at H
                by_cases d3 : (catT acc a1 fr).size ≤ 140737488355328
                · rw [if_pos d3] at H
                  have H' := Aside0.mk H
                  clear H hp
                  have d1b : (0 ≤ fr) = True := eq_true d1
                  have d2b : (fr ≤ (a1.size : Int)) = True := eq_true d2
                  have d1c : decide (0 ≤ fr) = true := decide_eq_true d1
                  have d2c : decide (fr ≤ (a1.size : Int)) = true := decide_eq_true d2
                  have HLEN : Aside0 ((Lib.byteCells acc).length + (a1.extract fr.toNat a1.size).size ≤ 140737488355328) := ⟨by have e_ : (catT acc a1 fr).size = acc.length + (a1.extract fr.toNat a1.size).size := by { unfold catT; show (acc ++ _).toArray.size = _; rw [List.size_toArray, List.length_append, Array.length_toList]; rfl }; rw [Lib.byteCells_length, ← e_]; exact d3⟩
                  have HSZ4 : Aside0 (w1.heap.size ≤ wr.heap.size) := ⟨HBL.out.size⟩
                  clear d1 d2 d3
                  go_wp2_with (go_at_call 21; refine (Tryd.Builder_WriteString_k w1.heap.size w1.heap.size _ (a1.extract fr.toNat a1.size) _ HBU.out HLEN.out HSZ4.out).mono ?_; rintro e W5 ⟨rfl, h1, b1, k5⟩; have HI5 := Aside0.mk h1; have HB5 := Aside0.mk b1; clear h1 b1 k5)
                  have HI6 : Lib.IsBuilderF 42 5 w1.heap.size w1.heap.size (Lib.byteCells (acc ++ (a1.extract fr.toNat a1.size).data.toList)) W5 := by rw [Lib.byteCells_append]; exact Or.inr HI5.out
                  have HSZ5 : w1.heap.size ≤ W5.heap.size := Nat.le_trans HSZ4.out HB5.out.size
                  refine (Tryd.Builder_String_any_k w1.heap.size w1.heap.size _ _ HI6 HSZ5).mono ?_
                  rintro e W6 ⟨rfl, h6, b6, k6⟩
                  have HB6 : Aside0 (Below w.heap.size w W6) := ⟨HB2.out.trans ((HBL.out.trans (HB5.out.trans b6)).mono HB2.out.size)⟩
                  have H2 : Aside0 (bang_result.f ⟨(acc ++ (a1.extract fr.toNat a1.size).data.toList).toArray⟩ sh = some (r1, r2, r3)) := H'
                  clear h6 b6 k6 HI6 HSZ5 H'
                  obtain ⟨tx, htx⟩ : ∃ tx : ByteArray, (⟨(acc ++ (a1.extract fr.toNat a1.size).data.toList).toArray⟩ : ByteArray) = tx := ⟨_, rfl⟩
                  rw [htx] at H2 ⊢
                  go_wp2_with (go_at_call 22; refine (bang_result.calls tx sh r1 r2 r3 _ H2.out).mono ?_; rintro e W7 ⟨rfl, ⟨nd, rfl⟩⟩)
                  go_ret3
                  exact ⟨rfl, pw_below_drewN HB6.out nd⟩
                · rw [if_neg d3] at H
                  cases H
              · rw [if_neg d2] at H
                cases H
            · rw [if_neg d1] at H
              cases H
end Go.Proofs.YthoanbjklgoggaaDoor.PAll
