/- history.Contains and history.Begins, by hand (a range over slices.Backward), in the form of the printed contracts. -/
import Derived.Test.YthoanbjklgoggaaDoorPAllx0
import Derived.Test.YthoanbjklgoggaaDoorPAllx6
import Derived.Test.YthoanbjklgoggaaDoorExtStr
import Derived.RangeFuncNested
import Derived.RangeFuncBound
import Derived.RangeFuncCalls
import Derived.RangeFuncLeaves
import Derived.RangeFuncBox
import Derived.Shelf.Abstract
import Derived.Shelf.RegionOpen
import Derived.WalkKit
import Derived.OwnWalkIn
import Derived.TacticsInMore
import Derived.LoopNIn
import Derived.LoopIn
namespace Go.Proofs.YthoanbjklgoggaaDoor.PAll
open Go.RowKit Go.Shelf Go.Proofs.YthoanbjklgoggaaDoorW.PrintWords Go.Proofs.YthoanbjklgoggaaDoorW.PrintLast Go.Proofs.YthoanbjklgoggaaDoorW.PrintMore
set_option linter.unusedVariables false
set_option linter.unusedSimpArgs false
attribute [local go_sem] Oper.semAt_some
/-- The place of the last element that fulfils a condition, counted from the end of a list read backwards. -/
def lastOf (p : ByteArray → Bool) : List ByteArray → Option Nat
  | [] => none
  | x :: t => if p x = true then some t.length else lastOf p t
def numF (h0 : Int) (l : List ByteArray) (p : ByteArray → Bool) : Int × Bool :=
  match lastOf p l.reverse with
  | none => (0, false)
  | some i => (wrap64 (h0 + (i : Int)), true)
def history_Contains.f (h0 : Int) (l : List ByteArray) (s : ByteArray) : Option (Int × Bool) :=
  if (l.all fun x => decide (x.size < 4294967281)) = true then (if l.length ≤ 1099511627776 then some (numF h0 l fun x => Lib.contains x.data.toList s.data.toList) else none) else none
def history_Begins.f (h0 : Int) (l : List ByteArray) (s : ByteArray) : Option (Int × Bool) :=
  if (l.all fun x => decide (x.size < 4294967281)) = true then (if l.length ≤ 1099511627776 then some (numF h0 l fun x => (strings_HasPrefix.f x s).getD false) else none) else none
theorem lastOf_first (p : ByteArray → Bool) : ∀ (t : List ByteArray) (k : Nat) (h : k < t.length), p t[k] = true → (∀ (j : Nat) (hj : j < k), p (t[j]'(by omega)) = false) → lastOf p t = some (t.length - 1 - k)
  | [], k, h, _, _ => by simp at h
  | x :: t, 0, h, h1, _ => by
    have h1 : p x = true := h1
    simp [lastOf, h1]
  | x :: t, k + 1, h, h1, h2 => by
    have h0 : p x = false := h2 0 (by omega)
    rw [lastOf, if_neg (by rw [h0]; simp), lastOf_first p t k (by simpa using h) (by simpa using h1) (fun j hj => by have := h2 (j + 1) (by omega); simpa using this)]
    simp
    omega
theorem lastOf_none (p : ByteArray → Bool) : ∀ (t : List ByteArray), (∀ x ∈ t, p x = false) → lastOf p t = none
  | [], _ => rfl
  | x :: t, h => by rw [lastOf, if_neg (by rw [h x (by simp)]; simp), lastOf_none p t (fun y hy => h y (by simp [hy]))]
abbrev SB := { b : ByteArray // b.size < 4294967281 }
def sb0 : SB := ⟨⟨#[]⟩, by decide⟩
/-- What comes in round i: the elements from the end on. -/
def bkf (zs : List SB) (i : Nat) : Nat × SB := (zs.length - 1 - i, zs[zs.length - 1 - i]?.getD sb0)
def bup (zs : List SB) (k : Nat) : List (Nat × SB) := (List.range k).map (bkf zs)
theorem bup_succ (zs : List SB) (k : Nat) : bup zs (k + 1) = bup zs k ++ [bkf zs k] := by simp [bup, List.range_succ]
theorem bup_length (zs : List SB) (k : Nat) : (bup zs k).length = k := by simp [bup]
set_option maxRecDepth 100000 in
set_option maxHeartbeats 2000000 in
/-- slices.Backward's closure. -/
theorem back1_in (F : Fence) (n : Nat) (h90 : F.fn 90) (hro : F.round = none) (hn : 1 ≤ n) (l Bs n₀ b off cap : Nat) (zs : List SB) (hreach : zs.length ≤ 1099511627776) (hb : b < n₀) (hBn : Bs < n₀) (J Jx : List (Nat × SB) → World → Prop)
    (hY : ∀ pre x W, J pre W → pre.length < zs.length → YieldAt F (n - 1) Tryd.prog l #[.int .i64 (x.1 : Int), .string x.2.1] W fun e W' =>
      (e = .returned (.bool true) ∧ J (pre ++ [x]) W' ∧ Below n₀ W W') ∨ (e = .returned (.bool false) ∧ Jx (pre ++ [x]) W'))
    (W : World) (hBs : W.cell? ⟨Bs, 0, none⟩ = some (.slice (some ⟨b, off, none⟩) zs.length cap)) (hc : ∀ j, j < zs.length → W.cell? ⟨b, off + j, none⟩ = some (.string (zs[j]?.getD sb0).1)) (h0 : J [] W) :
    CallsIn F n Tryd.prog 90 #[.func (.yield l) #[] #[], .pointer (some ⟨Bs, 0, none⟩)] W fun e W' => (∃ v, e = .returned v) ∧
      ((∃ ys, ys = bup zs zs.length ∧ J ys W') ∨ (∃ pre, (∃ k, k ≤ zs.length ∧ pre = bup zs k) ∧ Jx pre W')) := by
  refine callsIn_of_wp Tryd.func90 rfl h90 ?_ hro
  simp only [Tryd.ntmps90, List.size_toArray, List.length_cons, List.length_nil, Nat.reduceAdd, Nat.reduceSub, Array.replicate_succ, Array.replicate_zero, List.push_toArray, List.append_toArray, List.nil_append, List.cons_append]
  have w0 : wrap64 ((zs.length : Int) - 1) = (zs.length : Int) - 1 := by unfold wrap64; omega
  gi_wp2
  gi_loopw [3] (fun i wr => ∃ j : Nat, j ≤ zs.length ∧ i = .int .i64 ((j : Int) - 1) ∧ J (bup zs (zs.length - j)) wr ∧ Below n₀ W wr)
    (fun i _ => (intOf i + 1).toNat)
  case atStart => exact ⟨zs.length, Nat.le_refl _, by first | rfl | rw [w0], by rw [Nat.sub_self]; exact h0, Below.refl _ _⟩
  case round =>
    obtain ⟨j, hj, rfl, hJs, hnx⟩ := hrel
    have hbx : wr.cell? ⟨Bs, 0, none⟩ = some (.slice (some ⟨b, off, none⟩) zs.length cap) := (hnx.cell (p := ⟨Bs, 0, none⟩) hBn).trans hBs
    cases j with
    | zero =>
      gi_wp2
      go_end0
      exact ⟨⟨_, rfl⟩, .inl ⟨_, rfl, hJs⟩⟩
    | succ i =>
      have e1 : ((i + 1 : Nat) : Int) - 1 = (i : Int) := by omega
      rw [e1]
      have hi : i < zs.length := hj
      have t1 : (0 ≤ (i : Int)) = True := eq_true (by omega)
      have t2 : ((i : Int) < (zs.length : Int)) = True := eq_true (by omega)
      have w1 : wrap64 ((i : Int) - 1) = (i : Int) - 1 := by unfold wrap64; omega
      have ef : bkf zs (zs.length - (i + 1)) = (i, zs[i]?.getD sb0) := by
        unfold bkf
        rw [show zs.length - 1 - (zs.length - (i + 1)) = i from by omega]
      have hcx : wr.cell? ⟨b, off + i, none⟩ = some (.string (zs[i]?.getD sb0).1) := (hnx.cell (p := ⟨b, off + i, none⟩) hb).trans (hc i hi)
      obtain ⟨x, hx⟩ : ∃ x, zs[i]?.getD sb0 = x := ⟨_, rfl⟩
      rw [hx] at hcx ef
      clear hx
      obtain ⟨fn, tmps, assign, body, hy, hR⟩ := hY _ (i, x) wr hJs (by rw [bup_length]; omega)
      dsimp only at hy
      gi_wp2
      refine hR.mono ?_
      rintro e W3 (⟨rfl, hJ3, hk3⟩ | ⟨rfl, hJx3⟩)
      · gi_wp2
        go_roundw
        case rel => exact ⟨i, by omega, by first | rfl | rw [w1], by rw [show zs.length - i = (zs.length - (i + 1)) + 1 from by omega, bup_succ, ef]; exact hJ3, hnx.trans hk3⟩
        case measure => first | (simp [intOf]; done) | (simp [intOf]; omega)
      · gi_wp2
        refine bodyPost_ret (results_none rfl _ _ _) rfl ?_
        exact ⟨⟨_, rfl⟩, .inr ⟨_, ⟨zs.length - i, by omega, by rw [show zs.length - i = (zs.length - (i + 1)) + 1 from by omega, bup_succ, ef]⟩, hJx3⟩⟩
set_option maxRecDepth 100000 in
set_option maxHeartbeats 1000000 in
theorem back1_nil_in (F : Fence) (n : Nat) (h90 : F.fn 90) (hro : F.round = none) (l Bs cap : Nat) (a : Option Addr) (J : List (Nat × SB) → World → Prop) (W : World) (hBs : W.cell? ⟨Bs, 0, none⟩ = some (.slice a 0 cap)) (h0 : J [] W) :
    CallsIn F n Tryd.prog 90 #[.func (.yield l) #[] #[], .pointer (some ⟨Bs, 0, none⟩)] W fun e W' => (∃ v, e = .returned v) ∧ J [] W' := by
  refine callsIn_of_wp Tryd.func90 rfl h90 ?_ hro
  simp only [Tryd.ntmps90, List.size_toArray, List.length_cons, List.length_nil, Nat.reduceAdd, Nat.reduceSub, Array.replicate_succ, Array.replicate_zero, List.push_toArray, List.append_toArray, List.nil_append, List.cons_append]
  gi_wp2
  gi_loopw [3] (fun i wr => i = .int .i64 (-1) ∧ J [] wr) (fun _ _ => 0)
  case atStart => exact ⟨rfl, h0⟩
  case round =>
    obtain ⟨rfl, hJs⟩ := hrel
    gi_wp2
    go_end0
    exact ⟨⟨_, rfl⟩, hJs⟩
set_option maxHeartbeats 1000000 in
theorem backward_in (F : Fence) (n : Nat) (h84 : F.fn 84) (hro : F.round = none) (a : Option Addr) (len cap : Nat) (w : World) :
    CallsIn F n Tryd.prog 84 #[.slice a len cap] w fun e w' => e = .returned (.func (.func 90) #[] #[.pointer (some ⟨w.heap.size, 0, none⟩)]) ∧ w' = w.alloc (.cells #[.slice a len cap] 22) := by
  refine callsIn_of_wp Tryd.func84 rfl h84 ?_ hro
  simp only [Tryd.ntmps84, List.size_toArray, List.length_cons, List.length_nil, Nat.reduceAdd, Nat.reduceSub, Array.replicate_succ, Array.replicate_zero, List.push_toArray, List.append_toArray, List.nil_append, List.cons_append]
  gi_wp2
  go_ret
  exact ⟨rfl, rfl⟩
/-- A slice value that holds these texts, in a block below n₀. -/
def Strs (n₀ : Nat) (W : World) (sv : Value) (zs : List SB) : Prop :=
  (∃ a cap, sv = .slice a 0 cap ∧ zs = []) ∨ ∃ b off cap, sv = .slice (some ⟨b, off, none⟩) zs.length cap ∧ b < n₀ ∧ ∀ j, j < zs.length → W.cell? ⟨b, off + j, none⟩ = some (.string (zs[j]?.getD sb0).1)
theorem Strs.below {n₀ m : Nat} {A B : World} (h : Below m A B) (hm : n₀ ≤ m) {sv : Value} {zs : List SB} : Strs n₀ A sv zs → Strs n₀ B sv zs
  | .inl e => .inl e
  | .inr ⟨b, off, cap, e, hb, hc⟩ => .inr ⟨b, off, cap, e, hb, fun j hj => (h.cell (p := ⟨b, off + j, none⟩) (Nat.lt_of_lt_of_le hb hm)).trans (hc j hj)⟩
theorem Strs.wide {n₀ m : Nat} {A : World} (hm : n₀ ≤ m) {sv : Value} {zs : List SB} : Strs n₀ A sv zs → Strs m A sv zs
  | .inl e => .inl e
  | .inr ⟨b, off, cap, e, hb, hc⟩ => .inr ⟨b, off, cap, e, Nat.lt_of_lt_of_le hb hm, hc⟩
theorem back_stops (F : Fence) (n : Nat) (h90 : F.fn 90) (hro : F.round = none) (hn : 1 ≤ n) (Bs n₀ : Nat) (sv : Value) (zs : List SB) (hreach : zs.length ≤ 1099511627776) (w : World) (hBs : Bs < n₀) (hn₀ : n₀ ≤ w.heap.size)
    (hc : w.cell? ⟨Bs, 0, none⟩ = some sv) (hI : Strs n₀ w sv zs) :
    SeqStopsK F n Tryd.prog 90 #[.pointer (some ⟨Bs, 0, none⟩)] (fun x : Nat × SB => #[Value.int .i64 (x.1 : Int), Value.string x.2.1]) (Below n₀) (fun ys => ys = bup zs zs.length)
      (fun pre => ∃ k, k ≤ zs.length ∧ pre = bup zs k) zs.length w := fun l J Jx W hW _ _ hY h0 => by
  have hc' := (hW.cell (p := ⟨Bs, 0, none⟩) (Nat.lt_of_lt_of_le hBs hn₀)).trans hc
  rcases hI.below (hW.mono hn₀) (Nat.le_refl _) with ⟨a, cap, rfl, rfl⟩ | ⟨b, off, cap, rfl, hb, hcs⟩
  · exact (back1_nil_in F n h90 hro l Bs cap a J W hc' h0).mono fun e W' ⟨he, hj⟩ => ⟨he, .inl ⟨_, rfl, hj⟩⟩
  · exact back1_in F n h90 hro hn l Bs n₀ b off cap zs hreach hb hBs J Jx hY W hc' hcs h0
set_option maxRecDepth 100000 in
set_option maxHeartbeats 4000000 in
theorem last67_in (F : Fence) (n : Nat) (hG : F.fn 67) (h80 : F.fn 80) (h84 : F.fn 84) (h90 : F.fn 90) (hro : F.round = none) (hn : 4 ≤ n) (sb : Addr) (p : ByteArray → Bool) (a : Option Addr) (cap : Nat) (zs : List SB) (hreach : zs.length ≤ 1099511627776) (w : World) (hI : Strs w.heap.size w (.slice a zs.length cap) zs)
    (hP : ∀ (l : Nat) (m : Nat) (x : SB) (W : World), Below w.heap.size w W → CallsIn (F.inRound l) m Tryd.prog 67 #[.string x.1, .pointer (some sb)] W fun e W' => e = .returned (.bool (p x.1)) ∧ ∃ q, W' = W.drewN q) :
    CallsIn F n Tryd.prog 80 #[.slice a zs.length cap, .func (.func 67) #[] #[.pointer (some sb)]] w fun e W' =>
      ((e = .returned (.int .i64 (-1)) ∧ ∀ x ∈ bup zs zs.length, p x.2.1 = false) ∨ (∃ k : Nat, k < zs.length ∧ e = .returned (.int .i64 ((zs.length - 1 - k : Nat) : Int)) ∧ p (bkf zs k).2.1 = true ∧ ∀ x ∈ bup zs k, p x.2.1 = false)) ∧ Below w.heap.size w W' := by
  have h1 : 1 ≤ n := by omega
  have h2 : 1 ≤ n - 1 - 1 := by omega
  have h3 : 1 ≤ n - 1 - 1 - 1 := by omega
  refine callsIn_of_wp_marks Tryd.func80 rfl h80 ?_ hro
  simp only [Tryd.ntmps80, List.size_toArray, List.length_cons, List.length_nil, Nat.reduceAdd, Nat.reduceSub, Array.replicate_succ, Array.replicate_zero, List.push_toArray, List.append_toArray, List.nil_append, List.cons_append]
  gi_wp2_with (gi_at_call 84; refine (backward_in F (n - 1) h84 hro _ _ _ _).mono ?_; rintro e w' ⟨rfl, rfl⟩)
  have bF := Boxed.new w 63 (.func (.func 67) #[] #[.pointer (some sb)])
  have bR := Boxed.new (w.alloc (.cells #[.func (.func 67) #[] #[.pointer (some sb)]] 63)) 3 (.int .i64 0)
  have bN := Boxed.new ((w.alloc (.cells #[.func (.func 67) #[] #[.pointer (some sb)]] 63)).alloc (.cells #[.int .i64 0] 3)) 22 (.slice a zs.length cap)
  rw [World.size_alloc] at bR
  rw [World.size_alloc, World.size_alloc] at bN
  have hB0 : Below w.heap.size w (((w.alloc (.cells #[.func (.func 67) #[] #[.pointer (some sb)]] 63)).alloc (.cells #[.int .i64 0] 3)).alloc (.cells #[.slice a zs.length cap] 22)) := (((Below.refl _ w).alloc (Nat.le_refl _) _).alloc (by simp) _).alloc (by simp; omega) _
  have hF0 := ((bF.alloc (.cells #[.int .i64 0] 3)).alloc (.cells #[.slice a zs.length cap] 22)).cell
  have hR0 := (bR.alloc (.cells #[.slice a zs.length cap] 22)).cell
  have hRf0 := (bR.alloc (.cells #[.slice a zs.length cap] 22)).frozen
  have hN0 := bN.cell
  have hsz : (((w.alloc (.cells #[.func (.func 67) #[] #[.pointer (some sb)]] 63)).alloc (.cells #[.int .i64 0] 3)).alloc (.cells #[.slice a zs.length cap] 22)).heap.size = w.heap.size + 3 := by simp
  obtain ⟨W0, hW0⟩ : ∃ W0, (((w.alloc (.cells #[.func (.func 67) #[] #[.pointer (some sb)]] 63)).alloc (.cells #[.int .i64 0] 3)).alloc (.cells #[.slice a zs.length cap] 22)) = W0 := ⟨_, rfl⟩
  rw [hW0] at hF0 hR0 hRf0 hN0 hsz hB0 ⊢
  clear hW0 bF bR bN
  have hI0 : Strs W0.heap.size W0 (.slice a zs.length cap) zs := (hI.below hB0 (Nat.le_refl _)).wide hB0.size
  refine wpIn_rangeFunc_ownG hro h1 (gf := 90) (lb := #[.pointer (some ⟨w.heap.size + 1 + 1, 0, none⟩)]) rfl h90 (enters_of Tryd.func90 (by kernel_rfl) rfl)
    (back_stops F (n - 1) h90 hro (by omega) (w.heap.size + 1 + 1) W0.heap.size _ zs hreach _ (by omega) (Nat.le_refl _) hN0 hI0) belowK_t (belowK_b (Nat.le_refl _)) (Below.refl _ _) (fun _ => rfl)
    (fun pre W => ((∀ x ∈ pre, p x.2.1 = false) ∧ W.cell? ⟨w.heap.size, 0, none⟩ = some (.func (.func 67) #[] #[.pointer (some sb)]) ∧ W.cell? ⟨w.heap.size + 1, 0, none⟩ = some (.int .i64 0) ∧ W.frozen? ⟨w.heap.size + 1, 0, none⟩ = false) ∧ Below w.heap.size w W)
    (fun c pre W => (c = .ret ∧ ∃ ini last, pre = ini ++ [last] ∧ (∀ x ∈ ini, p x.2.1 = false) ∧ p last.2.1 = true ∧ W.cell? ⟨w.heap.size + 1, 0, none⟩ = some (.int .i64 (last.1 : Int))) ∧ Below w.heap.size w W)
    (OwnFrom.and (Own.from (fun s A B row hs hg hr => ⟨hs.1, cell_kept hs.2.1 hg hr, cell_kept hs.2.2.1 hg hr, (frozen_kept hs.2.2.1 hg hr).trans hs.2.2.2⟩) _) (ownFrom_below (Nat.le_refl _) (by omega)))
    (fun c => OwnFrom.and (Own.from (fun s A B row hs hg hr => by obtain ⟨hc, ini, last, e1, e2, e3, e4⟩ := hs; exact ⟨hc, ini, last, e1, e2, e3, cell_kept e4 hg hr⟩) _) (ownFrom_below (Nat.le_refl _) (by omega)))
    ⟨⟨by simp, hF0, hR0, hRf0⟩, hB0⟩
    (fun x => { tmps := #[.slice a zs.length cap, .func (.func 67) #[] #[.pointer (some sb)], undef, .pointer (some ⟨w.heap.size, 0, none⟩), .pointer (some ⟨w.heap.size + 1, 0, none⟩), .int .i64 (x.1 : Int), .string x.2.1, .slice a zs.length cap, .func (.func 90) #[] #[.pointer (some ⟨w.heap.size + 1 + 1, 0, none⟩)], .int .i64 (x.1 : Int), .string x.2.1, undef, undef, undef, undef], defers := [] }) ?assign ?body ?done ?stop
  case assign =>
    intro l x W K hK
    gi_wp2
    exact hK
  case body =>
    rintro l pre x W ⟨⟨hp, hF, hR, hRf⟩, hB⟩ _
    cases hpx : p x.2.1 with
    | true =>
      gi_wp2_with (gi_at_call 67; refine (hP l _ x.2 W hB).mono ?_; rintro e W' ⟨rfl, q, rfl⟩; have hR2 : (W.drewN q).cell? ⟨w.heap.size + 1, 0, none⟩ = some (.int .i64 0) := hR; have hRf2 : (W.drewN q).frozen? ⟨w.heap.size + 1, 0, none⟩ = false := hRf; rw [hpx])
      exact ⟨KeepsFrom.trans (Y := W.drewN q) ⟨Nat.le_refl _, fun _ _ _ h _ => h⟩ ((KeepsOthers.setCell (W.drewN q) _ _).from _), ⟨rfl, pre, x, rfl, hp, hpx, World.cell?_setCell_same' _ _ _ (by rw [hR2]; rfl)⟩, (pw_below_drewN hB q).setCell (p := ⟨w.heap.size + 1, 0, none⟩) (Nat.le_succ _) _⟩
    | false =>
      gi_wp2_with (gi_at_call 67; refine (hP l _ x.2 W hB).mono ?_; rintro e W' ⟨rfl, q, rfl⟩; rw [hpx])
      exact ⟨⟨Nat.le_refl _, fun _ _ _ h _ => h⟩, pw_below_drewN (Below.refl _ _) q, ⟨fun y hy => (List.mem_append.1 hy).elim (hp y) (fun e => by simp at e; subst e; exact hpx), hF, hR, hRf⟩, pw_below_drewN hB q⟩
  case done =>
    rintro D ys W hD rfl ⟨⟨hne, hF, hR, hRf⟩, hB⟩ hK
    gi_wp2
    have hK' := (KeepsOthers.setCell W ⟨w.heap.size + 1, 0, none⟩ (.int .i64 (-1))).same D _ hK rfl
    refine ⟨by simp, .inl ⟨_, _, rfl, run_takeDeferred hK', ?_⟩⟩
    have hc5 := cell_kept (World.cell?_setCell_same' W ⟨w.heap.size + 1, 0, none⟩ (.int .i64 (-1)) (by rw [hR]; rfl)) (grownBy_putObj' _ D (.deferred none)) (fun r e => by cases e; exact ⟨_, hK', rfl⟩)
    refine ⟨.int .i64 (-1), ?_, .inl ⟨rfl, hne⟩, (hB.setCell (p := ⟨w.heap.size + 1, 0, none⟩) (Nat.le_succ _) _).trans (belowK_b (w := w) (Nat.le_refl _) _ D _ _ (by omega) hK' rfl rfl)⟩
    simp [results, Tryd.f80, go_sem, hc5]
  case stop =>
    rintro D c pre W hD ⟨k, hk, rfl⟩ ⟨⟨rfl, ini, last, e1, e2, e3, hR⟩, hB⟩ hK
    gi_wp2
    refine ⟨by simp, .inl ⟨_, _, rfl, run_takeDeferred hK, ?_⟩⟩
    have hc5 := cell_kept hR (grownBy_putObj' _ D (.deferred none)) (fun r e => by cases e; exact ⟨_, hK, rfl⟩)
    obtain ⟨k', rfl⟩ : ∃ k', k = k' + 1 := by
      cases k with
      | zero => simp [bup] at e1
      | succ k' => exact ⟨k', rfl⟩
    rw [bup_succ] at e1
    obtain ⟨rfl, e5⟩ := List.append_inj' e1 rfl
    obtain rfl : bkf zs k' = last := by simpa using e5
    refine ⟨.int .i64 ((zs.length - 1 - k' : Nat) : Int), ?_, .inr ⟨k', by omega, rfl, e3, e2⟩, hB.trans (belowK_b (w := w) (Nat.le_refl _) W D _ _ (by omega) hK rfl rfl)⟩
    have hc6 : (bkf zs k').1 = zs.length - 1 - k' := rfl
    rw [hc6] at hc5
    simp [results, Tryd.f80, go_sem, hc5]
set_option maxRecDepth 100000 in
set_option maxHeartbeats 4000000 in
theorem last68_in (F : Fence) (n : Nat) (hG : F.fn 68) (h80 : F.fn 80) (h84 : F.fn 84) (h90 : F.fn 90) (hro : F.round = none) (hn : 4 ≤ n) (sb : Addr) (p : ByteArray → Bool) (a : Option Addr) (cap : Nat) (zs : List SB) (hreach : zs.length ≤ 1099511627776) (w : World) (hI : Strs w.heap.size w (.slice a zs.length cap) zs)
    (hP : ∀ (l : Nat) (m : Nat) (x : SB) (W : World), Below w.heap.size w W → CallsIn (F.inRound l) m Tryd.prog 68 #[.string x.1, .pointer (some sb)] W fun e W' => e = .returned (.bool (p x.1)) ∧ ∃ q, W' = W.drewN q) :
    CallsIn F n Tryd.prog 80 #[.slice a zs.length cap, .func (.func 68) #[] #[.pointer (some sb)]] w fun e W' =>
      ((e = .returned (.int .i64 (-1)) ∧ ∀ x ∈ bup zs zs.length, p x.2.1 = false) ∨ (∃ k : Nat, k < zs.length ∧ e = .returned (.int .i64 ((zs.length - 1 - k : Nat) : Int)) ∧ p (bkf zs k).2.1 = true ∧ ∀ x ∈ bup zs k, p x.2.1 = false)) ∧ Below w.heap.size w W' := by
  have h1 : 1 ≤ n := by omega
  have h2 : 1 ≤ n - 1 - 1 := by omega
  have h3 : 1 ≤ n - 1 - 1 - 1 := by omega
  refine callsIn_of_wp_marks Tryd.func80 rfl h80 ?_ hro
  simp only [Tryd.ntmps80, List.size_toArray, List.length_cons, List.length_nil, Nat.reduceAdd, Nat.reduceSub, Array.replicate_succ, Array.replicate_zero, List.push_toArray, List.append_toArray, List.nil_append, List.cons_append]
  gi_wp2_with (gi_at_call 84; refine (backward_in F (n - 1) h84 hro _ _ _ _).mono ?_; rintro e w' ⟨rfl, rfl⟩)
  have bF := Boxed.new w 63 (.func (.func 68) #[] #[.pointer (some sb)])
  have bR := Boxed.new (w.alloc (.cells #[.func (.func 68) #[] #[.pointer (some sb)]] 63)) 3 (.int .i64 0)
  have bN := Boxed.new ((w.alloc (.cells #[.func (.func 68) #[] #[.pointer (some sb)]] 63)).alloc (.cells #[.int .i64 0] 3)) 22 (.slice a zs.length cap)
  rw [World.size_alloc] at bR
  rw [World.size_alloc, World.size_alloc] at bN
  have hB0 : Below w.heap.size w (((w.alloc (.cells #[.func (.func 68) #[] #[.pointer (some sb)]] 63)).alloc (.cells #[.int .i64 0] 3)).alloc (.cells #[.slice a zs.length cap] 22)) := (((Below.refl _ w).alloc (Nat.le_refl _) _).alloc (by simp) _).alloc (by simp; omega) _
  have hF0 := ((bF.alloc (.cells #[.int .i64 0] 3)).alloc (.cells #[.slice a zs.length cap] 22)).cell
  have hR0 := (bR.alloc (.cells #[.slice a zs.length cap] 22)).cell
  have hRf0 := (bR.alloc (.cells #[.slice a zs.length cap] 22)).frozen
  have hN0 := bN.cell
  have hsz : (((w.alloc (.cells #[.func (.func 68) #[] #[.pointer (some sb)]] 63)).alloc (.cells #[.int .i64 0] 3)).alloc (.cells #[.slice a zs.length cap] 22)).heap.size = w.heap.size + 3 := by simp
  obtain ⟨W0, hW0⟩ : ∃ W0, (((w.alloc (.cells #[.func (.func 68) #[] #[.pointer (some sb)]] 63)).alloc (.cells #[.int .i64 0] 3)).alloc (.cells #[.slice a zs.length cap] 22)) = W0 := ⟨_, rfl⟩
  rw [hW0] at hF0 hR0 hRf0 hN0 hsz hB0 ⊢
  clear hW0 bF bR bN
  have hI0 : Strs W0.heap.size W0 (.slice a zs.length cap) zs := (hI.below hB0 (Nat.le_refl _)).wide hB0.size
  refine wpIn_rangeFunc_ownG hro h1 (gf := 90) (lb := #[.pointer (some ⟨w.heap.size + 1 + 1, 0, none⟩)]) rfl h90 (enters_of Tryd.func90 (by kernel_rfl) rfl)
    (back_stops F (n - 1) h90 hro (by omega) (w.heap.size + 1 + 1) W0.heap.size _ zs hreach _ (by omega) (Nat.le_refl _) hN0 hI0) belowK_t (belowK_b (Nat.le_refl _)) (Below.refl _ _) (fun _ => rfl)
    (fun pre W => ((∀ x ∈ pre, p x.2.1 = false) ∧ W.cell? ⟨w.heap.size, 0, none⟩ = some (.func (.func 68) #[] #[.pointer (some sb)]) ∧ W.cell? ⟨w.heap.size + 1, 0, none⟩ = some (.int .i64 0) ∧ W.frozen? ⟨w.heap.size + 1, 0, none⟩ = false) ∧ Below w.heap.size w W)
    (fun c pre W => (c = .ret ∧ ∃ ini last, pre = ini ++ [last] ∧ (∀ x ∈ ini, p x.2.1 = false) ∧ p last.2.1 = true ∧ W.cell? ⟨w.heap.size + 1, 0, none⟩ = some (.int .i64 (last.1 : Int))) ∧ Below w.heap.size w W)
    (OwnFrom.and (Own.from (fun s A B row hs hg hr => ⟨hs.1, cell_kept hs.2.1 hg hr, cell_kept hs.2.2.1 hg hr, (frozen_kept hs.2.2.1 hg hr).trans hs.2.2.2⟩) _) (ownFrom_below (Nat.le_refl _) (by omega)))
    (fun c => OwnFrom.and (Own.from (fun s A B row hs hg hr => by obtain ⟨hc, ini, last, e1, e2, e3, e4⟩ := hs; exact ⟨hc, ini, last, e1, e2, e3, cell_kept e4 hg hr⟩) _) (ownFrom_below (Nat.le_refl _) (by omega)))
    ⟨⟨by simp, hF0, hR0, hRf0⟩, hB0⟩
    (fun x => { tmps := #[.slice a zs.length cap, .func (.func 68) #[] #[.pointer (some sb)], undef, .pointer (some ⟨w.heap.size, 0, none⟩), .pointer (some ⟨w.heap.size + 1, 0, none⟩), .int .i64 (x.1 : Int), .string x.2.1, .slice a zs.length cap, .func (.func 90) #[] #[.pointer (some ⟨w.heap.size + 1 + 1, 0, none⟩)], .int .i64 (x.1 : Int), .string x.2.1, undef, undef, undef, undef], defers := [] }) ?assign ?body ?done ?stop
  case assign =>
    intro l x W K hK
    gi_wp2
    exact hK
  case body =>
    rintro l pre x W ⟨⟨hp, hF, hR, hRf⟩, hB⟩ _
    cases hpx : p x.2.1 with
    | true =>
      gi_wp2_with (gi_at_call 68; refine (hP l _ x.2 W hB).mono ?_; rintro e W' ⟨rfl, q, rfl⟩; have hR2 : (W.drewN q).cell? ⟨w.heap.size + 1, 0, none⟩ = some (.int .i64 0) := hR; have hRf2 : (W.drewN q).frozen? ⟨w.heap.size + 1, 0, none⟩ = false := hRf; rw [hpx])
      exact ⟨KeepsFrom.trans (Y := W.drewN q) ⟨Nat.le_refl _, fun _ _ _ h _ => h⟩ ((KeepsOthers.setCell (W.drewN q) _ _).from _), ⟨rfl, pre, x, rfl, hp, hpx, World.cell?_setCell_same' _ _ _ (by rw [hR2]; rfl)⟩, (pw_below_drewN hB q).setCell (p := ⟨w.heap.size + 1, 0, none⟩) (Nat.le_succ _) _⟩
    | false =>
      gi_wp2_with (gi_at_call 68; refine (hP l _ x.2 W hB).mono ?_; rintro e W' ⟨rfl, q, rfl⟩; rw [hpx])
      exact ⟨⟨Nat.le_refl _, fun _ _ _ h _ => h⟩, pw_below_drewN (Below.refl _ _) q, ⟨fun y hy => (List.mem_append.1 hy).elim (hp y) (fun e => by simp at e; subst e; exact hpx), hF, hR, hRf⟩, pw_below_drewN hB q⟩
  case done =>
    rintro D ys W hD rfl ⟨⟨hne, hF, hR, hRf⟩, hB⟩ hK
    gi_wp2
    have hK' := (KeepsOthers.setCell W ⟨w.heap.size + 1, 0, none⟩ (.int .i64 (-1))).same D _ hK rfl
    refine ⟨by simp, .inl ⟨_, _, rfl, run_takeDeferred hK', ?_⟩⟩
    have hc5 := cell_kept (World.cell?_setCell_same' W ⟨w.heap.size + 1, 0, none⟩ (.int .i64 (-1)) (by rw [hR]; rfl)) (grownBy_putObj' _ D (.deferred none)) (fun r e => by cases e; exact ⟨_, hK', rfl⟩)
    refine ⟨.int .i64 (-1), ?_, .inl ⟨rfl, hne⟩, (hB.setCell (p := ⟨w.heap.size + 1, 0, none⟩) (Nat.le_succ _) _).trans (belowK_b (w := w) (Nat.le_refl _) _ D _ _ (by omega) hK' rfl rfl)⟩
    simp [results, Tryd.f80, go_sem, hc5]
  case stop =>
    rintro D c pre W hD ⟨k, hk, rfl⟩ ⟨⟨rfl, ini, last, e1, e2, e3, hR⟩, hB⟩ hK
    gi_wp2
    refine ⟨by simp, .inl ⟨_, _, rfl, run_takeDeferred hK, ?_⟩⟩
    have hc5 := cell_kept hR (grownBy_putObj' _ D (.deferred none)) (fun r e => by cases e; exact ⟨_, hK, rfl⟩)
    obtain ⟨k', rfl⟩ : ∃ k', k = k' + 1 := by
      cases k with
      | zero => simp [bup] at e1
      | succ k' => exact ⟨k', rfl⟩
    rw [bup_succ] at e1
    obtain ⟨rfl, e5⟩ := List.append_inj' e1 rfl
    obtain rfl : bkf zs k' = last := by simpa using e5
    refine ⟨.int .i64 ((zs.length - 1 - k' : Nat) : Int), ?_, .inr ⟨k', by omega, rfl, e3, e2⟩, hB.trans (belowK_b (w := w) (Nat.le_refl _) W D _ _ (by omega) hK rfl rfl)⟩
    have hc6 : (bkf zs k').1 = zs.length - 1 - k' := rfl
    rw [hc6] at hc5
    simp [results, Tryd.f80, go_sem, hc5]
theorem bkf_rev (zs : List SB) (k : Nat) (h : k < zs.length) : (bkf zs k).2.1 = ((zs.map (·.1)).reverse)[k]'(by simpa using h) := by
  rw [List.getElem_reverse, List.getElem_map]
  unfold bkf
  simp only [List.length_map]
  rw [List.getElem?_eq_getElem (by omega)]
  rfl
def lastI (p : ByteArray → Bool) (l : List ByteArray) : Int := match lastOf p l.reverse with | none => -1 | some i => (i : Int)
theorem lastI_none (p : ByteArray → Bool) (zs : List SB) (h : ∀ x ∈ bup zs zs.length, p x.2.1 = false) : lastI p (zs.map (·.1)) = -1 := by
  unfold lastI
  rw [lastOf_none]
  intro x hx
  obtain ⟨k, hk, rfl⟩ := List.getElem_of_mem hx
  have hk2 : k < zs.length := by simpa using hk
  have := h (bkf zs k) (by unfold bup; simp only [List.mem_map, List.mem_range]; exact ⟨k, hk2, rfl⟩)
  rw [bkf_rev zs k hk2] at this
  exact this
theorem lastI_some (p : ByteArray → Bool) (zs : List SB) (k : Nat) (hk : k < zs.length) (h1 : p (bkf zs k).2.1 = true) (h2 : ∀ x ∈ bup zs k, p x.2.1 = false) : lastI p (zs.map (·.1)) = ((zs.length - 1 - k : Nat) : Int) := by
  unfold lastI
  rw [lastOf_first p _ k (by simpa using hk) (by rw [← bkf_rev zs k hk]; exact h1) (fun j hj => by
    rw [← bkf_rev zs j (by omega)]
    exact h2 _ (by unfold bup; simp only [List.mem_map, List.mem_range]; exact ⟨j, hj, rfl⟩))]
  simp
theorem numF_last (h0 : Int) (l : List ByteArray) (p : ByteArray → Bool) : numF h0 l p = if lastI p l < 0 then (0, false) else (wrap64 (h0 + lastI p l), true) := by
  unfold numF lastI
  cases lastOf p l.reverse with
  | none => rfl
  | some i => dsimp only; rw [if_neg (by omega)]
theorem last67_calls (sb : Addr) (p : ByteArray → Bool) (a : Option Addr) (cap : Nat) (zs : List SB) (hreach : zs.length ≤ 1099511627776) (w : World) (hI : Strs w.heap.size w (.slice a zs.length cap) zs)
    (hP : ∀ (x : SB) (W : World), Below w.heap.size w W → Calls Tryd.prog 67 #[.string x.1, .pointer (some sb)] W fun e W' => e = .returned (.bool (p x.1)) ∧ ∃ q, W' = W.drewN q) :
    Calls Tryd.prog 80 #[.slice a zs.length cap, .func (.func 67) #[] #[.pointer (some sb)]] w fun e W' => e = .returned (.int .i64 (lastI p (zs.map (·.1)))) ∧ Below w.heap.size w W' := by
  refine callsIn_wide.1 ((last67_in Fence.wide 4 trivial trivial trivial trivial rfl (Nat.le_refl _) sb p a cap zs hreach w hI (fun l m x W hb => CallsIn.inRound l (callsIn_wide.2 (hP x W hb)))).mono ?_)
  rintro e W' ⟨⟨rfl, h⟩ | ⟨k, hk, rfl, h1, h2⟩, hb⟩
  · exact ⟨by rw [lastI_none p zs h], hb⟩
  · exact ⟨by rw [lastI_some p zs k hk h1 h2], hb⟩
set_option maxHeartbeats 2000000 in
set_option maxRecDepth 100000 in
theorem number67_calls (h0 : Int) (sb : Addr) (p : ByteArray → Bool) (a : Option Addr) (cap : Nat) (zs : List SB) (hreach : zs.length ≤ 1099511627776) (w : World) (hI : Strs w.heap.size w (.slice a zs.length cap) zs)
    (hP : ∀ (x : SB) (W : World), Below w.heap.size w W → Calls Tryd.prog 67 #[.string x.1, .pointer (some sb)] W fun e W' => e = .returned (.bool (p x.1)) ∧ ∃ q, W' = W.drewN q) :
    Calls Tryd.prog 66 #[.agg #[.int .i64 h0, .slice a zs.length cap], .func (.func 67) #[] #[.pointer (some sb)]] w fun e W' => e = .returned (.tuple #[.int .i64 (numF h0 (zs.map (·.1)) p).1, .bool (numF h0 (zs.map (·.1)) p).2]) ∧ Below w.heap.size w W' := by
  have hu24 := Tryd.underlying24
  have HB1 : Below w.heap.size w (w.alloc (.cells #[.int .i64 h0, .slice a zs.length cap] 24)) := below_alloc (Below.refl _ _) _
  have box0 : (w.alloc (.cells #[.int .i64 h0, .slice a zs.length cap] 24)).heap[w.heap.size]? = some (.cells #[.int .i64 h0, .slice a zs.length cap] 24 (0, 0)) := by simpa using heap_alloc_new w _
  have hc0 : (w.alloc (.cells #[.int .i64 h0, .slice a zs.length cap] 24)).cell? ⟨w.heap.size, 0, none⟩ = some (.int .i64 h0) := (blk_cell box0 0).trans rfl
  have hc1 : (w.alloc (.cells #[.int .i64 h0, .slice a zs.length cap] 24)).cell? ⟨w.heap.size, 1, none⟩ = some (.slice a zs.length cap) := (blk_cell box0 1).trans rfl
  have hsz : (w.alloc (.cells #[.int .i64 h0, .slice a zs.length cap] 24)).heap.size = w.heap.size + 1 := by simp
  have HL := last67_calls sb p a cap zs hreach (w.alloc (.cells #[.int .i64 h0, .slice a zs.length cap] 24)) ((hI.below HB1 (Nat.le_refl _)).wide HB1.size) (fun x W hb => hP x W (HB1.trans (hb.mono HB1.size)))
  have HL2 := Aside0.mk HL
  have HBA := Aside0.mk HB1
  have BX := Aside0.mk box0
  clear HL HB1 box0 hP
  rw [numF_last]
  obtain ⟨li, hli⟩ : ∃ li, lastI p (zs.map (·.1)) = li := ⟨_, rfl⟩
  rw [hli] at HL2 ⊢
  clear hli
  by_cases c1 : li < 0
  · rw [if_pos c1]
    have c1b : decide (li < 0) = true := decide_eq_true c1
    clear c1
    go_enter Tryd.func66, Tryd.ntmps66
    go_wp2_with (go_at_call 80; refine HL2.out.mono ?_; rintro e W2 ⟨rfl, hb⟩; have HB2 := Aside0.mk (HBA.out.trans (hb.mono HBA.out.size)); clear hb)
    go_ret2
    exact ⟨rfl, HB2.out⟩
  · rw [if_neg c1]
    have c1b : decide (li < 0) = false := decide_eq_false c1
    clear c1
    go_enter Tryd.func66, Tryd.ntmps66
    go_wp2_with (go_at_call 80; refine HL2.out.mono ?_; rintro e W2 ⟨rfl, hb⟩; have HB2 := Aside0.mk (HBA.out.trans (hb.mono HBA.out.size)); have hd0 : W2.cell? ⟨w.heap.size, 0, none⟩ = some (.int .i64 h0) := (blk_cell ((hb.block _ (by rw [hsz]; exact Nat.lt_succ_self _)).trans BX.out) 0).trans rfl; clear hb)
    go_ret2
    exact ⟨rfl, HB2.out⟩
theorem last68_calls (sb : Addr) (p : ByteArray → Bool) (a : Option Addr) (cap : Nat) (zs : List SB) (hreach : zs.length ≤ 1099511627776) (w : World) (hI : Strs w.heap.size w (.slice a zs.length cap) zs)
    (hP : ∀ (x : SB) (W : World), Below w.heap.size w W → Calls Tryd.prog 68 #[.string x.1, .pointer (some sb)] W fun e W' => e = .returned (.bool (p x.1)) ∧ ∃ q, W' = W.drewN q) :
    Calls Tryd.prog 80 #[.slice a zs.length cap, .func (.func 68) #[] #[.pointer (some sb)]] w fun e W' => e = .returned (.int .i64 (lastI p (zs.map (·.1)))) ∧ Below w.heap.size w W' := by
  refine callsIn_wide.1 ((last68_in Fence.wide 4 trivial trivial trivial trivial rfl (Nat.le_refl _) sb p a cap zs hreach w hI (fun l m x W hb => CallsIn.inRound l (callsIn_wide.2 (hP x W hb)))).mono ?_)
  rintro e W' ⟨⟨rfl, h⟩ | ⟨k, hk, rfl, h1, h2⟩, hb⟩
  · exact ⟨by rw [lastI_none p zs h], hb⟩
  · exact ⟨by rw [lastI_some p zs k hk h1 h2], hb⟩
set_option maxHeartbeats 2000000 in
set_option maxRecDepth 100000 in
theorem number68_calls (h0 : Int) (sb : Addr) (p : ByteArray → Bool) (a : Option Addr) (cap : Nat) (zs : List SB) (hreach : zs.length ≤ 1099511627776) (w : World) (hI : Strs w.heap.size w (.slice a zs.length cap) zs)
    (hP : ∀ (x : SB) (W : World), Below w.heap.size w W → Calls Tryd.prog 68 #[.string x.1, .pointer (some sb)] W fun e W' => e = .returned (.bool (p x.1)) ∧ ∃ q, W' = W.drewN q) :
    Calls Tryd.prog 66 #[.agg #[.int .i64 h0, .slice a zs.length cap], .func (.func 68) #[] #[.pointer (some sb)]] w fun e W' => e = .returned (.tuple #[.int .i64 (numF h0 (zs.map (·.1)) p).1, .bool (numF h0 (zs.map (·.1)) p).2]) ∧ Below w.heap.size w W' := by
  have hu24 := Tryd.underlying24
  have HB1 : Below w.heap.size w (w.alloc (.cells #[.int .i64 h0, .slice a zs.length cap] 24)) := below_alloc (Below.refl _ _) _
  have box0 : (w.alloc (.cells #[.int .i64 h0, .slice a zs.length cap] 24)).heap[w.heap.size]? = some (.cells #[.int .i64 h0, .slice a zs.length cap] 24 (0, 0)) := by simpa using heap_alloc_new w _
  have hc0 : (w.alloc (.cells #[.int .i64 h0, .slice a zs.length cap] 24)).cell? ⟨w.heap.size, 0, none⟩ = some (.int .i64 h0) := (blk_cell box0 0).trans rfl
  have hc1 : (w.alloc (.cells #[.int .i64 h0, .slice a zs.length cap] 24)).cell? ⟨w.heap.size, 1, none⟩ = some (.slice a zs.length cap) := (blk_cell box0 1).trans rfl
  have hsz : (w.alloc (.cells #[.int .i64 h0, .slice a zs.length cap] 24)).heap.size = w.heap.size + 1 := by simp
  have HL := last68_calls sb p a cap zs hreach (w.alloc (.cells #[.int .i64 h0, .slice a zs.length cap] 24)) ((hI.below HB1 (Nat.le_refl _)).wide HB1.size) (fun x W hb => hP x W (HB1.trans (hb.mono HB1.size)))
  have HL2 := Aside0.mk HL
  have HBA := Aside0.mk HB1
  have BX := Aside0.mk box0
  clear HL HB1 box0 hP
  rw [numF_last]
  obtain ⟨li, hli⟩ : ∃ li, lastI p (zs.map (·.1)) = li := ⟨_, rfl⟩
  rw [hli] at HL2 ⊢
  clear hli
  by_cases c1 : li < 0
  · rw [if_pos c1]
    have c1b : decide (li < 0) = true := decide_eq_true c1
    clear c1
    go_enter Tryd.func66, Tryd.ntmps66
    go_wp2_with (go_at_call 80; refine HL2.out.mono ?_; rintro e W2 ⟨rfl, hb⟩; have HB2 := Aside0.mk (HBA.out.trans (hb.mono HBA.out.size)); clear hb)
    go_ret2
    exact ⟨rfl, HB2.out⟩
  · rw [if_neg c1]
    have c1b : decide (li < 0) = false := decide_eq_false c1
    clear c1
    go_enter Tryd.func66, Tryd.ntmps66
    go_wp2_with (go_at_call 80; refine HL2.out.mono ?_; rintro e W2 ⟨rfl, hb⟩; have HB2 := Aside0.mk (HBA.out.trans (hb.mono HBA.out.size)); have hd0 : W2.cell? ⟨w.heap.size, 0, none⟩ = some (.int .i64 h0) := (blk_cell ((hb.block _ (by rw [hsz]; exact Nat.lt_succ_self _)).trans BX.out) 0).trans rfl; clear hb)
    go_ret2
    exact ⟨rfl, HB2.out⟩
theorem sb_list (l : List ByteArray) (h : (l.all fun x => decide (x.size < 4294967281)) = true) : ∃ zs : List SB, zs.map (·.1) = l := by
  induction l with
  | nil => exact ⟨[], rfl⟩
  | cons x t ih =>
    rw [List.all_cons, Bool.and_eq_true] at h
    obtain ⟨zs, hz⟩ := ih h.2
    exact ⟨⟨x, of_decide_eq_true h.1⟩ :: zs, by rw [List.map_cons, hz]⟩
theorem strs_of (A : Option Addr) (c : Nat) (zs : List SB) (w : World) (hr : Kd.C Kd.string w A (zs.map (·.1)).length (zs.map (·.1))) : Strs w.heap.size w (.slice A zs.length c) zs := by
  rcases Nat.eq_zero_or_pos zs.length with h0 | h0
  · exact Or.inl ⟨A, c, by rw [h0], List.eq_nil_of_length_eq_zero h0⟩
  · have h0' : 0 < (zs.map (·.1)).length := by simpa using h0
    obtain ⟨ad, rfl, hc⟩ := hr.2.2 h0'
    have cells : ∀ (j : Nat) x, (zs.map (·.1))[j]? = some x → w.cell? (ad.add j) = some (.string x) := by
      intro j x hj
      obtain ⟨cs, h1, h2, h3⟩ := hc j x hj
      have h2 : cs = [Value.string x] := h2
      subst h2
      have := h3 0 (.string x) rfl
      have e : (Kd.string).sz = 1 := rfl
      rw [e] at this
      simpa using this
    obtain ⟨b, o, sp⟩ := ad
    have first := cells 0 _ (List.getElem?_eq_getElem h0')
    have hsp : sp = none := by
      cases sp with
      | none => rfl
      | some z =>
        exfalso
        have : (Addr.add ⟨b, o, some z⟩ 0) = ⟨b, o, some z⟩ := by simp [Addr.add]
        rw [this] at first
        unfold World.cell? at first
        split at first <;> simp at first
    subst hsp
    have add : ∀ j : Nat, Addr.add ⟨b, o, none⟩ j = ⟨b, o + j, none⟩ := by
      intro j
      unfold Addr.add
      by_cases hj : j = 0 <;> simp [hj]
    have hb : b < w.heap.size := by
      rw [add] at first
      exact World.block_lt_of_cell? w _ first
    refine Or.inr ⟨b, o, c, rfl, hb, fun j hj => ?_⟩
    rw [← add]
    refine cells j _ ?_
    rw [List.getElem?_map, List.getElem?_eq_getElem hj]
    rfl
set_option maxHeartbeats 1000000 in
set_option maxRecDepth 100000 in
theorem clo67 (x s : ByteArray) (sb : Addr) (W : World) (hs : W.cell? sb = some (.string s)) (hM : MaxOk W) (hx : x.size < 4294967281) :
    Calls Tryd.prog 67 #[.string x, .pointer (some sb)] W fun e W' => e = .returned (.bool (Lib.contains x.data.toList s.data.toList)) ∧ ∃ q, W' = W.drewN q := by
  obtain ⟨m, hm⟩ := hM
  have HM := Aside0.mk hm
  clear hm
  go_enter Tryd.func67, Tryd.ntmps67
  go_wp2_with (go_at_call 31; refine (Tryd.strings_Contains x s m _ hx HM.out).mono ?_; rintro e w' ⟨rfl, rfl⟩)
  go_ret
  exact ⟨rfl, 0, rfl⟩
set_option maxHeartbeats 1000000 in
set_option maxRecDepth 100000 in
theorem clo68 (x s : ByteArray) (sb : Addr) (W : World) (hs : W.cell? sb = some (.string s)) (r : Bool) (hr : strings_HasPrefix.f x s = some r) :
    Calls Tryd.prog 68 #[.string x, .pointer (some sb)] W fun e W' => e = .returned (.bool r) ∧ ∃ q, W' = W.drewN q := by
  have HR := Aside0.mk hr
  clear hr
  go_enter Tryd.func68, Tryd.ntmps68
  go_wp2_with (go_at_call 16; refine (strings_HasPrefix.calls x s r _ HR.out).mono ?_; rintro e w' ⟨rfl, ⟨nd, rfl⟩⟩)
  go_ret
  exact ⟨rfl, nd, rfl⟩
theorem pre_total (x s : ByteArray) : ∃ r, strings_HasPrefix.f x s = some r := by
  unfold strings_HasPrefix.f stringslite_HasPrefix.f
  repeat' first
    | exact ⟨_, rfl⟩
    | split
    | omega
set_option maxHeartbeats 2000000 in
set_option maxRecDepth 100000 in
theorem history_Contains.calls (a0_0 : Int) (A0_1 : Option Addr) (c0_1 : Nat) (l0_1 : List ByteArray) (a1 : ByteArray) (r1 : Int) (r2 : Bool) (w : World) (hr0_1 : Kd.C Kd.string w A0_1 l0_1.length l0_1) (hc0_1 : l0_1.length ≤ c0_1) (hM : MaxOk w) (h : history_Contains.f a0_0 l0_1 a1 = some (r1, r2)) :
    Calls Tryd.prog 49 #[.agg #[.int .i64 a0_0, .slice A0_1 l0_1.length c0_1], .string a1] w fun e w' => e = .returned (.tuple #[.int .i64 r1, .bool r2]) ∧ Below w.heap.size w w' := by
  unfold history_Contains.f at h
  split at h
  case isFalse => cases h
  rename_i hall
  split at h
  case isFalse => cases h
  rename_i hlen
  have h := Option.some.inj h
  obtain ⟨zs, rfl⟩ := sb_list l0_1 hall
  have hS := strs_of A0_1 c0_1 zs w hr0_1
  have hlz : zs.length ≤ 1099511627776 := by simpa using hlen
  rw [show (zs.map (·.1)).length = zs.length from by simp]
  have hu24 := Tryd.underlying24
  have HB1 : Below w.heap.size w ((w.alloc (.cells #[.int .i64 a0_0, .slice A0_1 zs.length c0_1] 24)).alloc (.cells #[.string a1] 9)) := below_alloc (below_alloc (Below.refl _ _) _) _
  have box0 : (w.alloc (.cells #[.int .i64 a0_0, .slice A0_1 zs.length c0_1] 24)).heap[w.heap.size]? = some (.cells #[.int .i64 a0_0, .slice A0_1 zs.length c0_1] 24 (0, 0)) := by simpa using heap_alloc_new w _
  have box1 : ((w.alloc (.cells #[.int .i64 a0_0, .slice A0_1 zs.length c0_1] 24)).alloc (.cells #[.string a1] 9)).heap[w.heap.size]? = some (.cells #[.int .i64 a0_0, .slice A0_1 zs.length c0_1] 24 (0, 0)) := (Below.heap_alloc _ _ _ (by simp)).trans box0
  have hc0 : ((w.alloc (.cells #[.int .i64 a0_0, .slice A0_1 zs.length c0_1] 24)).alloc (.cells #[.string a1] 9)).cell? ⟨w.heap.size, 0, none⟩ = some (.int .i64 a0_0) := (blk_cell box1 0).trans rfl
  have hc1 : ((w.alloc (.cells #[.int .i64 a0_0, .slice A0_1 zs.length c0_1] 24)).alloc (.cells #[.string a1] 9)).cell? ⟨w.heap.size, 1, none⟩ = some (.slice A0_1 zs.length c0_1) := (blk_cell box1 1).trans rfl
  have bS := Boxed.new (w.alloc (.cells #[.int .i64 a0_0, .slice A0_1 zs.length c0_1] 24)) 9 (.string a1)
  have hcs := bS.cell
  rw [World.size_alloc] at hcs
  have hlt : w.heap.size + 1 < ((w.alloc (.cells #[.int .i64 a0_0, .slice A0_1 zs.length c0_1] 24)).alloc (.cells #[.string a1] 9)).heap.size := by simp
  have HN := number67_calls a0_0 ⟨w.heap.size + 1, 0, none⟩ (fun x => Lib.contains x.data.toList a1.data.toList) A0_1 c0_1 zs hlz ((w.alloc (.cells #[.int .i64 a0_0, .slice A0_1 zs.length c0_1] 24)).alloc (.cells #[.string a1] 9)) ((hS.below HB1 (Nat.le_refl _)).wide HB1.size) (fun x W hb => clo67 x.1 a1 _ W ((hb.cell (p := ⟨w.heap.size + 1, 0, none⟩) hlt).trans hcs) ((hM.le HB1).le hb) x.2)
  rw [h] at HN
  have HN2 := Aside0.mk HN
  have HBA := Aside0.mk HB1
  clear HN HB1 box0 box1 bS hcs hlt hS h hall hlen hr0_1
  go_enter Tryd.func49, Tryd.ntmps49
  go_wp2_with (go_at_call 66; refine HN2.out.mono ?_; rintro e W2 ⟨rfl, hb⟩; have HB2 := Aside0.mk (HBA.out.trans (hb.mono HBA.out.size)); clear hb)
  go_ret2
  exact ⟨rfl, HB2.out⟩
set_option maxHeartbeats 2000000 in
set_option maxRecDepth 100000 in
theorem history_Begins.calls (a0_0 : Int) (A0_1 : Option Addr) (c0_1 : Nat) (l0_1 : List ByteArray) (a1 : ByteArray) (r1 : Int) (r2 : Bool) (w : World) (hr0_1 : Kd.C Kd.string w A0_1 l0_1.length l0_1) (hc0_1 : l0_1.length ≤ c0_1) (h : history_Begins.f a0_0 l0_1 a1 = some (r1, r2)) :
    Calls Tryd.prog 51 #[.agg #[.int .i64 a0_0, .slice A0_1 l0_1.length c0_1], .string a1] w fun e w' => e = .returned (.tuple #[.int .i64 r1, .bool r2]) ∧ Below w.heap.size w w' := by
  unfold history_Begins.f at h
  split at h
  case isFalse => cases h
  rename_i hall
  split at h
  case isFalse => cases h
  rename_i hlen
  have h := Option.some.inj h
  obtain ⟨zs, rfl⟩ := sb_list l0_1 hall
  have hS := strs_of A0_1 c0_1 zs w hr0_1
  have hlz : zs.length ≤ 1099511627776 := by simpa using hlen
  rw [show (zs.map (·.1)).length = zs.length from by simp]
  have hu24 := Tryd.underlying24
  have HB1 : Below w.heap.size w ((w.alloc (.cells #[.int .i64 a0_0, .slice A0_1 zs.length c0_1] 24)).alloc (.cells #[.string a1] 9)) := below_alloc (below_alloc (Below.refl _ _) _) _
  have box0 : (w.alloc (.cells #[.int .i64 a0_0, .slice A0_1 zs.length c0_1] 24)).heap[w.heap.size]? = some (.cells #[.int .i64 a0_0, .slice A0_1 zs.length c0_1] 24 (0, 0)) := by simpa using heap_alloc_new w _
  have box1 : ((w.alloc (.cells #[.int .i64 a0_0, .slice A0_1 zs.length c0_1] 24)).alloc (.cells #[.string a1] 9)).heap[w.heap.size]? = some (.cells #[.int .i64 a0_0, .slice A0_1 zs.length c0_1] 24 (0, 0)) := (Below.heap_alloc _ _ _ (by simp)).trans box0
  have hc0 : ((w.alloc (.cells #[.int .i64 a0_0, .slice A0_1 zs.length c0_1] 24)).alloc (.cells #[.string a1] 9)).cell? ⟨w.heap.size, 0, none⟩ = some (.int .i64 a0_0) := (blk_cell box1 0).trans rfl
  have hc1 : ((w.alloc (.cells #[.int .i64 a0_0, .slice A0_1 zs.length c0_1] 24)).alloc (.cells #[.string a1] 9)).cell? ⟨w.heap.size, 1, none⟩ = some (.slice A0_1 zs.length c0_1) := (blk_cell box1 1).trans rfl
  have bS := Boxed.new (w.alloc (.cells #[.int .i64 a0_0, .slice A0_1 zs.length c0_1] 24)) 9 (.string a1)
  have hcs := bS.cell
  rw [World.size_alloc] at hcs
  have hlt : w.heap.size + 1 < ((w.alloc (.cells #[.int .i64 a0_0, .slice A0_1 zs.length c0_1] 24)).alloc (.cells #[.string a1] 9)).heap.size := by simp
  have HN := number68_calls a0_0 ⟨w.heap.size + 1, 0, none⟩ (fun x => (strings_HasPrefix.f x a1).getD false) A0_1 c0_1 zs hlz ((w.alloc (.cells #[.int .i64 a0_0, .slice A0_1 zs.length c0_1] 24)).alloc (.cells #[.string a1] 9)) ((hS.below HB1 (Nat.le_refl _)).wide HB1.size) (fun x W hb => clo68 x.1 a1 _ W ((hb.cell (p := ⟨w.heap.size + 1, 0, none⟩) hlt).trans hcs) _ (by obtain ⟨r, hr⟩ := pre_total x.1 a1; rw [hr]; rfl))
  rw [h] at HN
  have HN2 := Aside0.mk HN
  have HBA := Aside0.mk HB1
  clear HN HB1 box0 box1 bS hcs hlt hS h hall hlen hr0_1
  go_enter Tryd.func51, Tryd.ntmps51
  go_wp2_with (go_at_call 66; refine HN2.out.mono ?_; rintro e W2 ⟨rfl, hb⟩; have HB2 := Aside0.mk (HBA.out.trans (hb.mono HBA.out.size)); clear hb)
  go_ret2
  exact ⟨rfl, HB2.out⟩
end Go.Proofs.YthoanbjklgoggaaDoor.PAll
