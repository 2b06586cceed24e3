/-
slices.Backward of bytes as a loop over a function, and word.Get, walked where it does not fail.
No condition.
-/
import Derived.Test.YtcakcfeipfjmpaaDoorGp
import Derived.Test.YtcakcfeipfjmpaaDoorMemNew
import Derived.RangeFuncBox
import Derived.RangeFuncWrites
import Derived.RangeFuncLeaves
import Derived.Shelf.Abstract
import Derived.OwnWalkIn
import Derived.TacticsInMore
import Derived.LoopNIn
import Derived.LoopIn
import Derived.Laws.BitsLemmas
import Derived.Laws.Bits64
namespace Go.Proofs.YtcakcfeipfjmpaaDoor
open Go.RowKit Go.Shelf

attribute [local go_sem] Oper.semAt_some

/-- What has come when k rounds are over. -/
def upto {α : Type} (f : Nat → α) (k : Nat) : List α := (List.range k).map f
theorem upto_succ {α : Type} (f : Nat → α) (k : Nat) : upto f (k + 1) = upto f k ++ [f k] := by simp [upto, List.range_succ]
theorem upto_length {α : Type} (f : Nat → α) (k : Nat) : (upto f k).length = k := by simp [upto]
/-- The pairs that come: from the end on. -/
def bkw (z : Nat → UInt8) (len k : Nat) : Nat × UInt8 := (len - 1 - k, z (len - 1 - k))

/-- What a round keeps: what lay below n₀, and the box of the slice. -/
def KpB (Bs n₀ : Nat) (W W' : World) : Prop := Below n₀ W W' ∧ ∀ c t fr, W.heap[Bs]? = some (.cells c t fr) → W'.heap[Bs]? = some (.cells c t fr)
theorem KpB.refl (Bs n₀ : Nat) (W : World) : KpB Bs n₀ W W := ⟨Below.refl _ _, fun _ _ _ h => h⟩
theorem KpB.trans {Bs n₀ : Nat} {A B C : World} (h : KpB Bs n₀ A B) (k : KpB Bs n₀ B C) : KpB Bs n₀ A C := ⟨h.1.trans k.1, fun c t fr hc => k.2 c t fr (h.2 c t fr hc)⟩
set_option maxRecDepth 100000 in
set_option maxHeartbeats 2000000 in
theorem back1_in (F : Fence) (n : Nat) (hf : F.fn 106) (hro : F.round = none) (hn : 1 ≤ n) (l Bs n₀ b off len cap : Nat) (z : Nat → UInt8) (hreach : len ≤ 67108864) (hb : b < n₀) (J Jx : List (Nat × UInt8) → World → Prop)
    (hY : ∀ pre x W, J pre W → pre.length < len → YieldAt F (n - 1) Tryd.prog l #[.int .i64 (x.1 : Int), .int .u8 (x.2.toNat : Int)] W fun e W' =>
      (e = .returned (.bool true) ∧ J (pre ++ [x]) W' ∧ KpB Bs n₀ W W') ∨ (e = .returned (.bool false) ∧ Jx (pre ++ [x]) W'))
    (W : World) (hBs : W.heap[Bs]? = some (.cells #[.slice (some ⟨b, off, none⟩) len cap] 27 (0, 0))) (hc : ∀ j, j < len → W.cell? ⟨b, off + j, none⟩ = some (.int .u8 ((z j).toNat : Int))) (h0 : J [] W) :
    CallsIn F n Tryd.prog 106 #[.func (.yield l) #[] #[], .pointer (some ⟨Bs, 0, none⟩)] W fun e W' => (∃ v, e = .returned v) ∧
      ((∃ ys, ys = upto (bkw z len) len ∧ J ys W') ∨ (∃ pre, (∃ k, k ≤ len ∧ pre = upto (bkw z len) k) ∧ Jx pre W')) := by
  refine callsIn_of_wp Tryd.func106 rfl hf ?_ hro
  simp only [Tryd.ntmps106, List.size_toArray, List.length_cons, List.length_nil, Nat.reduceAdd, Nat.reduceSub, Array.replicate_succ, Array.replicate_zero, List.push_toArray, List.append_toArray, List.nil_append, List.cons_append]
  have hl0 : (0 : Int) ≤ (len : Int) := by omega
  have hl1 : (len : Int) ≤ 67108864 := by omega
  have hBc := cell_of_row _ _ 0 _ _ _ hBs
  gi_wp2
  gi_loopw [3] (fun i wr => ∃ j : Nat, j ≤ len ∧ i = .int .i64 ((j : Int) - 1) ∧ J (upto (bkw z len) (len - j)) wr ∧ KpB Bs n₀ W wr)
    (fun i _ => (intOf i + 1).toNat)
  case atStart => exact ⟨len, Nat.le_refl _, rfl, by rw [Nat.sub_self]; exact h0, KpB.refl _ _ _⟩
  case round =>
    obtain ⟨j, hj, rfl, hJs, hnx⟩ := hrel
    have hBr := cell_of_row _ _ 0 _ _ _ (hnx.2 _ _ _ hBs)
    rcases j with _ | j
    · gi_wp2
      go_end0
      exact ⟨⟨_, rfl⟩, .inl ⟨_, rfl, hJs⟩⟩
    · have e1 : (((j + 1 : Nat) : Int) - 1) = (j : Int) := by omega
      rw [e1]
      have hjz : (0 : Int) ≤ (j : Int) := by omega
      have hjl : (j : Int) < (len : Int) := by omega
      have hcx := (hnx.1.cell (p := ⟨b, off + j, none⟩) hb).trans (hc j (by omega))
      have ek : bkw z len (len - (j + 1)) = (j, z j) := by unfold bkw; rw [show len - 1 - (len - (j + 1)) = j by omega]
      have es : upto (bkw z len) (len - j) = upto (bkw z len) (len - (j + 1)) ++ [(j, z j)] := by rw [show len - j = len - (j + 1) + 1 by omega, upto_succ, ek]
      obtain ⟨fn, tmps, assign, body, hy, hR⟩ := hY _ (j, z j) wr hJs (by rw [upto_length]; omega)
      dsimp only at hy
      gi_wp2
      refine hR.mono ?_
      rintro e W3 (⟨rfl, hJ3, hk3⟩ | ⟨rfl, hJx3⟩)
      · gi_wp2
        go_roundw
        case rel => exact ⟨j, by omega, by go_num, by rw [es]; exact hJ3, hnx.trans hk3⟩
        case measure => simp [intOf]
      · gi_wp2
        refine bodyPost_ret (results_none rfl _ _ _) rfl ?_
        exact ⟨⟨_, rfl⟩, .inr ⟨_, ⟨len - j, by omega, es.symm⟩, hJx3⟩⟩
theorem kpB_b {Bs n₀ : Nat} {w : World} (hn : n₀ ≤ w.heap.size) (W : World) (l : Nat) (o o' : Obj) (hl : w.heap.size ≤ l) (h : W.heap[l]? = some o) (h1 : o.isCells = false) (h2 : o.isWalk = false) : KpB Bs n₀ W (W.putObj l o') :=
  ⟨belowK_b hn W l o o' hl h h1 h2, fun c t fr hc => by
    have hne : Bs ≠ l := fun e => by
      subst e
      rw [hc] at h
      obtain rfl := Option.some.inj h
      cases h1
    have hlt := (Array.getElem?_eq_some_iff.1 hc).1
    rw [(grownBy_putObj' W l o').block Bs hlt (fun e => hne (Option.some.inj e))]
    exact hc⟩
set_option maxHeartbeats 1000000 in
theorem back_in (F : Fence) (n : Nat) (hf : F.fn 97) (hro : F.round = none) (a : Option Addr) (len cap : Nat) (w : World) :
    CallsIn F n Tryd.prog 97 #[.slice a len cap] w fun e w' => e = .returned (.func (.func 106) #[] #[.pointer (some ⟨w.heap.size, 0, none⟩)]) ∧ w' = w.alloc (.cells #[.slice a len cap] 27) := by
  refine callsIn_of_wp Tryd.func97 rfl hf ?_ hro
  simp only [Tryd.ntmps97, List.size_toArray, List.length_cons, List.length_nil, Nat.reduceAdd, Nat.reduceSub, Array.replicate_succ, Array.replicate_zero, List.push_toArray, List.append_toArray, List.nil_append, List.cons_append]
  gi_wp2
  go_ret
  exact ⟨rfl, rfl⟩
theorem back_stops (F : Fence) (n : Nat) (hf : F.fn 106) (hro : F.round = none) (hn : 1 ≤ n) (Bs n₀ b off len cap : Nat) (z : Nat → UInt8) (hreach : len ≤ 67108864) (w : World) (hb : b < n₀) (hn₀ : n₀ ≤ w.heap.size)
    (hBs : w.heap[Bs]? = some (.cells #[.slice (some ⟨b, off, none⟩) len cap] 27 (0, 0))) (hc : ∀ j, j < len → w.cell? ⟨b, off + j, none⟩ = some (.int .u8 ((z j).toNat : Int))) :
    SeqStopsK F n Tryd.prog 106 #[.pointer (some ⟨Bs, 0, none⟩)] (fun x : Nat × UInt8 => #[Value.int .i64 (x.1 : Int), Value.int .u8 (x.2.toNat : Int)]) (KpB Bs n₀) (fun ys => ys = upto (bkw z len) len)
      (fun pre => ∃ k, k ≤ len ∧ pre = upto (bkw z len) k) len w := fun l J Jx W hW _ _ hY h0 =>
  back1_in F n hf hro hn l Bs n₀ b off len cap z hreach hb J Jx hY W ((hW.block Bs (Array.getElem?_eq_some_iff.1 hBs).1).trans hBs) (fun j hj => (hW.cell (p := ⟨b, off + j, none⟩) (by show b < _; omega)).trans (hc j hj)) h0
theorem wraps_i64_63 (n : Int) (h₀ : 0 ≤ n) (h₁ : n < 2 ^ 63) : IntKind.i64.wrap n = n := by rw [IntKind.wrap_i64]; omega
theorem and_mask (a k : Nat) (hk : okN k) (ha : a ≤ 67108864) (hr : a % k = 0) : bits BinOp.and .i64 (a : Int) ((k : Int) - 1) = 0 := by
  rcases hk with rfl | rfl | rfl
  · have h := bits_mask .i64 63 (by decide) wraps_i64_63 0 (by decide) (a : Int) (by omega) (by omega)
    exact h.trans (by omega)
  · have h := bits_mask .i64 63 (by decide) wraps_i64_63 1 (by decide) (a : Int) (by omega) (by omega)
    exact h.trans (by omega)
  · have h := bits_mask .i64 63 (by decide) wraps_i64_63 2 (by decide) (a : Int) (by omega) (by omega)
    exact h.trans (by omega)
set_option maxRecDepth 100000 in
set_option maxHeartbeats 1000000 in
theorem word_check_ok (p : Option Addr) (N cap a k : Nat) (w : World) (hk : okN k) (hs : a + k ≤ N) (hr : a % k = 0) (hN : N ≤ 67108864) :
    Calls Tryd.prog 96 #[.slice p N cap, .int .i64 a, .int .i64 k] w fun e w' => e = .returned .nilIface ∧ w = w' := by
  have hm := and_mask a k hk (by omega) hr
  have h0 : ¬ (a : Int) < 0 := by omega
  have h1 : ¬ (N : Int) - (k : Int) < (a : Int) := by omega
  have ha1 : (a : Int) ≤ 67108864 := by omega
  have hN1 : (N : Int) ≤ 67108864 := by omega
  rcases hk with rfl | rfl | rfl
  all_goals
    try rw [show ((1 : Nat) : Int) - 1 = 0 from rfl] at hm
    try rw [show ((2 : Nat) : Int) - 1 = 1 from rfl] at hm
    try rw [show ((4 : Nat) : Int) - 1 = 3 from rfl] at hm
    go_enter Tryd.func96, Tryd.ntmps96
    go_wp2_with fail
    go_ret
    exact ⟨rfl, rfl⟩
end Go.Proofs.YtcakcfeipfjmpaaDoor
