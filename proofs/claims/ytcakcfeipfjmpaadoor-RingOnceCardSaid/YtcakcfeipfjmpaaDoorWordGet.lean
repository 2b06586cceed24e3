/-
word.Get, walked where it does not fail.
No condition.
-/
import Derived.Test.YtcakcfeipfjmpaaDoorBackward
import Derived.Lib.EndianBits
namespace Go.Proofs.YtcakcfeipfjmpaaDoor
open Go.RowKit Go.Shelf

attribute [local go_sem] Oper.semAt_some

def accI (l : List (Nat × UInt8)) : Int := l.foldl (fun v p => bits BinOp.or .u32 (v * 256 % 4294967296) (p.2.toNat : Int)) 0
theorem accI_snoc (l : List (Nat × UInt8)) (x : Nat × UInt8) : accI (l ++ [x]) = bits BinOp.or .u32 (accI l * 256 % 4294967296) (x.2.toNat : Int) := by simp [accI]
theorem or_step (v x : Int) (h0 : 0 ≤ v) (h1 : v < 16777216) (h2 : 0 ≤ x) (h3 : x < 256) : bits BinOp.or .u32 (v * 256 % 4294967296) x = v * 256 + x := by
  have e : v * 256 % 4294967296 = v * 256 := by omega
  rw [e]
  exact bits_join .u32 32 (by decide) wraps_u32 8 _ _ (by omega) (by omega) (by omega) (by omega) (by omega) (by omega)
theorem acc_gp (f : Nat → UInt8) (a k : Nat) (hk : okN k) : accI (upto (bkw (fun j => f (a + j)) k) k) = ((gp f a k : Nat) : Int) := by
  have h0 := (f a).toNat_lt
  have h1 := (f (a + 1)).toNat_lt
  have h2 := (f (a + 2)).toNat_lt
  have h3 := (f (a + 3)).toNat_lt
  rcases hk with rfl | rfl | rfl
  · show bits BinOp.or .u32 (0 * 256 % 4294967296) ((f (a + 0)).toNat : Int) = _
    simp only [Nat.add_zero]
    rw [or_step _ _ (by omega) (by omega) (by omega) (by omega)]
    simp only [gp, Nat.add_zero]
    omega
  · show bits BinOp.or .u32 (bits BinOp.or .u32 (0 * 256 % 4294967296) ((f (a + 1)).toNat : Int) * 256 % 4294967296) ((f (a + 0)).toNat : Int) = _
    simp only [Nat.add_zero]
    rw [or_step 0 _ (by omega) (by omega) (by omega) (by omega), or_step (0 * 256 + _) _ (by omega) (by omega) (by omega) (by omega)]
    simp only [gp, Nat.add_zero]
    omega
  · show bits BinOp.or .u32 (bits BinOp.or .u32 (bits BinOp.or .u32 (bits BinOp.or .u32 (0 * 256 % 4294967296) ((f (a + 3)).toNat : Int) * 256 % 4294967296) ((f (a + 2)).toNat : Int) * 256 % 4294967296) ((f (a + 1)).toNat : Int) * 256 % 4294967296) ((f (a + 0)).toNat : Int) = _
    simp only [Nat.add_zero]
    rw [or_step 0 _ (by omega) (by omega) (by omega) (by omega), or_step (0 * 256 + _) _ (by omega) (by omega) (by omega) (by omega), or_step ((0 * 256 + _) * 256 + _) _ (by omega) (by omega) (by omega) (by omega), or_step _ _ (by omega) (by omega) (by omega) (by omega)]
    simp only [gp, Nat.add_zero]
    omega
set_option maxRecDepth 100000 in
set_option maxHeartbeats 4000000 in
theorem word_Get_ok {w : World} {b N cap : Nat} {f : Nat → UInt8} (r : Row w b 5 N (cellU f)) (hcap : N ≤ cap) (a k : Nat) (hk : okN k) (hs : a + k ≤ N) (hr : a % k = 0) (hN : N ≤ 67108864) :
    Calls Tryd.prog 74 #[.slice (some ⟨b, 0, none⟩) N cap, .int .i64 a, .int .i64 k] w fun e w' => e = .returned (.tuple #[.int .u32 (gp f a k : Nat), .nilIface]) ∧ Below w.heap.size w w' := by
  have HC := fun W => word_check_ok (some ⟨b, 0, none⟩) N cap a k W hk hs hr hN
  have hk1 : 1 ≤ k ∧ k ≤ 4 := by rcases hk with rfl | rfl | rfl <;> omega
  have ha0 : (0 : Int) ≤ a := by omega
  have ha1 : (a : Int) ≤ 67108864 := by omega
  have hk0 : (0 : Int) ≤ k := by omega
  have hk4 : (k : Int) ≤ 4 := by omega
  have hac : (a : Int) ≤ (a : Int) + (k : Int) := by omega
  have hakc : (a : Int) + (k : Int) ≤ (cap : Int) := by omega
  have hca : ¬ cap = a := by omega
  refine (callsIn_wide (n := 5)).1 ?_
  refine callsIn_of_wp_marks Tryd.func74 rfl trivial ?_ rfl
  simp only [Tryd.ntmps74, List.size_toArray, List.length_cons, List.length_nil, Nat.reduceAdd, Nat.reduceSub, Array.replicate_succ, Array.replicate_zero, List.push_toArray, List.append_toArray, List.nil_append, List.cons_append]
  gi_wp2
  refine ⟨trivial, (callsIn_wide.2 (HC _)).mono ?_⟩
  rintro e w' ⟨rfl, rfl⟩
  gi_wp2
  refine ⟨trivial, (back_in Fence.wide _ trivial rfl _ _ _ _).mono ?_⟩
  rintro e w' ⟨rfl, rfl⟩
  gi_wp2
  have bV := Boxed.new w 22 (.int .u32 0)
  have bN := heap_alloc_new (w.alloc (.cells #[.int .u32 0] 22)) (.cells #[.slice (some ⟨b, a, none⟩) k (cap - a)] 27)
  rw [World.size_alloc] at bN
  have hB0 : Below w.heap.size w ((w.alloc (.cells #[.int .u32 0] 22)).alloc (.cells #[.slice (some ⟨b, a, none⟩) k (cap - a)] 27)) := ((Below.refl _ w).alloc (Nat.le_refl _) _).alloc (by simp) _
  have hrow := r.below hB0
  refine wpIn_rangeFunc_ownG (F := Fence.wide) rfl (by omega) (gf := 106) (lb := #[.pointer (some ⟨w.heap.size + 1, 0, none⟩)]) rfl trivial (enters_of Tryd.func106 (by kernel_rfl) rfl)
    (back_stops Fence.wide 4 trivial rfl (by omega) (w.heap.size + 1) w.heap.size b a k (cap - a) (fun j => f (a + j)) (by omega) _ r.lt (by simp; omega) bN (fun j hj => hrow.cell (by omega))) (fun h k => h.trans k) (kpB_b (by simp; omega)) (Below.refl _ _) (fun _ => rfl)
    (fun pre W => (W.cell? ⟨w.heap.size, 0, none⟩ = some (.int .u32 (accI pre)) ∧ W.frozen? ⟨w.heap.size, 0, none⟩ = false) ∧ Below w.heap.size w W)
    (fun _ _ _ => False)
    (OwnFrom.and (Own.from (fun s A B row hs hg hr => ⟨cell_kept hs.1 hg hr, (frozen_kept hs.1 hg hr).trans hs.2⟩) _) (ownFrom_below (Nat.le_refl _) (by simp; omega)))
    (fun _ _ _ _ _ hs _ _ => hs)
    ⟨⟨(bV.alloc _).cell, (bV.alloc _).frozen⟩, hB0⟩
    (fun x => { tmps := #[.slice (some ⟨b, 0, none⟩) N cap, .int .i64 a, .int .i64 k, undef, undef, undef, .int .u32 0, .nilIface, .nilIface, .pointer (some ⟨w.heap.size, 0, none⟩), undef, .int .u8 (x.2.toNat : Int),
      .slice (some ⟨b, 0, none⟩) N cap, .int .i64 a, .int .i64 k, .nilIface, .nilIface, .bool false, undef, .slice (some ⟨b, 0, none⟩) N cap, .int .i64 a, .int .i64 a, .int .i64 k, .int .i64 ((a : Int) + (k : Int)),
      .slice (some ⟨b, a, none⟩) k (cap - a), .func (.func 106) #[] #[.pointer (some ⟨w.heap.size + 1, 0, none⟩)], .int .i64 (x.1 : Int), .int .u8 (x.2.toNat : Int), undef, undef, undef, undef, undef, undef], defers := [] }) ?assign ?body ?done ?stop
  case assign =>
    intro l x W K hK
    gi_wp2
    exact hK
  case body =>
    rintro l pre x W ⟨⟨hc, hf⟩, hB⟩ _
    have hx0 := x.2.toNat_lt
    gi_wp2
    exact ⟨(KeepsOthers.setCell _ _ _).from _, ⟨(Below.refl w.heap.size W).setCell (p := ⟨w.heap.size, 0, none⟩) (Nat.le_refl _) _, fun c t fr h => (heap_cell_other (by show w.heap.size + 1 ≠ w.heap.size; omega)).trans h⟩, ⟨by rw [accI_snoc]; exact World.cell?_setCell_same' _ _ _ (by rw [hc]; rfl), by rw [World.frozen?_setCell]; exact hf⟩, hB.setCell (p := ⟨w.heap.size, 0, none⟩) (Nat.le_refl _) _⟩
  case done =>
    rintro D ys W hD rfl ⟨⟨hc, _⟩, hB⟩ hK
    rw [acc_gp f a k hk] at hc
    gi_wp2
    refine ⟨by simp, .inl ⟨_, _, rfl, run_takeDeferred hK, ?_⟩⟩
    exact ⟨_, results_tmp2 rfl _ _ _, rfl, hB.trans (belowK_b (w := w) (Nat.le_refl _) W D _ _ (by simp at hD; omega) hK rfl rfl)⟩
  case stop =>
    rintro D c pre W _ _ h _
    exact h.elim
end Go.Proofs.YtcakcfeipfjmpaaDoor
