/-
bus.Pop, walked.
Condition: the package's table of regions reads as its text lays it.
-/
import Derived.Test.YtcmbnkmbaghkdaaDoorBusClone
import Derived.Deep.Cut
namespace Go.Proofs.YtcmbnkmbaghkdaaDoor
open Go.RowKit

theorem results_cell2_tmp {P : Program} {fn : Func} {p q b : Tmp} {ty ty' : TypeId} (h : fn.results = #[.cell p ty, .cell q ty', .tmp b]) (tmps : Array Value) (w : World) (g g' : Nat) (t t' : TypeId) (cs cs' : Array Value) (fr fr' : Nat × Nat) (d d' : TypeDesc)
    (hp : tmps.getD p undef = .pointer (some ⟨g, 0, none⟩)) (hp' : tmps.getD q undef = .pointer (some ⟨g', 0, none⟩)) (hg : w.heap[g]? = some (.cells cs t fr)) (hg' : w.heap[g']? = some (.cells cs' t' fr'))
    (hu : P.underlying ty = some d) (hd : (match d with | .struct _ | .array _ _ => true | _ => false) = true) (hi : (P.info? ty).map (·.size) = some cs.size)
    (hu' : P.underlying ty' = some d') (hd' : (match d' with | .struct _ | .array _ _ => true | _ => false) = true) (hi' : (P.info? ty').map (·.size) = some cs'.size) :
    (results fn tmps).run P w = .ok (.tuple #[.agg cs, .agg cs', tmps.getD b undef]) w := by
  have hp1 : tmps[p]?.getD undef = .pointer (some ⟨g, 0, none⟩) := by simpa using hp
  have hp2 : tmps[q]?.getD undef = .pointer (some ⟨g', 0, none⟩) := by simpa using hp'
  simp [results, h, hp1, hp2, asAddr, run_loadVar_row w g t ty cs fr d hg hu hd hi, run_loadVar_row w g' t' ty' cs' fr' d' hg' hu' hd' hi']
theorem row_keep1 {w : World} {b b' : Nat} {cs : Array Value} (h : b' ≠ b) : (w.setRow b cs).heap[b']? = w.heap[b']? := by
  simp only [World.setRow, Array.getElem?_modify]
  rw [if_neg (fun e => h e.symm)]
theorem posts_setRow {w : World} {g : Nat} {l : List Pst} (h : PostsAt w (some ⟨g, 0, none⟩) l) {b : Nat} (cs : Array Value) (hne : g ≠ b) : PostsAt (w.setRow b cs) (some ⟨g, 0, none⟩) l := fun k p hk => by
  obtain ⟨b', o, h1, h2, c0, c1, c2, c3⟩ := h k p hk
  obtain ⟨rfl, rfl⟩ : g = b' ∧ 0 = o := by simpa using h1
  have e : ∀ j, (w.setRow b cs).cell? ⟨g, j, none⟩ = w.cell? ⟨g, j, none⟩ := fun j => World.cell?_of_block (w := w) (row_keep1 hne)
  exact ⟨g, 0, rfl, by simpa [World.setRow] using h2, (e _).trans c0, (e _).trans c1, (e _).trans c2, (e _).trans c3⟩
theorem clone_all (b o : Nat) (l : List Pst) (cap : Nat) (w : World) (hp : PostsAt w (some ⟨b, o, none⟩) l) (hl : l.length ≤ 1000) :
    Calls Tryd.prog 34 #[.slice (some ⟨b, o, none⟩) l.length cap] w fun e w' => (∃ g cap', e = .returned (.slice (some ⟨g, 0, none⟩) l.length cap') ∧ w.heap.size ≤ g ∧ l.length ≤ cap' ∧ PostsAt w' (some ⟨g, 0, none⟩) l) ∧ Below w.heap.size w w' := by
  cases l with
  | nil =>
    refine (clone_none ⟨b, o, none⟩ cap w).mono ?_
    rintro e w' ⟨rfl, hb⟩
    exact ⟨⟨w.heap.size, 0, rfl, Nat.le_refl _, Nat.le_refl _, posts_nil _ _⟩, hb⟩
  | cons p l => exact clone_some b o (p :: l) cap w hp (by simp) hl

set_option maxRecDepth 100000 in
set_option maxHeartbeats 4000000 in
theorem pop_bad (ao : Option Addr) (l : List Pst) (cap : Nat) (w : World) (hp : PostsAt w ao l) (hl : l.length < 4611686018427387904) (hr : RegAt w) (hq : ¬ queueOk l) :
    Calls Tryd.prog 11 #[.agg #[.slice ao l.length cap]] w fun e w' => e = .returned (.tuple #[.agg #[.slice none 0 0], .agg #[.int .i64 0, .int .u32 0, .int .i64 0, .int .u32 0], .iface 104 (.int .i64 1)]) ∧ Below w.heap.size w w' := by
  obtain ⟨k0, k1, k2, hb0⟩ := three_blocks w (.cells #[.slice ao l.length cap] 31) (.cells #[.slice none 0 0] 31) (.cells #[.int .i64 0, .int .u32 0, .int .i64 0, .int .u32 0] 37)
  have HC := Lib.hid (bus_Check ao l cap _ (hp.below hb0) hl (hr.below hb0))
  rw [if_neg hq] at HC
  simp only [errV] at HC
  have HB := Lib.hid hb0
  have HK0 := Lib.hid k0
  have HK1 := Lib.hid k1
  have HK2 := Lib.hid k2
  clear hb0 k0 k1 k2 hr hl
  clear hp hq
  generalize l.length = n at HC HB HK0 HK1 HK2 ⊢
  go_enter Tryd.func11, Tryd.ntmps11
  go_wp2_with fail
  refine (HC.out).mono ?_
  rintro e w1 ⟨rfl, hb⟩
  have K0 := Lib.hid (keepB HK0.out hb)
  have K1 := Lib.hid (keepB HK1.out hb)
  have K2 := Lib.hid (keepB HK2.out hb)
  have RB1 := Lib.hid (HB.out.trans (hb.mono HB.out.size))
  clear hb
  have HOQ := Lib.hid (show (#[.slice none 0 0] : Array Value).all (·.oneCell') = true by simp [Value.oneCell'])
  have HOP := Lib.hid (show (#[.int .i64 0, .int .u32 0, .int .i64 0, .int .u32 0] : Array Value).all (·.oneCell') = true by simp [Value.oneCell'])
  have K21 := Lib.hid (show (w1.setRow (w.heap.size + 1) #[.slice none 0 0]).heap[w.heap.size + 1 + 1]? = some (.cells #[.int .i64 0, .int .u32 0, .int .i64 0, .int .u32 0] 37 (0, 0)) from (row_keep1 (by omega)).trans K2.out)
  have K11 := Lib.hid (show ((w1.setRow (w.heap.size + 1) #[.slice none 0 0]).setRow (w.heap.size + 1 + 1) #[.int .i64 0, .int .u32 0, .int .i64 0, .int .u32 0]).heap[w.heap.size + 1]? = some (.cells #[.slice none 0 0] 31 (0, 0)) from (row_keep1 (by omega)).trans (setRow_heap _ _ _ _ _ _ K1.out))
  go_wp2_with (first | (refine wpList_store_row rfl 31 _ _ rfl (w.heap.size + 1) #[.slice none 0 0] rfl rfl 31 #[.slice none 0 0] K1.out (by kernel_rfl) rfl HOQ.out ?_) | (refine wpList_store_row rfl 37 _ _ rfl (w.heap.size + 1 + 1) #[.int .i64 0, .int .u32 0, .int .i64 0, .int .u32 0] rfl rfl 37 #[.int .i64 0, .int .u32 0, .int .i64 0, .int .u32 0] K21.out (by kernel_rfl) rfl HOP.out ?_))
  exact bodyPost_ret (v := .tuple #[.agg #[.slice none 0 0], .agg #[.int .i64 0, .int .u32 0, .int .i64 0, .int .u32 0], .iface 104 (.int .i64 1)]) (results_cell2_tmp Tryd.results11 _ _ (w.heap.size + 1) (w.heap.size + 1 + 1) 31 37 #[.slice none 0 0] #[.int .i64 0, .int .u32 0, .int .i64 0, .int .u32 0] (0, 0) (0, 0) _ _ rfl rfl K11.out (setRow_heap _ _ _ _ _ _ K21.out) Tryd.underlying31 rfl (by kernel_rfl) Tryd.underlying37 rfl (by kernel_rfl)) rfl ⟨rfl, below_setRow (below_setRow RB1.out (by omega) _) (by omega) _⟩

set_option maxRecDepth 100000 in
set_option maxHeartbeats 4000000 in
theorem pop_empty (ao : Option Addr) (cap : Nat) (w : World) (hr : RegAt w) :
    Calls Tryd.prog 11 #[.agg #[.slice ao 0 cap]] w fun e w' => e = .returned (.tuple #[.agg #[.slice none 0 0], .agg #[.int .i64 0, .int .u32 0, .int .i64 0, .int .u32 0], .iface 104 (.int .i64 8)]) ∧ Below w.heap.size w w' := by
  obtain ⟨k0, k1, k2, hb0⟩ := three_blocks w (.cells #[.slice ao 0 cap] 31) (.cells #[.slice none 0 0] 31) (.cells #[.int .i64 0, .int .u32 0, .int .i64 0, .int .u32 0] 37)
  have HC := Lib.hid (bus_Check ao [] cap _ (posts_nil _ _) (by simp) (hr.below hb0))
  rw [if_pos (show queueOk [] from ⟨by simp, fun k p h => by simp at h⟩)] at HC
  simp only [errV, if_pos, List.length_nil] at HC
  have HB := Lib.hid hb0
  have HK0 := Lib.hid k0
  have HK1 := Lib.hid k1
  have HK2 := Lib.hid k2
  clear hb0 k0 k1 k2 hr
  go_enter Tryd.func11, Tryd.ntmps11
  go_wp2_with fail
  refine (HC.out).mono ?_
  rintro e w1 ⟨rfl, hb⟩
  have K0 := Lib.hid (keepB HK0.out hb)
  have K1 := Lib.hid (keepB HK1.out hb)
  have K2 := Lib.hid (keepB HK2.out hb)
  have RB1 := Lib.hid (HB.out.trans (hb.mono HB.out.size))
  clear hb
  have c0 := (cell_of_row _ _ 0 _ _ _ K0.out).trans (rfl : _ = some (Value.slice ao 0 cap))
  have HOQ := Lib.hid (show (#[.slice none 0 0] : Array Value).all (·.oneCell') = true by simp [Value.oneCell'])
  have HOP := Lib.hid (show (#[.int .i64 0, .int .u32 0, .int .i64 0, .int .u32 0] : Array Value).all (·.oneCell') = true by simp [Value.oneCell'])
  have K21 := Lib.hid (show (w1.setRow (w.heap.size + 1) #[.slice none 0 0]).heap[w.heap.size + 1 + 1]? = some (.cells #[.int .i64 0, .int .u32 0, .int .i64 0, .int .u32 0] 37 (0, 0)) from (row_keep1 (by omega)).trans K2.out)
  have K11 := Lib.hid (show ((w1.setRow (w.heap.size + 1) #[.slice none 0 0]).setRow (w.heap.size + 1 + 1) #[.int .i64 0, .int .u32 0, .int .i64 0, .int .u32 0]).heap[w.heap.size + 1]? = some (.cells #[.slice none 0 0] 31 (0, 0)) from (row_keep1 (by omega)).trans (setRow_heap _ _ _ _ _ _ K1.out))
  go_wp2_with (first | (refine wpList_store_row rfl 31 _ _ rfl (w.heap.size + 1) #[.slice none 0 0] rfl rfl 31 #[.slice none 0 0] K1.out (by kernel_rfl) rfl HOQ.out ?_) | (refine wpList_store_row rfl 37 _ _ rfl (w.heap.size + 1 + 1) #[.int .i64 0, .int .u32 0, .int .i64 0, .int .u32 0] rfl rfl 37 #[.int .i64 0, .int .u32 0, .int .i64 0, .int .u32 0] K21.out (by kernel_rfl) rfl HOP.out ?_))
  exact bodyPost_ret (v := .tuple #[.agg #[.slice none 0 0], .agg #[.int .i64 0, .int .u32 0, .int .i64 0, .int .u32 0], .iface 104 (.int .i64 8)]) (results_cell2_tmp Tryd.results11 _ _ (w.heap.size + 1) (w.heap.size + 1 + 1) 31 37 #[.slice none 0 0] #[.int .i64 0, .int .u32 0, .int .i64 0, .int .u32 0] (0, 0) (0, 0) _ _ rfl rfl K11.out (setRow_heap _ _ _ _ _ _ K21.out) Tryd.underlying31 rfl (by kernel_rfl) Tryd.underlying37 rfl (by kernel_rfl)) rfl ⟨rfl, below_setRow (below_setRow RB1.out (by omega) _) (by omega) _⟩

set_option maxRecDepth 100000 in
set_option maxHeartbeats 4000000 in
theorem pop_ok_more (b o : Nat) (p : Pst) (l : List Pst) (cap : Nat) (w : World) (hp : PostsAt w (some ⟨b, o, none⟩) (p :: l)) (hr : RegAt w) (hq : queueOk (p :: l)) (hcap : l.length + 1 ≤ cap) (hone : ¬ cap = 1) :
    Calls Tryd.prog 11 #[.agg #[.slice (some ⟨b, o, none⟩) (l.length + 1) cap]] w fun e w' => (∃ g cap', e = .returned (.tuple #[.agg #[.slice (some ⟨g, 0, none⟩) l.length cap'], .agg #[.int .i64 p.dev, .int .u32 p.at_, .int .i64 p.n, .int .u32 p.val], .nilIface]) ∧ w.heap.size ≤ g ∧ l.length ≤ cap' ∧ PostsAt w' (some ⟨g, 0, none⟩) l) ∧ Below w.heap.size w w' := by
  obtain ⟨k0, k1, k2, hb0⟩ := three_blocks w (.cells #[.slice (some ⟨b, o, none⟩) (l.length + 1) cap] 31) (.cells #[.slice none 0 0] 31) (.cells #[.int .i64 0, .int .u32 0, .int .i64 0, .int .u32 0] 37)
  have hl8 : l.length + 1 ≤ 8 := by have := hq.1; simpa using this
  have HC := Lib.hid (bus_Check (some ⟨b, o, none⟩) (p :: l) cap _ (hp.below hb0) (by simp; omega) (hr.below hb0))
  rw [if_pos hq] at HC
  simp only [errV, if_pos, List.length_cons] at HC
  have HP := Lib.hid hp
  have HQC := Lib.hid (fun W (h : PostsAt W (some ⟨b, o + 4, none⟩) l) => clone_all b (o + 4) l (cap - 1) W h (by omega))
  obtain ⟨m, hm⟩ : ∃ m, m = l.length := ⟨_, rfl⟩
  have HM := Lib.hid hm
  rw [← hm] at HC HQC k0 k1 k2 hb0 hl8 hcap ⊢
  have HB := Lib.hid hb0
  have HK0 := Lib.hid k0
  have HK1 := Lib.hid k1
  have HK2 := Lib.hid k2
  clear hb0 k0 k1 k2 hr hp hq hm
  go_enter Tryd.func11, Tryd.ntmps11
  go_wp2_with fail
  refine (HC.out).mono ?_
  rintro e w1 ⟨rfl, hb⟩
  have K0 := Lib.hid (keepB HK0.out hb)
  have K1 := Lib.hid (keepB HK1.out hb)
  have K2 := Lib.hid (keepB HK2.out hb)
  have RB1 := Lib.hid (HB.out.trans (hb.mono HB.out.size))
  have HP1 := Lib.hid (HP.out.below RB1.out)
  have HPB := Lib.hid (show ∀ W, Below w.heap.size w W → W.cell? ⟨b, o, none⟩ = some (.int .i64 p.dev) ∧ W.cell? ⟨b, o + 1, none⟩ = some (.int .u32 p.at_) ∧ W.cell? ⟨b, o + 2, none⟩ = some (.int .i64 p.n) ∧ W.cell? ⟨b, o + 3, none⟩ = some (.int .u32 p.val) from fun W hW => by
    obtain ⟨b', o', h1, _, c0, c1, c2, c3⟩ := (HP.out.below hW) 0 p rfl
    obtain ⟨rfl, rfl⟩ : b = b' ∧ o = o' := by simpa using h1
    simp only [Nat.zero_mul, Nat.add_zero] at c0 c1 c2 c3
    exact ⟨c0, c1, c2, c3⟩)
  clear hb
  have c0 := (cell_of_row _ _ 0 _ _ _ K0.out).trans (rfl : _ = some (Value.slice (some ⟨b, o, none⟩) (m + 1) cap))
  have hne0 : (((m : Int) + 1) == 0) = false := by simp; omega
  have hne1 : (((m + 1 : Nat) : Int) == 0) = false := by simp; omega
  have hm1 : (1 : Int) ≤ ((m + 1 : Nat) : Int) := by omega
  have hm2 : ((m + 1 : Nat) : Int) ≤ (cap : Int) := by omega
  have hm4 : (1 : Int) ≤ (m : Int) + 1 := by omega
  have hm5 : (m : Int) + 1 ≤ (cap : Int) := by omega
  have hm6 : (0 : Int) < (m : Int) + 1 := by omega
  have hm7 : 1 ≤ m + 1 := by omega
  have hm8 : m + 1 ≤ cap := hcap
  have hm9 : 0 < m + 1 := by omega
  have hm3 : (0 : Int) < ((m + 1 : Nat) : Int) := by omega
  go_upto_region 5 with fail
  have HMK : Hid (∀ W : World, W.heap[w.heap.size]? = some (.cells #[.slice (some ⟨b, o, none⟩) (m + 1) cap] 31 (0, 0)) → (∃ cz, W.heap[w.heap.size + 1]? = some (.cells #[cz] 31 (0, 0))) → (∃ cs : Array Value, cs.size = 4 ∧ W.heap[w.heap.size + 1 + 1]? = some (.cells cs 37 (0, 0))) → Below w.heap.size w W → (W.cell? ⟨w.heap.size, 0, none⟩ = some (.slice (some ⟨b, o, none⟩) (m + 1) cap) ∧ W.cell? ⟨b, o, none⟩ = some (.int .i64 p.dev) ∧ W.cell? ⟨b, o + 1, none⟩ = some (.int .u32 p.at_) ∧ W.cell? ⟨b, o + 2, none⟩ = some (.int .i64 p.n) ∧ W.cell? ⟨b, o + 3, none⟩ = some (.int .u32 p.val) ∧ W.heap[w.heap.size]? = some (.cells #[.slice (some ⟨b, o, none⟩) (m + 1) cap] 31 (0, 0)) ∧ (∃ cz, W.heap[w.heap.size + 1]? = some (.cells #[cz] 31 (0, 0))) ∧ (∃ cs : Array Value, cs.size = 4 ∧ W.heap[w.heap.size + 1 + 1]? = some (.cells cs 37 (0, 0))) ∧ Below w.heap.size w W)) :=
    Lib.hid (fun W h1 h2 h3 h4 => ⟨(cell_of_row _ _ 0 _ _ _ h1).trans rfl, (HPB.out W h4).1, (HPB.out W h4).2.1, (HPB.out W h4).2.2.1, (HPB.out W h4).2.2.2, h1, h2, h3, h4⟩)
  clear c0
  refine wp_region_held_drew (S := fun W => W.cell? ⟨w.heap.size, 0, none⟩ = some (.slice (some ⟨b, o, none⟩) (m + 1) cap) ∧ W.cell? ⟨b, o, none⟩ = some (.int .i64 p.dev) ∧ W.cell? ⟨b, o + 1, none⟩ = some (.int .u32 p.at_) ∧ W.cell? ⟨b, o + 2, none⟩ = some (.int .i64 p.n) ∧ W.cell? ⟨b, o + 3, none⟩ = some (.int .u32 p.val) ∧ W.heap[w.heap.size]? = some (.cells #[.slice (some ⟨b, o, none⟩) (m + 1) cap] 31 (0, 0)) ∧ (∃ cz, W.heap[w.heap.size + 1]? = some (.cells #[cz] 31 (0, 0))) ∧ (∃ cs : Array Value, cs.size = 4 ∧ W.heap[w.heap.size + 1 + 1]? = some (.cells cs 37 (0, 0))) ∧ Below w.heap.size w W) (by kernel_rfl) (HMK.out _ K0.out ⟨_, K1.out⟩ ⟨_, rfl, K2.out⟩ RB1.out.drew) (fun hHeld => ?_)
  refine wpAnyH_take (i := 0) (v := ?v0m) rfl (by kernel_rfl) (by kernel_rfl) (by kernel_rfl) (fun _ _ _ h => h) (Or.inl ⟨by rfl, ?hy0m⟩) (by assumption) ?rest0m
  case hy0m => (intro W hSw; (try dsimp only at hSw); go_split_ands; go_simp; first | done | with_reducible rfl)
  simp only [Act.put, List.getElem_toArray, List.getElem_cons_zero, List.setIfInBounds_toArray, List.set_cons_zero, List.set_cons_succ]
  refine wpAnyH_take (i := 1) (v := ?v1m) rfl (by kernel_rfl) (by kernel_rfl) (by kernel_rfl) (fun _ _ _ h => h) (Or.inl ⟨by rfl, ?hy1m⟩) (by assumption) ?rest1m
  case hy1m => (intro W hSw; (try dsimp only at hSw); go_split_ands; go_simp; first | done | with_reducible rfl)
  simp only [Act.put, List.getElem_toArray, List.getElem_cons_zero, List.getElem_cons_succ, List.setIfInBounds_toArray, List.set_cons_zero, List.set_cons_succ]
  refine wpAnyH_take (i := 2) (v := ?v2m) rfl (by kernel_rfl) (by kernel_rfl) (by kernel_rfl) (fun _ _ _ h => h) (Or.inl ⟨by rfl, ?hy2m⟩) (by assumption) ?rest2m
  case hy2m => (intro W hSw; (try dsimp only at hSw); go_split_ands; go_simp; first | done | with_reducible rfl)
  simp only [Act.put, List.getElem_toArray, List.getElem_cons_zero, List.getElem_cons_succ, List.setIfInBounds_toArray, List.set_cons_zero, List.set_cons_succ]
  refine wpAnyH_take (i := 5) (v := ?v5m) rfl (by kernel_rfl) (by kernel_rfl) (by kernel_rfl) (fun _ _ _ h => h) (Or.inl ⟨by rfl, ?hy5m⟩) (by assumption) ?rest5m
  case hy5m => (intro W hSw; (try dsimp only at hSw); go_split_ands; go_simp; first | done | with_reducible rfl)
  simp only [Act.put, List.getElem_toArray, List.getElem_cons_zero, List.getElem_cons_succ, List.setIfInBounds_toArray, List.set_cons_zero, List.set_cons_succ]
  refine wpAnyH_take (i := 6) (v := ?v6m) rfl (by kernel_rfl) (by kernel_rfl) (by kernel_rfl) (fun _ _ _ h => h) (Or.inl ⟨by rfl, ?hy6m⟩) (by assumption) ?rest6m
  case hy6m => (intro W hSw; (try dsimp only at hSw); go_split_ands; go_simp; first | done | with_reducible rfl)
  simp only [Act.put, List.getElem_toArray, List.getElem_cons_zero, List.getElem_cons_succ, List.setIfInBounds_toArray, List.set_cons_zero, List.set_cons_succ]
  refine wpAnyH_take (i := 7) (v := ?v7m) rfl (by kernel_rfl) (by kernel_rfl) (by kernel_rfl) (fun _ _ _ h => h) (Or.inl ⟨by rfl, ?hy7m⟩) (by assumption) ?rest7m
  case hy7m => (intro W hSw; (try dsimp only at hSw); go_split_ands; go_simp; first | done | with_reducible rfl)
  simp only [Act.put, List.getElem_toArray, List.getElem_cons_zero, List.getElem_cons_succ, List.setIfInBounds_toArray, List.set_cons_zero, List.set_cons_succ]
  refine wpAnyH_take (i := 8) (v := ?v8m) rfl (by kernel_rfl) (by kernel_rfl) (by kernel_rfl) (fun _ _ _ h => h) (Or.inl ⟨by rfl, ?hy8m⟩) (by assumption) ?rest8m
  case hy8m => (intro W hSw; (try dsimp only at hSw); go_split_ands; go_simp; first | done | with_reducible rfl)
  simp only [Act.put, List.getElem_toArray, List.getElem_cons_zero, List.getElem_cons_succ, List.setIfInBounds_toArray, List.set_cons_zero, List.set_cons_succ]
  refine wpAnyH_ready (rs := [3]) (by kernel_rfl) (by simp) ?_
  refine AllReadyH.cons (o := _) rfl (fun K hK => ?_) (AllReadyH.nil)
  simp only [List.getElem_toArray, List.getElem_cons_zero, List.getElem_cons_succ]
  go_simp
  refine (HQC.out _ (posts_tail (HP.out.below RB1.out.drew))).mono ?_
  rintro e w3 ⟨⟨g, cap', rfl, hg, hcp, hpn⟩, hb⟩
  have HPN := Lib.hid hpn
  have hbel := RB1.out.drew.trans (hb.mono RB1.out.drew.size)
  have hlt : w.heap.size + 1 + 1 < w1.heap.size := (Array.getElem?_eq_some_iff.1 K2.out).1
  have hgs : w1.heap.size ≤ g := hg
  refine hK.out _ _ (HMK.out _ (keepB (a := w1.drew) K0.out hb) ⟨_, keepB (a := w1.drew) K1.out hb⟩ ⟨_, rfl, keepB (a := w1.drew) K2.out hb⟩ hbel) (fun hHeld1 => ?_)
  have K13 := Lib.hid (keepB (a := w1.drew) K1.out hb)
  have K23 := Lib.hid (keepB (a := w1.drew) K2.out hb)
  have RB3 := Lib.hid hbel
  clear hK K hHeld hpn hb hbel hg
  refine wpAnyH_take (i := 4) (v := ?v4m) rfl (by kernel_rfl) (by kernel_rfl) (by kernel_rfl) (fun _ _ _ h => h) (Or.inl ⟨by rfl, ?hy4m⟩) (by assumption) ?rest4m
  case hy4m => (intro W hSw; (try dsimp only at hSw); go_split_ands; go_simp; first | done | with_reducible rfl)
  simp only [Act.put, List.getElem_toArray, List.getElem_cons_zero, List.getElem_cons_succ, List.setIfInBounds_toArray, List.set_cons_zero, List.set_cons_succ]
  have K14 := Lib.hid (show (w3.setRow (w.heap.size + 1) #[.slice (some ⟨g, 0, none⟩) m cap']).heap[w.heap.size + 1]? = some (.cells #[.slice (some ⟨g, 0, none⟩) m cap'] 31 (0, 0)) from setRow_heap _ _ _ _ _ _ K13.out)
  have K24 := Lib.hid (show (w3.setRow (w.heap.size + 1) #[.slice (some ⟨g, 0, none⟩) m cap']).heap[w.heap.size + 1 + 1]? = some (.cells #[.int .i64 0, .int .u32 0, .int .i64 0, .int .u32 0] 37 (0, 0)) from (row_keep1 (by omega)).trans K23.out)
  have RB4 := Lib.hid (show Below w.heap.size w (w3.setRow (w.heap.size + 1) #[.slice (some ⟨g, 0, none⟩) m cap']) from below_setRow RB3.out (by omega) _)
  have HP4 := Lib.hid (posts_setRow HPN.out (b := w.heap.size + 1) #[.slice (some ⟨g, 0, none⟩) m cap'] (by omega))
  have K04 : (w3.setRow (w.heap.size + 1) #[.slice (some ⟨g, 0, none⟩) m cap']).heap[w.heap.size]? = some (.cells #[.slice (some ⟨b, o, none⟩) (m + 1) cap] 31 (0, 0)) := (row_keep1 (by omega)).trans hHeld1.2.2.2.2.2.1
  have HOQ := Lib.hid (show (#[.slice (some ⟨g, 0, none⟩) m cap'] : Array Value).all (·.oneCell') = true by simp [Value.oneCell'])
  have HOP := Lib.hid (show (#[.int .i64 p.dev, .int .u32 p.at_, .int .i64 p.n, .int .u32 p.val] : Array Value).all (·.oneCell') = true by simp [Value.oneCell'])
  refine wpAnyH_ready (rs := [9]) (by kernel_rfl) (by simp) ?_
  refine AllReadyH.cons (o := _) rfl (fun K hK => ?_) (AllReadyH.nil)
  simp only [List.getElem_toArray, List.getElem_cons_zero, List.getElem_cons_succ]
  rw [if_pos (by rfl)]
  refine wp_store_row 31 _ _ rfl (w.heap.size + 1) #[.slice (some ⟨g, 0, none⟩) m cap'] rfl rfl 31 #[.slice none 0 0] K13.out (by kernel_rfl) rfl HOQ.out ?_
  refine hK.out _ _ (HMK.out _ K04 ⟨_, K14.out⟩ ⟨_, rfl, K24.out⟩ RB4.out) (fun hHeld2 => ?_)
  clear hK K hHeld1
  simp only [Act.put]
  generalize w3.setRow (w.heap.size + 1) #[.slice (some ⟨g, 0, none⟩) m cap'] = w4 at K14 K24 RB4 HP4 hHeld2 ⊢
  have K15 := Lib.hid (show (w4.setRow (w.heap.size + 1 + 1) #[.int .i64 p.dev, .int .u32 p.at_, .int .i64 p.n, .int .u32 p.val]).heap[w.heap.size + 1]? = some (.cells #[.slice (some ⟨g, 0, none⟩) m cap'] 31 (0, 0)) from (row_keep1 (by omega)).trans K14.out)
  have K25 := Lib.hid (show (w4.setRow (w.heap.size + 1 + 1) #[.int .i64 p.dev, .int .u32 p.at_, .int .i64 p.n, .int .u32 p.val]).heap[w.heap.size + 1 + 1]? = some (.cells #[.int .i64 p.dev, .int .u32 p.at_, .int .i64 p.n, .int .u32 p.val] 37 (0, 0)) from setRow_heap _ _ _ _ _ _ K24.out)
  have RB5 := Lib.hid (show Below w.heap.size w (w4.setRow (w.heap.size + 1 + 1) #[.int .i64 p.dev, .int .u32 p.at_, .int .i64 p.n, .int .u32 p.val]) from below_setRow RB4.out (by omega) _)
  have HP5 := Lib.hid (posts_setRow HP4.out (b := w.heap.size + 1 + 1) #[.int .i64 p.dev, .int .u32 p.at_, .int .i64 p.n, .int .u32 p.val] (by omega))
  refine wpAnyH_ready (rs := [10]) (by kernel_rfl) (by simp) ?_
  refine AllReadyH.cons (o := _) rfl (fun K hK => ?_) (AllReadyH.nil)
  simp only [List.getElem_toArray, List.getElem_cons_zero, List.getElem_cons_succ]
  rw [if_pos (by rfl)]
  refine wp_store_row 37 _ _ rfl (w.heap.size + 1 + 1) #[.int .i64 p.dev, .int .u32 p.at_, .int .i64 p.n, .int .u32 p.val] rfl rfl 37 #[.int .i64 0, .int .u32 0, .int .i64 0, .int .u32 0] K24.out (by kernel_rfl) rfl HOP.out ?_
  refine hK.out _ _ (HMK.out _ ((row_keep1 (by omega)).trans hHeld2.2.2.2.2.2.1) ⟨_, K15.out⟩ ⟨_, rfl, K25.out⟩ RB5.out) (fun hHeld3 => ?_)
  clear hK K hHeld2
  simp only [Act.put]
  refine wpAnyH_take (i := 11) (v := ?v11m) rfl (by kernel_rfl) (by kernel_rfl) (by kernel_rfl) (fun _ _ _ h => h) (Or.inl ⟨by rfl, ?hy11m⟩) (by assumption) ?rest11m
  case hy11m => (intro W hSw; (try dsimp only at hSw); go_split_ands; go_simp; first | done | with_reducible rfl)
  simp only [Act.put, List.getElem_toArray, List.getElem_cons_zero, List.getElem_cons_succ, List.setIfInBounds_toArray, List.set_cons_zero, List.set_cons_succ]
  refine wpAnyH_done (by kernel_rfl) ?_ _
  clear hHeld3
  generalize w4.setRow (w.heap.size + 1 + 1) #[.int .i64 p.dev, .int .u32 p.at_, .int .i64 p.n, .int .u32 p.val] = w5 at K15 K25 RB5 HP5 ⊢
  go_wp2_with fail
  exact bodyPost_ret (v := .tuple #[.agg #[.slice (some ⟨g, 0, none⟩) m cap'], .agg #[.int .i64 p.dev, .int .u32 p.at_, .int .i64 p.n, .int .u32 p.val], .nilIface]) (results_cell2_tmp Tryd.results11 _ _ (w.heap.size + 1) (w.heap.size + 1 + 1) 31 37 #[.slice (some ⟨g, 0, none⟩) m cap'] #[.int .i64 p.dev, .int .u32 p.at_, .int .i64 p.n, .int .u32 p.val] (0, 0) (0, 0) _ _ rfl rfl K15.out K25.out Tryd.underlying31 rfl (by kernel_rfl) Tryd.underlying37 rfl (by kernel_rfl)) rfl ⟨⟨g, cap', rfl, by omega, hcp, HP5.out⟩, RB5.out⟩

set_option maxRecDepth 100000 in
set_option maxHeartbeats 4000000 in
theorem pop_ok_one (b o : Nat) (p : Pst) (l : List Pst) (cap : Nat) (w : World) (hp : PostsAt w (some ⟨b, o, none⟩) (p :: l)) (hr : RegAt w) (hq : queueOk (p :: l)) (hcap : l.length + 1 ≤ cap) (hone : cap = 1) :
    Calls Tryd.prog 11 #[.agg #[.slice (some ⟨b, o, none⟩) (l.length + 1) cap]] w fun e w' => (∃ g cap', e = .returned (.tuple #[.agg #[.slice (some ⟨g, 0, none⟩) l.length cap'], .agg #[.int .i64 p.dev, .int .u32 p.at_, .int .i64 p.n, .int .u32 p.val], .nilIface]) ∧ w.heap.size ≤ g ∧ l.length ≤ cap' ∧ PostsAt w' (some ⟨g, 0, none⟩) l) ∧ Below w.heap.size w w' := by
  have hsel : (if cap = 1 then some (⟨b, o, none⟩ : Addr) else some ⟨b, o + 4, none⟩) = some ⟨b, o, none⟩ := if_pos hone
  have HONE := Lib.hid hone
  clear hone
  obtain ⟨k0, k1, k2, hb0⟩ := three_blocks w (.cells #[.slice (some ⟨b, o, none⟩) (l.length + 1) cap] 31) (.cells #[.slice none 0 0] 31) (.cells #[.int .i64 0, .int .u32 0, .int .i64 0, .int .u32 0] 37)
  have hl8 : l.length + 1 ≤ 8 := by have := hq.1; simpa using this
  have HC := Lib.hid (bus_Check (some ⟨b, o, none⟩) (p :: l) cap _ (hp.below hb0) (by simp; omega) (hr.below hb0))
  rw [if_pos hq] at HC
  simp only [errV, if_pos, List.length_cons] at HC
  have HP := Lib.hid hp
  have HQC := Lib.hid (fun W (h : PostsAt W (some ⟨b, o, none⟩) l) => clone_all b (o) l (cap - 1) W h (by omega))
  obtain ⟨m, hm⟩ : ∃ m, m = l.length := ⟨_, rfl⟩
  have HM := Lib.hid hm
  rw [← hm] at HC HQC k0 k1 k2 hb0 hl8 hcap ⊢
  have HB := Lib.hid hb0
  have HK0 := Lib.hid k0
  have HK1 := Lib.hid k1
  have HK2 := Lib.hid k2
  clear hb0 k0 k1 k2 hr hp hq hm
  go_enter Tryd.func11, Tryd.ntmps11
  go_wp2_with fail
  refine (HC.out).mono ?_
  rintro e w1 ⟨rfl, hb⟩
  have K0 := Lib.hid (keepB HK0.out hb)
  have K1 := Lib.hid (keepB HK1.out hb)
  have K2 := Lib.hid (keepB HK2.out hb)
  have RB1 := Lib.hid (HB.out.trans (hb.mono HB.out.size))
  have HP1 := Lib.hid (HP.out.below RB1.out)
  have HPB := Lib.hid (show ∀ W, Below w.heap.size w W → W.cell? ⟨b, o, none⟩ = some (.int .i64 p.dev) ∧ W.cell? ⟨b, o + 1, none⟩ = some (.int .u32 p.at_) ∧ W.cell? ⟨b, o + 2, none⟩ = some (.int .i64 p.n) ∧ W.cell? ⟨b, o + 3, none⟩ = some (.int .u32 p.val) from fun W hW => by
    obtain ⟨b', o', h1, _, c0, c1, c2, c3⟩ := (HP.out.below hW) 0 p rfl
    obtain ⟨rfl, rfl⟩ : b = b' ∧ o = o' := by simpa using h1
    simp only [Nat.zero_mul, Nat.add_zero] at c0 c1 c2 c3
    exact ⟨c0, c1, c2, c3⟩)
  clear hb
  have c0 := (cell_of_row _ _ 0 _ _ _ K0.out).trans (rfl : _ = some (Value.slice (some ⟨b, o, none⟩) (m + 1) cap))
  have hne0 : (((m : Int) + 1) == 0) = false := by simp; omega
  have hne1 : (((m + 1 : Nat) : Int) == 0) = false := by simp; omega
  have hm1 : (1 : Int) ≤ ((m + 1 : Nat) : Int) := by omega
  have hm2 : ((m + 1 : Nat) : Int) ≤ (cap : Int) := by omega
  have hm4 : (1 : Int) ≤ (m : Int) + 1 := by omega
  have hm5 : (m : Int) + 1 ≤ (cap : Int) := by omega
  have hm6 : (0 : Int) < (m : Int) + 1 := by omega
  have hm7 : 1 ≤ m + 1 := by omega
  have hm8 : m + 1 ≤ cap := hcap
  have hm9 : 0 < m + 1 := by omega
  have hm3 : (0 : Int) < ((m + 1 : Nat) : Int) := by omega
  go_upto_region 5 with fail
  have HMK : Hid (∀ W : World, W.heap[w.heap.size]? = some (.cells #[.slice (some ⟨b, o, none⟩) (m + 1) cap] 31 (0, 0)) → (∃ cz, W.heap[w.heap.size + 1]? = some (.cells #[cz] 31 (0, 0))) → (∃ cs : Array Value, cs.size = 4 ∧ W.heap[w.heap.size + 1 + 1]? = some (.cells cs 37 (0, 0))) → Below w.heap.size w W → (W.cell? ⟨w.heap.size, 0, none⟩ = some (.slice (some ⟨b, o, none⟩) (m + 1) cap) ∧ W.cell? ⟨b, o, none⟩ = some (.int .i64 p.dev) ∧ W.cell? ⟨b, o + 1, none⟩ = some (.int .u32 p.at_) ∧ W.cell? ⟨b, o + 2, none⟩ = some (.int .i64 p.n) ∧ W.cell? ⟨b, o + 3, none⟩ = some (.int .u32 p.val) ∧ W.heap[w.heap.size]? = some (.cells #[.slice (some ⟨b, o, none⟩) (m + 1) cap] 31 (0, 0)) ∧ (∃ cz, W.heap[w.heap.size + 1]? = some (.cells #[cz] 31 (0, 0))) ∧ (∃ cs : Array Value, cs.size = 4 ∧ W.heap[w.heap.size + 1 + 1]? = some (.cells cs 37 (0, 0))) ∧ Below w.heap.size w W)) :=
    Lib.hid (fun W h1 h2 h3 h4 => ⟨(cell_of_row _ _ 0 _ _ _ h1).trans rfl, (HPB.out W h4).1, (HPB.out W h4).2.1, (HPB.out W h4).2.2.1, (HPB.out W h4).2.2.2, h1, h2, h3, h4⟩)
  clear c0
  refine wp_region_held_drew (S := fun W => W.cell? ⟨w.heap.size, 0, none⟩ = some (.slice (some ⟨b, o, none⟩) (m + 1) cap) ∧ W.cell? ⟨b, o, none⟩ = some (.int .i64 p.dev) ∧ W.cell? ⟨b, o + 1, none⟩ = some (.int .u32 p.at_) ∧ W.cell? ⟨b, o + 2, none⟩ = some (.int .i64 p.n) ∧ W.cell? ⟨b, o + 3, none⟩ = some (.int .u32 p.val) ∧ W.heap[w.heap.size]? = some (.cells #[.slice (some ⟨b, o, none⟩) (m + 1) cap] 31 (0, 0)) ∧ (∃ cz, W.heap[w.heap.size + 1]? = some (.cells #[cz] 31 (0, 0))) ∧ (∃ cs : Array Value, cs.size = 4 ∧ W.heap[w.heap.size + 1 + 1]? = some (.cells cs 37 (0, 0))) ∧ Below w.heap.size w W) (by kernel_rfl) (HMK.out _ K0.out ⟨_, K1.out⟩ ⟨_, rfl, K2.out⟩ RB1.out.drew) (fun hHeld => ?_)
  refine wpAnyH_take (i := 0) (v := ?v0z) rfl (by kernel_rfl) (by kernel_rfl) (by kernel_rfl) (fun _ _ _ h => h) (Or.inl ⟨by rfl, ?hy0z⟩) (by assumption) ?rest0z
  case hy0z => (intro W hSw; (try dsimp only at hSw); go_split_ands; go_simp; first | done | with_reducible rfl)
  simp only [Act.put, List.getElem_toArray, List.getElem_cons_zero, List.setIfInBounds_toArray, List.set_cons_zero, List.set_cons_succ]
  refine wpAnyH_take (i := 1) (v := ?v1z) rfl (by kernel_rfl) (by kernel_rfl) (by kernel_rfl) (fun _ _ _ h => h) (Or.inl ⟨by rfl, ?hy1z⟩) (by assumption) ?rest1z
  case hy1z => (intro W hSw; (try dsimp only at hSw); go_split_ands; go_simp; first | done | with_reducible rfl)
  simp only [Act.put, List.getElem_toArray, List.getElem_cons_zero, List.getElem_cons_succ, List.setIfInBounds_toArray, List.set_cons_zero, List.set_cons_succ]
  refine wpAnyH_take (i := 2) (v := ?v2z) rfl (by kernel_rfl) (by kernel_rfl) (by kernel_rfl) (fun _ _ _ h => h) (Or.inl ⟨by rfl, ?hy2z⟩) (by assumption) ?rest2z
  case hy2z => (intro W hSw; (try dsimp only at hSw); go_split_ands; go_simp; first | done | with_reducible rfl)
  simp only [Act.put, List.getElem_toArray, List.getElem_cons_zero, List.getElem_cons_succ, List.setIfInBounds_toArray, List.set_cons_zero, List.set_cons_succ]
  refine wpAnyH_take (i := 5) (v := ?v5z) rfl (by kernel_rfl) (by kernel_rfl) (by kernel_rfl) (fun _ _ _ h => h) (Or.inl ⟨by rfl, ?hy5z⟩) (by assumption) ?rest5z
  case hy5z => (intro W hSw; (try dsimp only at hSw); go_split_ands; go_simp; first | done | with_reducible rfl)
  simp only [Act.put, List.getElem_toArray, List.getElem_cons_zero, List.getElem_cons_succ, List.setIfInBounds_toArray, List.set_cons_zero, List.set_cons_succ]
  refine wpAnyH_take (i := 6) (v := ?v6z) rfl (by kernel_rfl) (by kernel_rfl) (by kernel_rfl) (fun _ _ _ h => h) (Or.inl ⟨by rfl, ?hy6z⟩) (by assumption) ?rest6z
  case hy6z => (intro W hSw; (try dsimp only at hSw); go_split_ands; go_simp; first | done | with_reducible rfl)
  simp only [Act.put, List.getElem_toArray, List.getElem_cons_zero, List.getElem_cons_succ, List.setIfInBounds_toArray, List.set_cons_zero, List.set_cons_succ]
  refine wpAnyH_take (i := 7) (v := ?v7z) rfl (by kernel_rfl) (by kernel_rfl) (by kernel_rfl) (fun _ _ _ h => h) (Or.inl ⟨by rfl, ?hy7z⟩) (by assumption) ?rest7z
  case hy7z => (intro W hSw; (try dsimp only at hSw); go_split_ands; go_simp; first | done | with_reducible rfl)
  simp only [Act.put, List.getElem_toArray, List.getElem_cons_zero, List.getElem_cons_succ, List.setIfInBounds_toArray, List.set_cons_zero, List.set_cons_succ]
  refine wpAnyH_take (i := 8) (v := ?v8z) rfl (by kernel_rfl) (by kernel_rfl) (by kernel_rfl) (fun _ _ _ h => h) (Or.inl ⟨by rfl, ?hy8z⟩) (by assumption) ?rest8z
  case hy8z => (intro W hSw; (try dsimp only at hSw); go_split_ands; go_simp; first | done | with_reducible rfl)
  simp only [Act.put, List.getElem_toArray, List.getElem_cons_zero, List.getElem_cons_succ, List.setIfInBounds_toArray, List.set_cons_zero, List.set_cons_succ]
  refine wpAnyH_ready (rs := [3]) (by kernel_rfl) (by simp) ?_
  refine AllReadyH.cons (o := _) rfl (fun K hK => ?_) (AllReadyH.nil)
  simp only [List.getElem_toArray, List.getElem_cons_zero, List.getElem_cons_succ]
  go_simp
  refine (HQC.out _ (by rw [show l = [] from List.length_eq_zero_iff.1 (by have := HM.out; have := HONE.out; omega)]; exact posts_nil _ _)).mono ?_
  rintro e w3 ⟨⟨g, cap', rfl, hg, hcp, hpn⟩, hb⟩
  have HPN := Lib.hid hpn
  have hbel := RB1.out.drew.trans (hb.mono RB1.out.drew.size)
  have hlt : w.heap.size + 1 + 1 < w1.heap.size := (Array.getElem?_eq_some_iff.1 K2.out).1
  have hgs : w1.heap.size ≤ g := hg
  refine hK.out _ _ (HMK.out _ (keepB (a := w1.drew) K0.out hb) ⟨_, keepB (a := w1.drew) K1.out hb⟩ ⟨_, rfl, keepB (a := w1.drew) K2.out hb⟩ hbel) (fun hHeld1 => ?_)
  have K13 := Lib.hid (keepB (a := w1.drew) K1.out hb)
  have K23 := Lib.hid (keepB (a := w1.drew) K2.out hb)
  have RB3 := Lib.hid hbel
  clear hK K hHeld hpn hb hbel hg
  refine wpAnyH_take (i := 4) (v := ?v4z) rfl (by kernel_rfl) (by kernel_rfl) (by kernel_rfl) (fun _ _ _ h => h) (Or.inl ⟨by rfl, ?hy4z⟩) (by assumption) ?rest4z
  case hy4z => (intro W hSw; (try dsimp only at hSw); go_split_ands; go_simp; first | done | with_reducible rfl)
  simp only [Act.put, List.getElem_toArray, List.getElem_cons_zero, List.getElem_cons_succ, List.setIfInBounds_toArray, List.set_cons_zero, List.set_cons_succ]
  have K14 := Lib.hid (show (w3.setRow (w.heap.size + 1) #[.slice (some ⟨g, 0, none⟩) m cap']).heap[w.heap.size + 1]? = some (.cells #[.slice (some ⟨g, 0, none⟩) m cap'] 31 (0, 0)) from setRow_heap _ _ _ _ _ _ K13.out)
  have K24 := Lib.hid (show (w3.setRow (w.heap.size + 1) #[.slice (some ⟨g, 0, none⟩) m cap']).heap[w.heap.size + 1 + 1]? = some (.cells #[.int .i64 0, .int .u32 0, .int .i64 0, .int .u32 0] 37 (0, 0)) from (row_keep1 (by omega)).trans K23.out)
  have RB4 := Lib.hid (show Below w.heap.size w (w3.setRow (w.heap.size + 1) #[.slice (some ⟨g, 0, none⟩) m cap']) from below_setRow RB3.out (by omega) _)
  have HP4 := Lib.hid (posts_setRow HPN.out (b := w.heap.size + 1) #[.slice (some ⟨g, 0, none⟩) m cap'] (by omega))
  have K04 : (w3.setRow (w.heap.size + 1) #[.slice (some ⟨g, 0, none⟩) m cap']).heap[w.heap.size]? = some (.cells #[.slice (some ⟨b, o, none⟩) (m + 1) cap] 31 (0, 0)) := (row_keep1 (by omega)).trans hHeld1.2.2.2.2.2.1
  have HOQ := Lib.hid (show (#[.slice (some ⟨g, 0, none⟩) m cap'] : Array Value).all (·.oneCell') = true by simp [Value.oneCell'])
  have HOP := Lib.hid (show (#[.int .i64 p.dev, .int .u32 p.at_, .int .i64 p.n, .int .u32 p.val] : Array Value).all (·.oneCell') = true by simp [Value.oneCell'])
  refine wpAnyH_ready (rs := [9]) (by kernel_rfl) (by simp) ?_
  refine AllReadyH.cons (o := _) rfl (fun K hK => ?_) (AllReadyH.nil)
  simp only [List.getElem_toArray, List.getElem_cons_zero, List.getElem_cons_succ]
  rw [if_pos (by rfl)]
  refine wp_store_row 31 _ _ rfl (w.heap.size + 1) #[.slice (some ⟨g, 0, none⟩) m cap'] rfl rfl 31 #[.slice none 0 0] K13.out (by kernel_rfl) rfl HOQ.out ?_
  refine hK.out _ _ (HMK.out _ K04 ⟨_, K14.out⟩ ⟨_, rfl, K24.out⟩ RB4.out) (fun hHeld2 => ?_)
  clear hK K hHeld1
  simp only [Act.put]
  generalize w3.setRow (w.heap.size + 1) #[.slice (some ⟨g, 0, none⟩) m cap'] = w4 at K14 K24 RB4 HP4 hHeld2 ⊢
  have K15 := Lib.hid (show (w4.setRow (w.heap.size + 1 + 1) #[.int .i64 p.dev, .int .u32 p.at_, .int .i64 p.n, .int .u32 p.val]).heap[w.heap.size + 1]? = some (.cells #[.slice (some ⟨g, 0, none⟩) m cap'] 31 (0, 0)) from (row_keep1 (by omega)).trans K14.out)
  have K25 := Lib.hid (show (w4.setRow (w.heap.size + 1 + 1) #[.int .i64 p.dev, .int .u32 p.at_, .int .i64 p.n, .int .u32 p.val]).heap[w.heap.size + 1 + 1]? = some (.cells #[.int .i64 p.dev, .int .u32 p.at_, .int .i64 p.n, .int .u32 p.val] 37 (0, 0)) from setRow_heap _ _ _ _ _ _ K24.out)
  have RB5 := Lib.hid (show Below w.heap.size w (w4.setRow (w.heap.size + 1 + 1) #[.int .i64 p.dev, .int .u32 p.at_, .int .i64 p.n, .int .u32 p.val]) from below_setRow RB4.out (by omega) _)
  have HP5 := Lib.hid (posts_setRow HP4.out (b := w.heap.size + 1 + 1) #[.int .i64 p.dev, .int .u32 p.at_, .int .i64 p.n, .int .u32 p.val] (by omega))
  refine wpAnyH_ready (rs := [10]) (by kernel_rfl) (by simp) ?_
  refine AllReadyH.cons (o := _) rfl (fun K hK => ?_) (AllReadyH.nil)
  simp only [List.getElem_toArray, List.getElem_cons_zero, List.getElem_cons_succ]
  rw [if_pos (by rfl)]
  refine wp_store_row 37 _ _ rfl (w.heap.size + 1 + 1) #[.int .i64 p.dev, .int .u32 p.at_, .int .i64 p.n, .int .u32 p.val] rfl rfl 37 #[.int .i64 0, .int .u32 0, .int .i64 0, .int .u32 0] K24.out (by kernel_rfl) rfl HOP.out ?_
  refine hK.out _ _ (HMK.out _ ((row_keep1 (by omega)).trans hHeld2.2.2.2.2.2.1) ⟨_, K15.out⟩ ⟨_, rfl, K25.out⟩ RB5.out) (fun hHeld3 => ?_)
  clear hK K hHeld2
  simp only [Act.put]
  refine wpAnyH_take (i := 11) (v := ?v11z) rfl (by kernel_rfl) (by kernel_rfl) (by kernel_rfl) (fun _ _ _ h => h) (Or.inl ⟨by rfl, ?hy11z⟩) (by assumption) ?rest11z
  case hy11z => (intro W hSw; (try dsimp only at hSw); go_split_ands; go_simp; first | done | with_reducible rfl)
  simp only [Act.put, List.getElem_toArray, List.getElem_cons_zero, List.getElem_cons_succ, List.setIfInBounds_toArray, List.set_cons_zero, List.set_cons_succ]
  refine wpAnyH_done (by kernel_rfl) ?_ _
  clear hHeld3
  generalize w4.setRow (w.heap.size + 1 + 1) #[.int .i64 p.dev, .int .u32 p.at_, .int .i64 p.n, .int .u32 p.val] = w5 at K15 K25 RB5 HP5 ⊢
  go_wp2_with fail
  exact bodyPost_ret (v := .tuple #[.agg #[.slice (some ⟨g, 0, none⟩) m cap'], .agg #[.int .i64 p.dev, .int .u32 p.at_, .int .i64 p.n, .int .u32 p.val], .nilIface]) (results_cell2_tmp Tryd.results11 _ _ (w.heap.size + 1) (w.heap.size + 1 + 1) 31 37 #[.slice (some ⟨g, 0, none⟩) m cap'] #[.int .i64 p.dev, .int .u32 p.at_, .int .i64 p.n, .int .u32 p.val] (0, 0) (0, 0) _ _ rfl rfl K15.out K25.out Tryd.underlying31 rfl (by kernel_rfl) Tryd.underlying37 rfl (by kernel_rfl)) rfl ⟨⟨g, cap', rfl, by omega, hcp, HP5.out⟩, RB5.out⟩

end Go.Proofs.YtcmbnkmbaghkdaaDoor
