/-
pinnaceref07.Pop, walked.
No condition.
-/
import Derived.Test.YtcmbnkmbaghkdaaDoorRef7Push
import Derived.Test.YtcmbnkmbaghkdaaDoorBusPop
import Derived.Test.YtcmbnkmbaghkdaaDoorTwoStores
import Derived.Test.YtcmbnkmbaghkdaaDoorYieldsBuild
namespace Go.Proofs.YtcmbnkmbaghkdaaDoor
open Go.RowKit
set_option linter.unusedVariables false

theorem posts_range {w : World} {b o : Nat} {p : Pst} {l : List Pst} (h : PostsAt w (some ⟨b, o, none⟩) (p :: l)) : w.rangeAt b o p.c.toList := fun j v hj => by
  obtain ⟨b', o', h1, _, c0, c1, c2, c3⟩ := h 0 p rfl
  obtain ⟨rfl, rfl⟩ : b = b' ∧ o = o' := by simpa using h1
  simp only [Nat.zero_mul, Nat.add_zero] at c0 c1 c2 c3
  match j, hj with
  | 0, hj => exact c0.trans hj
  | 1, hj => exact c1.trans hj
  | 2, hj => exact c2.trans hj
  | 3, hj => exact c3.trans hj
  | j + 4, hj => simp [Pst.c] at hj
set_option maxRecDepth 100000 in
set_option maxHeartbeats 4000000 in
theorem ref7_pop_bad (ao : Option Addr) (l : List Pst) (cap : Nat) (w : World) (hp : PostsAt w ao l) (hwf : ∀ (k : Nat) (p : Pst), l[k]? = some p → p.wf) (hq : ¬ queueOk l) :
    Calls Tryd.prog 12 #[.agg #[.slice ao l.length cap]] w fun e w' => e = .returned (.tuple #[.agg #[.slice none 0 0], .agg #[.int .i64 0, .int .u32 0, .int .i64 0, .int .u32 0], .int .i64 1]) ∧ Below w.heap.size w w' := by
  skip
  obtain ⟨k0, k1, k2, hb0⟩ := new3 w (.cells #[.slice ao l.length cap] 24) (.cells #[.slice none 0 0] 24) (.cells #[.int .i64 0, .int .u32 0, .int .i64 0, .int .u32 0] 27)
  have K0a := Lib.hid k0
  have K1a := Lib.hid k1
  have K2a := Lib.hid k2
  have HB0a := Lib.hid hb0
  clear k0 k1 k2 hb0
  have HC := Lib.hid ((fun W h => ref7_Check_bad ao l cap W h hwf hq) (((w.alloc (.cells #[.slice ao l.length cap] 24)).alloc (.cells #[.slice none 0 0] 24)).alloc (.cells #[.int .i64 0, .int .u32 0, .int .i64 0, .int .u32 0] 27)) (hp.below HB0a.out))
  clear hp
  go_enter Tryd.func12, Tryd.ntmps12
  go_upto_region 1 with fail
  change Code.wp _ _ _ _ (((w.alloc (.cells #[.slice ao l.length cap] 24)).alloc (.cells #[.slice none 0 0] 24)).alloc (.cells #[.int .i64 0, .int .u32 0, .int .i64 0, .int .u32 0] 27))
  generalize (((w.alloc (.cells #[.slice ao l.length cap] 24)).alloc (.cells #[.slice none 0 0] 24)).alloc (.cells #[.int .i64 0, .int .u32 0, .int .i64 0, .int .u32 0] 27)) = w1 at K0a K1a K2a HB0a HC ⊢
  go_wp2_with (first | go_skip | (refine wpList_load_row rfl 24 _ rfl (w.heap.size) rfl 24 #[.slice ao l.length cap] (0, 0) _ K0a.out Tryd.underlying24 rfl (by kernel_rfl) ?_))
  refine (HC.out).mono ?_
  rintro e w2 ⟨rfl, hb⟩
  have K1 := Lib.hid (keepB K0a.out hb)
  clear K0a
  have K2 := Lib.hid (keepB K1a.out hb)
  clear K1a
  have K3 := Lib.hid (keepB K2a.out hb)
  clear K2a
  have HB4 := Lib.hid (HB0a.out.trans (hb.mono HB0a.out.size))
  clear HB0a
  clear hb HC
  have cf5 := (cell_of_row _ _ 0 _ _ _ K1.out).trans (rfl : _ = some (.slice ao l.length cap : Value))
  have HO6 := Lib.hid (show (#[.slice none 0 0] : Array Value).all (·.oneCell') = true from by simp [Value.oneCell'])
  have HO7 := Lib.hid (show (#[.int .i64 0, .int .u32 0, .int .i64 0, .int .u32 0] : Array Value).all (·.oneCell') = true from by simp [Value.oneCell'])
  go_wp2_with (first | go_skip | (refine wpList_store_to rfl 24 _ _ rfl (w.heap.size + 1) #[.slice none 0 0] rfl rfl 24 #[.slice none 0 0] K2.out (by kernel_rfl) rfl HO6.out ?_))
  intro w3 hx3 hkk
  clear cf5
  have K8 := Lib.hid (hx3.out.heap K1.out (by omega))
  clear K1
  have K9 := Lib.hid (hx3.out.heap K3.out (by omega))
  clear K3
  have K10 := Lib.hid hkk
  clear hkk K2
  have HB11 := Lib.hid (HB4.out.trans (hx3.out.below (B := w.heap.size) (fun k hk e => by omega) HB4.out.size))
  clear HB4 hx3
  go_wp2_with (first | go_skip | (refine wpList_store_to rfl 27 _ _ rfl (w.heap.size + 1 + 1) #[.int .i64 0, .int .u32 0, .int .i64 0, .int .u32 0] rfl rfl 27 #[.int .i64 0, .int .u32 0, .int .i64 0, .int .u32 0] K9.out (by kernel_rfl) rfl HO7.out ?_))
  intro w4 hx4 hkk
  have K12 := Lib.hid (hx4.out.heap K8.out (by omega))
  clear K8
  have K13 := Lib.hid (hx4.out.heap K10.out (by omega))
  clear K10
  have K14 := Lib.hid hkk
  clear hkk K9
  have HB15 := Lib.hid (HB11.out.trans (hx4.out.below (B := w.heap.size) (fun k hk e => by omega) HB11.out.size))
  clear HB11 hx4
  go_wp2_with fail
  exact bodyPost_ret (v := .tuple #[.agg #[.slice none 0 0], .agg #[.int .i64 0, .int .u32 0, .int .i64 0, .int .u32 0], .int .i64 1]) (results_2cell_tmp Tryd.results12 _ _ (w.heap.size + 1) (w.heap.size + 1 + 1) 24 27 #[.slice none 0 0] #[.int .i64 0, .int .u32 0, .int .i64 0, .int .u32 0] (0, 0) (0, 0) _ _ rfl rfl K13.out K14.out Tryd.underlying24 rfl (by kernel_rfl) Tryd.underlying27 rfl (by kernel_rfl)) rfl ⟨rfl, HB15.out⟩
set_option maxRecDepth 100000 in
set_option maxHeartbeats 4000000 in
theorem ref7_pop_empty (ao : Option Addr) (cap : Nat) (w : World) (hp : PostsAt w ao []) :
    Calls Tryd.prog 12 #[.agg #[.slice ao 0 cap]] w fun e w' => e = .returned (.tuple #[.agg #[.slice none 0 0], .agg #[.int .i64 0, .int .u32 0, .int .i64 0, .int .u32 0], .int .i64 8]) ∧ Below w.heap.size w w' := by
  skip
  obtain ⟨k0, k1, k2, hb0⟩ := new3 w (.cells #[.slice ao 0 cap] 24) (.cells #[.slice none 0 0] 24) (.cells #[.int .i64 0, .int .u32 0, .int .i64 0, .int .u32 0] 27)
  have K0a := Lib.hid k0
  have K1a := Lib.hid k1
  have K2a := Lib.hid k2
  have HB0a := Lib.hid hb0
  clear k0 k1 k2 hb0
  have HC := Lib.hid ((fun W h => ref7_Check_ok ao [] cap W h (fun k p h => by simp at h) ⟨by simp, fun k p h => by simp at h⟩) (((w.alloc (.cells #[.slice ao 0 cap] 24)).alloc (.cells #[.slice none 0 0] 24)).alloc (.cells #[.int .i64 0, .int .u32 0, .int .i64 0, .int .u32 0] 27)) (hp.below HB0a.out))
  clear hp
  go_enter Tryd.func12, Tryd.ntmps12
  go_upto_region 1 with fail
  change Code.wp _ _ _ _ (((w.alloc (.cells #[.slice ao 0 cap] 24)).alloc (.cells #[.slice none 0 0] 24)).alloc (.cells #[.int .i64 0, .int .u32 0, .int .i64 0, .int .u32 0] 27))
  generalize (((w.alloc (.cells #[.slice ao 0 cap] 24)).alloc (.cells #[.slice none 0 0] 24)).alloc (.cells #[.int .i64 0, .int .u32 0, .int .i64 0, .int .u32 0] 27)) = w1 at K0a K1a K2a HB0a HC ⊢
  go_wp2_with (first | go_skip | (refine wpList_load_row rfl 24 _ rfl (w.heap.size) rfl 24 #[.slice ao 0 cap] (0, 0) _ K0a.out Tryd.underlying24 rfl (by kernel_rfl) ?_))
  refine (HC.out).mono ?_
  rintro e w2 ⟨rfl, hb⟩
  have K1 := Lib.hid (keepB K0a.out hb)
  clear K0a
  have K2 := Lib.hid (keepB K1a.out hb)
  clear K1a
  have K3 := Lib.hid (keepB K2a.out hb)
  clear K2a
  have HB4 := Lib.hid (HB0a.out.trans (hb.mono HB0a.out.size))
  clear HB0a
  clear hb HC
  have cf5 := (cell_of_row _ _ 0 _ _ _ K1.out).trans (rfl : _ = some (.slice ao 0 cap : Value))
  have HO6 := Lib.hid (show (#[.slice none 0 0] : Array Value).all (·.oneCell') = true from by simp [Value.oneCell'])
  have HO7 := Lib.hid (show (#[.int .i64 0, .int .u32 0, .int .i64 0, .int .u32 0] : Array Value).all (·.oneCell') = true from by simp [Value.oneCell'])
  go_wp2_with (first | go_skip | (refine wpList_store_to rfl 24 _ _ rfl (w.heap.size + 1) #[.slice none 0 0] rfl rfl 24 #[.slice none 0 0] K2.out (by kernel_rfl) rfl HO6.out ?_))
  intro w3 hx3 hkk
  clear cf5
  have K8 := Lib.hid (hx3.out.heap K1.out (by omega))
  clear K1
  have K9 := Lib.hid (hx3.out.heap K3.out (by omega))
  clear K3
  have K10 := Lib.hid hkk
  clear hkk K2
  have HB11 := Lib.hid (HB4.out.trans (hx3.out.below (B := w.heap.size) (fun k hk e => by omega) HB4.out.size))
  clear HB4 hx3
  go_wp2_with (first | go_skip | (refine wpList_store_to rfl 27 _ _ rfl (w.heap.size + 1 + 1) #[.int .i64 0, .int .u32 0, .int .i64 0, .int .u32 0] rfl rfl 27 #[.int .i64 0, .int .u32 0, .int .i64 0, .int .u32 0] K9.out (by kernel_rfl) rfl HO7.out ?_))
  intro w4 hx4 hkk
  have K12 := Lib.hid (hx4.out.heap K8.out (by omega))
  clear K8
  have K13 := Lib.hid (hx4.out.heap K10.out (by omega))
  clear K10
  have K14 := Lib.hid hkk
  clear hkk K9
  have HB15 := Lib.hid (HB11.out.trans (hx4.out.below (B := w.heap.size) (fun k hk e => by omega) HB11.out.size))
  clear HB11 hx4
  go_wp2_with fail
  exact bodyPost_ret (v := .tuple #[.agg #[.slice none 0 0], .agg #[.int .i64 0, .int .u32 0, .int .i64 0, .int .u32 0], .int .i64 8]) (results_2cell_tmp Tryd.results12 _ _ (w.heap.size + 1) (w.heap.size + 1 + 1) 24 27 #[.slice none 0 0] #[.int .i64 0, .int .u32 0, .int .i64 0, .int .u32 0] (0, 0) (0, 0) _ _ rfl rfl K13.out K14.out Tryd.underlying24 rfl (by kernel_rfl) Tryd.underlying27 rfl (by kernel_rfl)) rfl ⟨rfl, HB15.out⟩
set_option maxRecDepth 100000 in
set_option maxHeartbeats 4000000 in
theorem ref7_pop_more (b o : Nat) (p : Pst) (l : List Pst) (n cap : Nat) (hn : n = l.length + 1) (w : World) (hp : PostsAt w (some ⟨b, o, none⟩) (p :: l)) (hwf : ∀ (k : Nat) (q : Pst), (p :: l)[k]? = some q → q.wf) (hq : queueOk (p :: l)) (hcap : n ≤ cap) (hone : ¬ cap = 1) :
    Calls Tryd.prog 12 #[.agg #[.slice (some ⟨b, o, none⟩) n cap]] w fun e w' => e = .returned (.tuple #[.agg #[.slice (some ⟨b, o + 4, none⟩) (n - 1) (cap - 1)], .agg #[.int .i64 p.dev, .int .u32 p.at_, .int .i64 p.n, .int .u32 p.val], .int .i64 0]) ∧ Below w.heap.size w w' := by
  have HP := Lib.hid hp
  have HWF := Lib.hid hwf
  have HQ := Lib.hid hq
  have HN := Lib.hid hn
  have h8 : n ≤ 8 := by have := hq.1; simp at this; omega
  have hne0 : ((n : Int) == 0) = false := by simp; omega
  have hn1 : (1 : Int) ≤ (n : Int) := by omega
  have hnc : (n : Int) ≤ (cap : Int) := by omega
  have hn0 : (0 : Int) < (n : Int) := by omega
  have hnN : 1 ≤ n := by omega
  have hnN0 : 0 < n := by omega
  clear hp hwf hq hn
  obtain ⟨k0, k1, k2, hb0⟩ := new3 w (.cells #[.slice (some ⟨b, o, none⟩) n cap] 24) (.cells #[.slice none 0 0] 24) (.cells #[.int .i64 0, .int .u32 0, .int .i64 0, .int .u32 0] 27)
  have K0a := Lib.hid k0
  have K1a := Lib.hid k1
  have K2a := Lib.hid k2
  have HB0a := Lib.hid hb0
  clear k0 k1 k2 hb0
  have HC : Hid (∀ W, Below w.heap.size w W → Calls Tryd.prog 16 #[.agg #[.slice (some ⟨b, o, none⟩) n cap]] W fun e w' => e = .returned (.int .i64 0) ∧ Below W.heap.size W w') := Lib.hid (fun W hW => by have h := ref7_Check_ok (some ⟨b, o, none⟩) (p :: l) cap W (HP.out.below hW) HWF.out HQ.out; rw [List.length_cons, ← HN.out] at h; exact h)
  go_enter Tryd.func12, Tryd.ntmps12
  go_upto_region 1 with fail
  change Code.wp _ _ _ _ (((w.alloc (.cells #[.slice (some ⟨b, o, none⟩) n cap] 24)).alloc (.cells #[.slice none 0 0] 24)).alloc (.cells #[.int .i64 0, .int .u32 0, .int .i64 0, .int .u32 0] 27))
  generalize (((w.alloc (.cells #[.slice (some ⟨b, o, none⟩) n cap] 24)).alloc (.cells #[.slice none 0 0] 24)).alloc (.cells #[.int .i64 0, .int .u32 0, .int .i64 0, .int .u32 0] 27)) = w1 at K0a K1a K2a HB0a ⊢
  go_wp2_with (first | go_skip | (refine wpList_load_row rfl 24 _ rfl (w.heap.size) rfl 24 #[.slice (some ⟨b, o, none⟩) n cap] (0, 0) _ K0a.out Tryd.underlying24 rfl (by kernel_rfl) ?_))
  refine (HC.out _ HB0a.out).mono ?_
  rintro e w2 ⟨rfl, hb⟩
  have K1 := Lib.hid (keepB K0a.out hb)
  clear K0a
  have K2 := Lib.hid (keepB K1a.out hb)
  clear K1a
  have K3 := Lib.hid (keepB K2a.out hb)
  clear K2a
  have HB4 := Lib.hid (HB0a.out.trans (hb.mono HB0a.out.size))
  clear HB0a
  clear hb HC
  have cf5 := (cell_of_row _ _ 0 _ _ _ K1.out).trans (rfl : _ = some (.slice (some ⟨b, o, none⟩) n cap : Value))
  go_upto_region 5 with fail
  clear cf5
  have HO6 := Lib.hid (show (#[.slice (some ⟨b, o + 4, none⟩) (n - 1) (cap - 1)] : Array Value).all (·.oneCell') = true from by simp [Value.oneCell'])
  have HO7 := Lib.hid (show (#[.int .i64 p.dev, .int .u32 p.at_, .int .i64 p.n, .int .u32 p.val] : Array Value).all (·.oneCell') = true from by simp [Value.oneCell'])
  have HLP := Lib.hid (HP.out.below HB4.out)
  have HBL : Hid (b < w.heap.size) := Lib.hid (by
    obtain ⟨b', o', h1, h2, _⟩ := HP.out 0 p rfl
    obtain ⟨rfl, _⟩ : b = b' ∧ o = o' := by simpa using h1
    exact h2)
  refine wp_region_held_drew (S := KX (fun k => k = w.heap.size + 1 ∨ k = w.heap.size + 1 + 1) w2) (by kernel_rfl) ((KX.refl (fun k => k = w.heap.size + 1 ∨ k = w.heap.size + 1 + 1) w2).drew) (fun hHeld => ?_)
  refine wpAnyH_take (i := 0) (v := ?v0) rfl (by kernel_rfl) (by kernel_rfl) (by kernel_rfl) (fun _ _ _ h => h) (Or.inl ⟨by rfl, ?hy0⟩) (by assumption) ?rest0
  case hy0 => (intro W hSw; go_simp; first | done | with_reducible rfl)
  simp only [Act.put, List.getElem_toArray, List.getElem_cons_zero, List.setIfInBounds_toArray, List.set_cons_zero, List.set_cons_succ]
  refine wpAnyH_take (i := 1) (v := ?v1) rfl (by kernel_rfl) (by kernel_rfl) (by kernel_rfl) (fun _ _ _ h => h) (Or.inl ⟨by rfl, ?hy1⟩) (by assumption) ?rest1
  case hy1 => (intro W hSw; have cj := (cell_of_row _ _ 0 _ _ _ (hSw.heap K1.out (by omega))).trans (rfl : _ = some (.slice (some ⟨b, o, none⟩) n cap : Value)); go_simp; first | done | with_reducible rfl)
  simp only [Act.put, List.getElem_toArray, List.getElem_cons_zero, List.getElem_cons_succ, List.setIfInBounds_toArray, List.set_cons_zero, List.set_cons_succ]
  refine wpAnyH_take (i := 2) (v := ?v2) rfl (by kernel_rfl) (by kernel_rfl) (by kernel_rfl) (fun _ _ _ h => h) (Or.inl ⟨by rfl, ?hy2⟩) (by assumption) ?rest2
  case hy2 => (intro W hSw; go_simp; first | done | with_reducible rfl)
  simp only [Act.put, List.getElem_toArray, List.getElem_cons_zero, List.getElem_cons_succ, List.setIfInBounds_toArray, List.set_cons_zero, List.set_cons_succ]
  refine wpAnyH_take (i := 3) (v := ?v3) rfl (by kernel_rfl) (by kernel_rfl) (by kernel_rfl) (fun _ _ _ h => h) (Or.inl ⟨by rfl, ?hy3⟩) (by assumption) ?rest3
  case hy3 => (intro W hSw; go_simp; first | done | with_reducible rfl)
  simp only [Act.put, List.getElem_toArray, List.getElem_cons_zero, List.getElem_cons_succ, List.setIfInBounds_toArray, List.set_cons_zero, List.set_cons_succ]
  refine wpAnyH_take (i := 4) (v := ?v4) rfl (by kernel_rfl) (by kernel_rfl) (by kernel_rfl) (fun _ _ _ h => h) (Or.inl ⟨by rfl, ?hy4⟩) (by assumption) ?rest4
  case hy4 => (intro W hSw; go_simp; first | done | with_reducible rfl)
  simp only [Act.put, List.getElem_toArray, List.getElem_cons_zero, List.getElem_cons_succ, List.setIfInBounds_toArray, List.set_cons_zero, List.set_cons_succ]
  refine wpAnyH_take (i := 5) (v := ?v5) rfl (by kernel_rfl) (by kernel_rfl) (by kernel_rfl) (fun _ _ _ h => h) (Or.inl ⟨by rfl, ?hy5⟩) (by assumption) ?rest5
  case hy5 => (intro W hSw; have cj := (cell_of_row _ _ 0 _ _ _ (hSw.heap K1.out (by omega))).trans (rfl : _ = some (.slice (some ⟨b, o, none⟩) n cap : Value)); go_simp; first | done | with_reducible rfl)
  simp only [Act.put, List.getElem_toArray, List.getElem_cons_zero, List.getElem_cons_succ, List.setIfInBounds_toArray, List.set_cons_zero, List.set_cons_succ]
  refine wpAnyH_take (i := 6) (v := ?v6) rfl (by kernel_rfl) (by kernel_rfl) (by kernel_rfl) (fun _ _ _ h => h) (Or.inl ⟨by rfl, ?hy6⟩) (by assumption) ?rest6
  case hy6 => (intro W hSw; go_simp; first | done | with_reducible rfl)
  simp only [Act.put, List.getElem_toArray, List.getElem_cons_zero, List.getElem_cons_succ, List.setIfInBounds_toArray, List.set_cons_zero, List.set_cons_succ]
  refine wpAnyH_take (i := 7) rfl (by kernel_rfl) (by kernel_rfl) (by kernel_rfl) (fun _ _ _ h => h) (yieldsIf_load_mid (by rfl) 27 _ rfl b o rfl p.c.toList _ (fun W hSw => fun j v hj => (World.cell?_of_block (w := w2) (a := ⟨b, o + j, none⟩) (hSw.block b (Nat.lt_of_lt_of_le HBL.out HB4.out.size) (by have := HBL.out; omega))).trans (posts_range HLP.out j v hj)) Tryd.underlying27 rfl ?hi7) (by assumption) ?rest7
  case hi7 => kernel_rfl
  simp only [Act.put, List.getElem_toArray, List.getElem_cons_zero, List.getElem_cons_succ, List.setIfInBounds_toArray, List.set_cons_zero, List.set_cons_succ]
  refine wpAnyH_two_stores (i := 8) (j := 9) (w.heap.size + 1) (w.heap.size + 1 + 1) #[.slice (some ⟨b, o + 4, none⟩) (n - 1) (cap - 1)] #[.int .i64 p.dev, .int .u32 p.at_, .int .i64 p.n, .int .u32 p.val] #[.slice none 0 0] #[.int .i64 0, .int .u32 0, .int .i64 0, .int .u32 0] 24 27 rfl rfl (by kernel_rfl) (by kernel_rfl) rfl rfl rfl rfl 24 27 _ _ _ _ rfl rfl rfl rfl rfl rfl K2.out K3.out (by kernel_rfl) (by kernel_rfl) rfl rfl HO6.out HO7.out (by omega) hHeld ?_
  intro wz hx hk1 hk2
  clear hHeld
  try simp only [List.setIfInBounds_toArray, List.set_cons_zero, List.set_cons_succ]
  refine wpAnyH_take (i := 10) (v := ?v10) rfl (by kernel_rfl) (by kernel_rfl) (by kernel_rfl) (fun _ _ _ h => h) (Or.inl ⟨by rfl, ?hy10⟩) (by assumption) ?rest10
  case hy10 => (intro W hSw; go_simp; first | done | with_reducible rfl)
  simp only [Act.put, List.getElem_toArray, List.getElem_cons_zero, List.getElem_cons_succ, List.setIfInBounds_toArray, List.set_cons_zero, List.set_cons_succ]
  refine wpAnyH_done (by kernel_rfl) ?_ _
  have HBz := Lib.hid (HB4.out.trans (hx.below (B := w.heap.size) (fun k hk e => by omega) HB4.out.size))
  have HZ1 := Lib.hid hk1
  have HZ2 := Lib.hid hk2
  clear hx hk1 hk2
  go_wp2_with fail
  exact bodyPost_ret (v := .tuple #[.agg #[.slice (some ⟨b, o + 4, none⟩) (n - 1) (cap - 1)], .agg #[.int .i64 p.dev, .int .u32 p.at_, .int .i64 p.n, .int .u32 p.val], .int .i64 0]) (results_2cell_tmp Tryd.results12 _ _ (w.heap.size + 1) (w.heap.size + 1 + 1) 24 27 #[.slice (some ⟨b, o + 4, none⟩) (n - 1) (cap - 1)] #[.int .i64 p.dev, .int .u32 p.at_, .int .i64 p.n, .int .u32 p.val] (0, 0) (0, 0) _ _ rfl rfl HZ1.out HZ2.out Tryd.underlying24 rfl (by kernel_rfl) Tryd.underlying27 rfl (by kernel_rfl)) rfl ⟨rfl, HBz.out⟩
set_option maxRecDepth 100000 in
set_option maxHeartbeats 4000000 in
theorem ref7_pop_one (b o : Nat) (p : Pst) (l : List Pst) (hn : 1 = l.length + 1) (w : World) (hp : PostsAt w (some ⟨b, o, none⟩) (p :: l)) (hwf : ∀ (k : Nat) (q : Pst), (p :: l)[k]? = some q → q.wf) (hq : queueOk (p :: l))  :
    Calls Tryd.prog 12 #[.agg #[.slice (some ⟨b, o, none⟩) 1 1]] w fun e w' => e = .returned (.tuple #[.agg #[.slice (some ⟨b, o, none⟩) 0 0], .agg #[.int .i64 p.dev, .int .u32 p.at_, .int .i64 p.n, .int .u32 p.val], .int .i64 0]) ∧ Below w.heap.size w w' := by
  have HP := Lib.hid hp
  have HWF := Lib.hid hwf
  have HQ := Lib.hid hq
  have HN := Lib.hid hn
  clear hp hwf hq hn
  obtain ⟨k0, k1, k2, hb0⟩ := new3 w (.cells #[.slice (some ⟨b, o, none⟩) 1 1] 24) (.cells #[.slice none 0 0] 24) (.cells #[.int .i64 0, .int .u32 0, .int .i64 0, .int .u32 0] 27)
  have K0a := Lib.hid k0
  have K1a := Lib.hid k1
  have K2a := Lib.hid k2
  have HB0a := Lib.hid hb0
  clear k0 k1 k2 hb0
  have HC : Hid (∀ W, Below w.heap.size w W → Calls Tryd.prog 16 #[.agg #[.slice (some ⟨b, o, none⟩) 1 1]] W fun e w' => e = .returned (.int .i64 0) ∧ Below W.heap.size W w') := Lib.hid (fun W hW => by have h := ref7_Check_ok (some ⟨b, o, none⟩) (p :: l) 1 W (HP.out.below hW) HWF.out HQ.out; rw [List.length_cons, ← HN.out] at h; exact h)
  go_enter Tryd.func12, Tryd.ntmps12
  go_upto_region 1 with fail
  change Code.wp _ _ _ _ (((w.alloc (.cells #[.slice (some ⟨b, o, none⟩) 1 1] 24)).alloc (.cells #[.slice none 0 0] 24)).alloc (.cells #[.int .i64 0, .int .u32 0, .int .i64 0, .int .u32 0] 27))
  generalize (((w.alloc (.cells #[.slice (some ⟨b, o, none⟩) 1 1] 24)).alloc (.cells #[.slice none 0 0] 24)).alloc (.cells #[.int .i64 0, .int .u32 0, .int .i64 0, .int .u32 0] 27)) = w1 at K0a K1a K2a HB0a ⊢
  go_wp2_with (first | go_skip | (refine wpList_load_row rfl 24 _ rfl (w.heap.size) rfl 24 #[.slice (some ⟨b, o, none⟩) 1 1] (0, 0) _ K0a.out Tryd.underlying24 rfl (by kernel_rfl) ?_))
  refine (HC.out _ HB0a.out).mono ?_
  rintro e w2 ⟨rfl, hb⟩
  have K1 := Lib.hid (keepB K0a.out hb)
  clear K0a
  have K2 := Lib.hid (keepB K1a.out hb)
  clear K1a
  have K3 := Lib.hid (keepB K2a.out hb)
  clear K2a
  have HB4 := Lib.hid (HB0a.out.trans (hb.mono HB0a.out.size))
  clear HB0a
  clear hb HC
  have cf5 := (cell_of_row _ _ 0 _ _ _ K1.out).trans (rfl : _ = some (.slice (some ⟨b, o, none⟩) 1 1 : Value))
  go_upto_region 5 with fail
  clear cf5
  have HO6 := Lib.hid (show (#[.slice (some ⟨b, o, none⟩) 0 0] : Array Value).all (·.oneCell') = true from by simp [Value.oneCell'])
  have HO7 := Lib.hid (show (#[.int .i64 p.dev, .int .u32 p.at_, .int .i64 p.n, .int .u32 p.val] : Array Value).all (·.oneCell') = true from by simp [Value.oneCell'])
  have HLP := Lib.hid (HP.out.below HB4.out)
  have HBL : Hid (b < w.heap.size) := Lib.hid (by
    obtain ⟨b', o', h1, h2, _⟩ := HP.out 0 p rfl
    obtain ⟨rfl, _⟩ : b = b' ∧ o = o' := by simpa using h1
    exact h2)
  refine wp_region_held_drew (S := KX (fun k => k = w.heap.size + 1 ∨ k = w.heap.size + 1 + 1) w2) (by kernel_rfl) ((KX.refl (fun k => k = w.heap.size + 1 ∨ k = w.heap.size + 1 + 1) w2).drew) (fun hHeld => ?_)
  refine wpAnyH_take (i := 0) (v := ?v0) rfl (by kernel_rfl) (by kernel_rfl) (by kernel_rfl) (fun _ _ _ h => h) (Or.inl ⟨by rfl, ?hy0⟩) (by assumption) ?rest0
  case hy0 => (intro W hSw; go_simp; first | done | with_reducible rfl)
  simp only [Act.put, List.getElem_toArray, List.getElem_cons_zero, List.setIfInBounds_toArray, List.set_cons_zero, List.set_cons_succ]
  refine wpAnyH_take (i := 1) (v := ?v1) rfl (by kernel_rfl) (by kernel_rfl) (by kernel_rfl) (fun _ _ _ h => h) (Or.inl ⟨by rfl, ?hy1⟩) (by assumption) ?rest1
  case hy1 => (intro W hSw; have cj := (cell_of_row _ _ 0 _ _ _ (hSw.heap K1.out (by omega))).trans (rfl : _ = some (.slice (some ⟨b, o, none⟩) 1 1 : Value)); go_simp; first | done | with_reducible rfl)
  simp only [Act.put, List.getElem_toArray, List.getElem_cons_zero, List.getElem_cons_succ, List.setIfInBounds_toArray, List.set_cons_zero, List.set_cons_succ]
  refine wpAnyH_take (i := 2) (v := ?v2) rfl (by kernel_rfl) (by kernel_rfl) (by kernel_rfl) (fun _ _ _ h => h) (Or.inl ⟨by rfl, ?hy2⟩) (by assumption) ?rest2
  case hy2 => (intro W hSw; go_simp; first | done | with_reducible rfl)
  simp only [Act.put, List.getElem_toArray, List.getElem_cons_zero, List.getElem_cons_succ, List.setIfInBounds_toArray, List.set_cons_zero, List.set_cons_succ]
  refine wpAnyH_take (i := 3) (v := ?v3) rfl (by kernel_rfl) (by kernel_rfl) (by kernel_rfl) (fun _ _ _ h => h) (Or.inl ⟨by rfl, ?hy3⟩) (by assumption) ?rest3
  case hy3 => (intro W hSw; go_simp; first | done | with_reducible rfl)
  simp only [Act.put, List.getElem_toArray, List.getElem_cons_zero, List.getElem_cons_succ, List.setIfInBounds_toArray, List.set_cons_zero, List.set_cons_succ]
  refine wpAnyH_take (i := 4) (v := ?v4) rfl (by kernel_rfl) (by kernel_rfl) (by kernel_rfl) (fun _ _ _ h => h) (Or.inl ⟨by rfl, ?hy4⟩) (by assumption) ?rest4
  case hy4 => (intro W hSw; go_simp; first | done | with_reducible rfl)
  simp only [Act.put, List.getElem_toArray, List.getElem_cons_zero, List.getElem_cons_succ, List.setIfInBounds_toArray, List.set_cons_zero, List.set_cons_succ]
  refine wpAnyH_take (i := 5) (v := ?v5) rfl (by kernel_rfl) (by kernel_rfl) (by kernel_rfl) (fun _ _ _ h => h) (Or.inl ⟨by rfl, ?hy5⟩) (by assumption) ?rest5
  case hy5 => (intro W hSw; have cj := (cell_of_row _ _ 0 _ _ _ (hSw.heap K1.out (by omega))).trans (rfl : _ = some (.slice (some ⟨b, o, none⟩) 1 1 : Value)); go_simp; first | done | with_reducible rfl)
  simp only [Act.put, List.getElem_toArray, List.getElem_cons_zero, List.getElem_cons_succ, List.setIfInBounds_toArray, List.set_cons_zero, List.set_cons_succ]
  refine wpAnyH_take (i := 6) (v := ?v6) rfl (by kernel_rfl) (by kernel_rfl) (by kernel_rfl) (fun _ _ _ h => h) (Or.inl ⟨by rfl, ?hy6⟩) (by assumption) ?rest6
  case hy6 => (intro W hSw; go_simp; first | done | with_reducible rfl)
  simp only [Act.put, List.getElem_toArray, List.getElem_cons_zero, List.getElem_cons_succ, List.setIfInBounds_toArray, List.set_cons_zero, List.set_cons_succ]
  refine wpAnyH_take (i := 7) rfl (by kernel_rfl) (by kernel_rfl) (by kernel_rfl) (fun _ _ _ h => h) (yieldsIf_load_mid (by rfl) 27 _ rfl b o rfl p.c.toList _ (fun W hSw => fun j v hj => (World.cell?_of_block (w := w2) (a := ⟨b, o + j, none⟩) (hSw.block b (Nat.lt_of_lt_of_le HBL.out HB4.out.size) (by have := HBL.out; omega))).trans (posts_range HLP.out j v hj)) Tryd.underlying27 rfl ?hi7) (by assumption) ?rest7
  case hi7 => kernel_rfl
  simp only [Act.put, List.getElem_toArray, List.getElem_cons_zero, List.getElem_cons_succ, List.setIfInBounds_toArray, List.set_cons_zero, List.set_cons_succ]
  refine wpAnyH_two_stores (i := 8) (j := 9) (w.heap.size + 1) (w.heap.size + 1 + 1) #[.slice (some ⟨b, o, none⟩) 0 0] #[.int .i64 p.dev, .int .u32 p.at_, .int .i64 p.n, .int .u32 p.val] #[.slice none 0 0] #[.int .i64 0, .int .u32 0, .int .i64 0, .int .u32 0] 24 27 rfl rfl (by kernel_rfl) (by kernel_rfl) rfl rfl rfl rfl 24 27 _ _ _ _ rfl rfl rfl rfl rfl rfl K2.out K3.out (by kernel_rfl) (by kernel_rfl) rfl rfl HO6.out HO7.out (by omega) hHeld ?_
  intro wz hx hk1 hk2
  clear hHeld
  try simp only [List.setIfInBounds_toArray, List.set_cons_zero, List.set_cons_succ]
  refine wpAnyH_take (i := 10) (v := ?v10) rfl (by kernel_rfl) (by kernel_rfl) (by kernel_rfl) (fun _ _ _ h => h) (Or.inl ⟨by rfl, ?hy10⟩) (by assumption) ?rest10
  case hy10 => (intro W hSw; go_simp; first | done | with_reducible rfl)
  simp only [Act.put, List.getElem_toArray, List.getElem_cons_zero, List.getElem_cons_succ, List.setIfInBounds_toArray, List.set_cons_zero, List.set_cons_succ]
  refine wpAnyH_done (by kernel_rfl) ?_ _
  have HBz := Lib.hid (HB4.out.trans (hx.below (B := w.heap.size) (fun k hk e => by omega) HB4.out.size))
  have HZ1 := Lib.hid hk1
  have HZ2 := Lib.hid hk2
  clear hx hk1 hk2
  go_wp2_with fail
  exact bodyPost_ret (v := .tuple #[.agg #[.slice (some ⟨b, o, none⟩) 0 0], .agg #[.int .i64 p.dev, .int .u32 p.at_, .int .i64 p.n, .int .u32 p.val], .int .i64 0]) (results_2cell_tmp Tryd.results12 _ _ (w.heap.size + 1) (w.heap.size + 1 + 1) 24 27 #[.slice (some ⟨b, o, none⟩) 0 0] #[.int .i64 p.dev, .int .u32 p.at_, .int .i64 p.n, .int .u32 p.val] (0, 0) (0, 0) _ _ rfl rfl HZ1.out HZ2.out Tryd.underlying24 rfl (by kernel_rfl) Tryd.underlying27 rfl (by kernel_rfl)) rfl ⟨rfl, HBz.out⟩
/-- A write less, of the document's queue. -/
theorem ref7_Pop (ao : Option Addr) (p : Pst) (l : List Pst) (cap : Nat) (w : World) (hp : PostsAt w ao (p :: l)) (hwf : ∀ (k : Nat) (q : Pst), (p :: l)[k]? = some q → q.wf) (hq : queueOk (p :: l)) (hcap : (p :: l).length ≤ cap) :
    Calls Tryd.prog 12 #[.agg #[.slice ao (p :: l).length cap]] w fun e w' => (∃ ao' cap', e = .returned (.tuple #[.agg #[.slice ao' l.length cap'], .agg #[.int .i64 p.dev, .int .u32 p.at_, .int .i64 p.n, .int .u32 p.val], .int .i64 0]) ∧ PostsAt w' ao' l) ∧ Below w.heap.size w w' := by
  obtain ⟨b, o, rfl, _⟩ := hp 0 p rfl
  rw [List.length_cons] at hcap ⊢
  by_cases hc : cap = 1
  · subst hc
    have hl : l = [] := List.eq_nil_of_length_eq_zero (by omega)
    subst hl
    refine (ref7_pop_one b o p [] rfl w hp hwf hq).mono ?_
    rintro e w' ⟨rfl, hb⟩
    exact ⟨⟨_, _, rfl, posts_nil _ _⟩, hb⟩
  · refine (ref7_pop_more b o p l (l.length + 1) cap rfl w hp hwf hq hcap hc).mono ?_
    rintro e w' ⟨rfl, hb⟩
    exact ⟨⟨_, _, rfl, (posts_tail hp).below hb⟩, hb⟩
end Go.Proofs.YtcmbnkmbaghkdaaDoor
