/-
pinnacelaw12.DmaRegs, walked: it answers true.
Condition: errors.errorType and the table of regions of package bus read as their texts lay them.
-/
import Derived.Test.YtcakcfeipfjmpaaDoorRegsR
import Derived.Test.YtcakcfeipfjmpaaDoorNum12
import Derived.Test.YtcakcfeipfjmpaaDoorDmaSure
import Derived.Test.YtcakcfeipfjmpaaDoorDmaEq
import Derived.Deep.RegionHeld
namespace Go.Proofs.YtcakcfeipfjmpaaDoor
open Go.RowKit

theorem regs_range {w : World} {g : Nat} {c : Array Value} {t : TypeId} {fr : Nat × Nat} (h : w.heap[g]? = some (.cells c t fr)) : w.rangeAt g 0 c.toList := fun j v hv => by
  rw [Nat.zero_add, cell_of_row _ _ j _ _ _ h]; simpa using hv
set_option maxRecDepth 100000 in
set_option maxHeartbeats 8000000 in
theorem dma_regs (s : Dst) (a v : Nat) (ha : a < 4294967296) (w : World) (he : ErrAt w) (hr : RegAt w) :
    Calls Tryd.prog 8 #[.agg s.c, .int .u32 a, .int .u32 v] w fun e w' => e = .returned (.bool true) ∧ Below w.heap.size w w' := by
  have HE := Lib.hid he
  have HR := Lib.hid hr
  have H1 := Lib.hid (fun W => dma_ReadAny s a W ha)
  have H2 := Lib.hid (fun W => ref12_ReadAny s a W)
  have H3 := Lib.hid (fun W => dma_WriteAny s a v W ha)
  have H4 := Lib.hid (fun W => ref12_WriteAny s a v W)
  have H5 := Lib.hid (fun W => dma_Check s W)
  have H6 := Lib.hid (fun W => ref12_Check s W)
  have HN := Lib.hid (fun W h => num12_of (s.rerr a) W h)
  have HN2 : Hid (∀ W, ErrAt W → Calls Tryd.prog 40 #[if s.okP then .nilIface else errV 1] W fun e w' => e = .returned (.int .i64 (if s.okP then 0 else 1)) ∧ Below W.heap.size W w') := Lib.hid (fun W h => by
    by_cases hok : s.okP
    · rw [if_pos hok, if_pos hok]; exact num12_nil W
    · rw [if_neg hok, if_neg hok]; exact num12_of 1 W h)
  generalize (if s.okP then Value.nilIface else errV 1) = ck at H5 HN2
  generalize (if s.okP then (0 : Int) else 1) = cn at H6 HN2
  obtain ⟨rv, hrv⟩ : ∃ rv, rv = s.rd a := ⟨_, rfl⟩
  obtain ⟨ev, hev⟩ : ∃ ev, ev = errV (s.rerr a) := ⟨_, rfl⟩
  obtain ⟨en, hen⟩ : ∃ en, en = s.rerr a := ⟨_, rfl⟩
  rw [← hrv, ← hev] at H1
  rw [← hrv, ← hen] at H2
  rw [← hev] at H3
  rw [← hen] at H4
  rw [← hev, ← hen] at HN
  generalize s.wrAny a v = y at H3 H4
  clear hrv hev hen he hr
  have KS := Lib.hid (heap_alloc_new w (.cells s.c 24))
  have HB := Lib.hid ((Below.refl w.heap.size w).alloc (Nat.le_refl _) (.cells s.c 24))
  go_enter Tryd.func8, Tryd.ntmps8
  go_wp2_with (refine wpList_load_row rfl 24 _ rfl w.heap.size rfl 24 s.c (0, 0) _ KS.out Tryd.underlying24 rfl rfl ?_)
  refine (H1.out _).mono ?_
  rintro e w1 ⟨rfl, hb⟩
  have KS1 := Lib.hid (keepB KS.out hb)
  have HB1 := Lib.hid (HB.out.trans (hb.mono HB.out.size))
  clear hb KS HB H1
  go_wp2_with (refine wpList_load_row rfl 24 _ rfl w.heap.size rfl 24 s.c (0, 0) _ KS1.out Tryd.underlying24 rfl rfl ?_)
  refine (H2.out _).mono ?_
  rintro e w2 ⟨rfl, hb⟩
  have KS2 := Lib.hid (keepB KS1.out hb)
  have HB2 := Lib.hid (HB1.out.trans (hb.mono HB1.out.size))
  clear hb KS1 HB1 H2
  go_wp2_with (refine wpList_load_row rfl 24 _ rfl w.heap.size rfl 24 s.c (0, 0) _ KS2.out Tryd.underlying24 rfl rfl ?_)
  refine (H3.out _).mono ?_
  rintro e w3 ⟨rfl, hb⟩
  have KS3 := Lib.hid (keepB KS2.out hb)
  have HB3 := Lib.hid (HB2.out.trans (hb.mono HB2.out.size))
  clear hb KS2 HB2 H3
  have HAL := Lib.hid ((Below.refl w3.heap.size w3).alloc (Nat.le_refl _) (.cells #[.int .u32 0, .int .u32 0, .int .u32 0, .int .u32 0, .int .u32 0, .bool false, .int .u32 0, .int .u32 0, .int .u32 0, .int .u32 0, .bool false] 33))
  have KA := Lib.hid (heap_alloc_new w3 (.cells #[.int .u32 0, .int .u32 0, .int .u32 0, .int .u32 0, .int .u32 0, .bool false, .int .u32 0, .int .u32 0, .int .u32 0, .int .u32 0, .bool false] 33))
  have HBA := Lib.hid (HB3.out.trans (HAL.out.mono HB3.out.size))
  have KS3a := Lib.hid (keepB KS3.out HAL.out)
  have KS3l := Lib.hid (lt_heap KS3.out)
  have HLW := Lib.hid HB3.out.size
  clear HAL HB3 KS3
  go_wp2_with (refine wpList_store_to rfl 33 _ _ rfl w3.heap.size y.c rfl rfl 33 #[.int .u32 0, .int .u32 0, .int .u32 0, .int .u32 0, .int .u32 0, .bool false, .int .u32 0, .int .u32 0, .int .u32 0, .int .u32 0, .bool false] KA.out (by kernel_rfl) rfl (Dst.c_one _) ?_)
  intro w4 hx hk
  have KS3b := Lib.hid (hx.out.heap KS3a.out (by have := KS3l.out; omega))
  have KN4 := Lib.hid hk
  have HBb4 := Lib.hid (HBA.out.trans (hx.out.below (B := w.heap.size) (fun k hl e => by have := HLW.out; omega) HBA.out.size))
  clear hx hk KA HBA HLW KS3a KS3l
  generalize w3.heap.size = b4 at KN4 ⊢
  go_wp2_with (refine wpList_load_row rfl 24 _ rfl w.heap.size rfl 24 s.c (0, 0) _ KS3b.out Tryd.underlying24 rfl rfl ?_)
  refine (H4.out _).mono ?_
  rintro e w5 ⟨rfl, hb⟩
  have KS5 := Lib.hid (keepB KS3b.out hb)
  have KN5 := Lib.hid (keepB KN4.out hb)
  have HB5 := Lib.hid (HBb4.out.trans (hb.mono HBb4.out.size))
  clear hb KS3b KN4 HBb4 H4
  have HAL := Lib.hid ((Below.refl w5.heap.size w5).alloc (Nat.le_refl _) (.cells #[.int .u32 0, .int .u32 0, .int .u32 0, .int .u32 0, .int .u32 0, .bool false, .int .u32 0, .int .u32 0, .int .u32 0, .int .u32 0, .bool false] 24))
  have KA := Lib.hid (heap_alloc_new w5 (.cells #[.int .u32 0, .int .u32 0, .int .u32 0, .int .u32 0, .int .u32 0, .bool false, .int .u32 0, .int .u32 0, .int .u32 0, .int .u32 0, .bool false] 24))
  have HBA := Lib.hid (HB5.out.trans (HAL.out.mono HB5.out.size))
  have KS5a := Lib.hid (keepB KS5.out HAL.out)
  have KS5l := Lib.hid (lt_heap KS5.out)
  have KN5a := Lib.hid (keepB KN5.out HAL.out)
  have KN5l := Lib.hid (lt_heap KN5.out)
  have HLW := Lib.hid HB5.out.size
  clear HAL HB5 KS5 KN5
  go_wp2_with (refine wpList_store_to rfl 24 _ _ rfl w5.heap.size y.c rfl rfl 24 #[.int .u32 0, .int .u32 0, .int .u32 0, .int .u32 0, .int .u32 0, .bool false, .int .u32 0, .int .u32 0, .int .u32 0, .int .u32 0, .bool false] KA.out (by kernel_rfl) rfl (Dst.c_one _) ?_)
  intro w6 hx hk
  have KS5b := Lib.hid (hx.out.heap KS5a.out (by have := KS5l.out; omega))
  have KN5b := Lib.hid (hx.out.heap KN5a.out (by have := KN5l.out; omega))
  have KN6 := Lib.hid hk
  have HBb6 := Lib.hid (HBA.out.trans (hx.out.below (B := w.heap.size) (fun k hl e => by have := HLW.out; omega) HBA.out.size))
  clear hx hk KA HBA HLW KS5a KS5l KN5a KN5l
  generalize w5.heap.size = b6 at KN6 ⊢
  go_upto_region 5 with fail
  have HS : Hid (∀ W W' : World, (W.heap[w.heap.size]? = some (.cells s.c 24 (0, 0)) ∧ W.heap[b4]? = some (.cells y.c 33 (0, 0)) ∧ W.heap[b6]? = some (.cells y.c 24 (0, 0)) ∧ Below w.heap.size w W) → Below W.heap.size W W' → (W'.heap[w.heap.size]? = some (.cells s.c 24 (0, 0)) ∧ W'.heap[b4]? = some (.cells y.c 33 (0, 0)) ∧ W'.heap[b6]? = some (.cells y.c 24 (0, 0)) ∧ Below w.heap.size w W')) := Lib.hid (fun W W' h hb => ⟨keepB h.1 hb, keepB h.2.1 hb, keepB h.2.2.1 hb, h.2.2.2.trans (hb.mono h.2.2.2.size)⟩)
  have HEQ : Hid (∀ W, (binOp BinOp.eql 33 (.agg y.c) (.agg y.c)).run Tryd.prog W = .ok (.bool true) W) := Lib.hid (fun W => by rw [dst_eql]; simp)
  refine wp_region_held_drew (S := fun W => W.heap[w.heap.size]? = some (.cells s.c 24 (0, 0)) ∧ W.heap[b4]? = some (.cells y.c 33 (0, 0)) ∧ W.heap[b6]? = some (.cells y.c 24 (0, 0)) ∧ Below w.heap.size w W) (by kernel_rfl) (And.intro KS5b.out (And.intro KN5b.out (And.intro KN6.out HBb6.out.drew))) (fun hH0 => ?_)
  clear KS5b KN5b KN6 HBb6
  refine wpAnyH_take (i := 0) (v := ?v0) rfl (by kernel_rfl) (by kernel_rfl) (by kernel_rfl) (fun _ _ _ h => h) (Or.inl ⟨by rfl, ?hy0⟩) (by assumption) ?rest0
  case hy0 => (intro W hSw; go_simp; first | done | with_reducible rfl)
  simp only [Act.put, List.getElem_toArray, List.getElem_cons_zero, List.setIfInBounds_toArray, List.set_cons_zero, List.set_cons_succ]
  refine wpAnyH_take (i := 1) (v := ?v1) rfl (by kernel_rfl) (by kernel_rfl) (by kernel_rfl) (fun _ _ _ h => h) (Or.inl ⟨by rfl, ?hy1⟩) (by assumption) ?rest1
  case hy1 => (intro W hSw; go_simp; first | done | with_reducible rfl)
  simp only [Act.put, List.getElem_toArray, List.getElem_cons_zero, List.getElem_cons_succ, List.setIfInBounds_toArray, List.set_cons_zero, List.set_cons_succ]
  refine wpAnyH_take (i := 2) (v := ?v2) rfl (by kernel_rfl) (by kernel_rfl) (by kernel_rfl) (fun _ _ _ h => h) (Or.inl ⟨by rfl, ?hy2⟩) (by assumption) ?rest2
  case hy2 => (intro W hSw; go_simp; first | done | with_reducible rfl)
  simp only [Act.put, List.getElem_toArray, List.getElem_cons_zero, List.getElem_cons_succ, List.setIfInBounds_toArray, List.set_cons_zero, List.set_cons_succ]
  refine wpAnyH_take (i := 3) (v := ?v3) rfl (by kernel_rfl) (by kernel_rfl) (by kernel_rfl) (fun _ _ _ h => h) (Or.inl ⟨by rfl, ?hy3⟩) (by assumption) ?rest3
  case hy3 => (intro W hSw; go_simp; first | done | with_reducible rfl)
  simp only [Act.put, List.getElem_toArray, List.getElem_cons_zero, List.getElem_cons_succ, List.setIfInBounds_toArray, List.set_cons_zero, List.set_cons_succ]
  refine wpAnyH_take (i := 4) (v := ?v4) rfl (by kernel_rfl) (by kernel_rfl) (by kernel_rfl) (fun _ _ _ h => h) (Or.inl ⟨by rfl, ?hy4⟩) (by assumption) ?rest4
  case hy4 => (intro W hSw; go_simp; first | done | with_reducible rfl)
  simp only [Act.put, List.getElem_toArray, List.getElem_cons_zero, List.getElem_cons_succ, List.setIfInBounds_toArray, List.set_cons_zero, List.set_cons_succ]
  refine wpAnyH_take (i := 6) (v := ?v6) rfl (by kernel_rfl) (by kernel_rfl) (by kernel_rfl) (fun _ _ _ h => h) (Or.inl ⟨by rfl, ?hy6⟩) (by assumption) ?rest6
  case hy6 => (intro W hSw; go_simp; first | done | with_reducible rfl)
  simp only [Act.put, List.getElem_toArray, List.getElem_cons_zero, List.getElem_cons_succ, List.setIfInBounds_toArray, List.set_cons_zero, List.set_cons_succ]
  refine wpAnyH_ready (rs := [5]) (by kernel_rfl) (by simp) ?_
  refine AllReadyH.cons (o := _) rfl (fun K hK => ?_) (AllReadyH.nil)
  simp only [List.getElem_toArray, List.getElem_cons_zero, List.getElem_cons_succ]
  go_simp
  refine (HN.out _ (HE.out.below hH0.2.2.2)).mono ?_
  rintro e w20 ⟨rfl, hb⟩
  refine hK.out _ _ (HS.out _ _ hH0 hb) (fun hH1 => ?_)
  clear hK K hH0 hb
  try simp only [Act.put, List.setIfInBounds_toArray, List.set_cons_zero, List.set_cons_succ]
  refine wpAnyH_take (i := 7) (v := ?v7) rfl (by kernel_rfl) (by kernel_rfl) (by kernel_rfl) (fun _ _ _ h => h) (Or.inl ⟨by rfl, ?hy7⟩) (by assumption) ?rest7
  case hy7 => (intro W hSw; go_simp; first | done | with_reducible rfl)
  simp only [Act.put, List.getElem_toArray, List.getElem_cons_zero, List.getElem_cons_succ, List.setIfInBounds_toArray, List.set_cons_zero, List.set_cons_succ]
  refine wpAnyH_take (i := 8) (v := ?v8) rfl (by kernel_rfl) (by kernel_rfl) (by kernel_rfl) (fun _ _ _ h => h) (Or.inl ⟨by rfl, ?hy8⟩) (by assumption) ?rest8
  case hy8 => (intro W hSw; go_simp; first | done | with_reducible rfl)
  simp only [Act.put, List.getElem_toArray, List.getElem_cons_zero, List.getElem_cons_succ, List.setIfInBounds_toArray, List.set_cons_zero, List.set_cons_succ]
  refine wpAnyH_take (i := 9) (v := ?v9) rfl (by kernel_rfl) (by kernel_rfl) (by kernel_rfl) (fun _ _ _ h => h) (Or.inl ⟨by rfl, ?hy9⟩) (by assumption) ?rest9
  case hy9 => (intro W hSw; go_simp; first | done | with_reducible rfl)
  simp only [Act.put, List.getElem_toArray, List.getElem_cons_zero, List.getElem_cons_succ, List.setIfInBounds_toArray, List.set_cons_zero, List.set_cons_succ]
  refine wpAnyH_take (i := 10) rfl (by kernel_rfl) (by kernel_rfl) (by kernel_rfl) (fun _ _ _ h => h) (yieldsIf_load_mid (by rfl) 33 _ rfl (b4) 0 rfl _ _ (fun W hSw => regs_range (hSw.2.1)) Tryd.underlying33 rfl ?hi10) (by assumption) ?rest10
  case hi10 => rfl
  simp only [Act.put, List.getElem_toArray, List.getElem_cons_zero, List.getElem_cons_succ, List.setIfInBounds_toArray, List.set_cons_zero, List.set_cons_succ]
  refine wpAnyH_take (i := 11) rfl (by kernel_rfl) (by kernel_rfl) (by kernel_rfl) (fun _ _ _ h => h) (yieldsIf_load_mid (by rfl) 24 _ rfl (b6) 0 rfl _ _ (fun W hSw => regs_range (hSw.2.2.1)) Tryd.underlying24 rfl ?hi11) (by assumption) ?rest11
  case hi11 => rfl
  simp only [Act.put, List.getElem_toArray, List.getElem_cons_zero, List.getElem_cons_succ, List.setIfInBounds_toArray, List.set_cons_zero, List.set_cons_succ]
  refine wpAnyH_take (i := 12) (v := ?v12) rfl (by kernel_rfl) (by kernel_rfl) (by kernel_rfl) (fun _ _ _ h => h) (Or.inl ⟨by rfl, ?hy12⟩) (by assumption) ?rest12
  case hy12 => (intro W hSw; have heq := HEQ.out; go_simp; first | done | with_reducible rfl)
  simp only [Act.put, List.getElem_toArray, List.getElem_cons_zero, List.getElem_cons_succ, List.setIfInBounds_toArray, List.set_cons_zero, List.set_cons_succ]
  refine wpAnyH_take (i := 13) (v := ?v13) rfl (by kernel_rfl) (by kernel_rfl) (by kernel_rfl) (fun _ _ _ h => h) (Or.inl ⟨by rfl, ?hy13⟩) (by assumption) ?rest13
  case hy13 => (intro W hSw; go_simp; first | done | with_reducible rfl)
  simp only [Act.put, List.getElem_toArray, List.getElem_cons_zero, List.getElem_cons_succ, List.setIfInBounds_toArray, List.set_cons_zero, List.set_cons_succ]
  refine wpAnyH_take (i := 14) (v := ?v14) rfl (by kernel_rfl) (by kernel_rfl) (by kernel_rfl) (fun _ _ _ h => h) (Or.inl ⟨by rfl, ?hy14⟩) (by assumption) ?rest14
  case hy14 => (intro W hSw; go_simp; first | done | with_reducible rfl)
  simp only [Act.put, List.getElem_toArray, List.getElem_cons_zero, List.getElem_cons_succ, List.setIfInBounds_toArray, List.set_cons_zero, List.set_cons_succ]
  refine wpAnyH_take (i := 15) (v := ?v15) rfl (by kernel_rfl) (by kernel_rfl) (by kernel_rfl) (fun _ _ _ h => h) (Or.inl ⟨by rfl, ?hy15⟩) (by assumption) ?rest15
  case hy15 => (intro W hSw; go_simp; first | done | with_reducible rfl)
  simp only [Act.put, List.getElem_toArray, List.getElem_cons_zero, List.getElem_cons_succ, List.setIfInBounds_toArray, List.set_cons_zero, List.set_cons_succ]
  refine wpAnyH_take (i := 17) (v := ?v17) rfl (by kernel_rfl) (by kernel_rfl) (by kernel_rfl) (fun _ _ _ h => h) (Or.inl ⟨by rfl, ?hy17⟩) (by assumption) ?rest17
  case hy17 => (intro W hSw; go_simp; first | done | with_reducible rfl)
  simp only [Act.put, List.getElem_toArray, List.getElem_cons_zero, List.getElem_cons_succ, List.setIfInBounds_toArray, List.set_cons_zero, List.set_cons_succ]
  refine wpAnyH_ready (rs := [16]) (by kernel_rfl) (by simp) ?_
  refine AllReadyH.cons (o := _) rfl (fun K hK => ?_) (AllReadyH.nil)
  simp only [List.getElem_toArray, List.getElem_cons_zero, List.getElem_cons_succ]
  go_simp
  refine (HN.out _ (HE.out.below hH1.2.2.2)).mono ?_
  rintro e w21 ⟨rfl, hb⟩
  refine hK.out _ _ (HS.out _ _ hH1 hb) (fun hH2 => ?_)
  clear hK K hH1 hb
  try simp only [Act.put, List.setIfInBounds_toArray, List.set_cons_zero, List.set_cons_succ]
  refine wpAnyH_take (i := 18) (v := ?v18) rfl (by kernel_rfl) (by kernel_rfl) (by kernel_rfl) (fun _ _ _ h => h) (Or.inl ⟨by rfl, ?hy18⟩) (by assumption) ?rest18
  case hy18 => (intro W hSw; go_simp; first | done | with_reducible rfl)
  simp only [Act.put, List.getElem_toArray, List.getElem_cons_zero, List.getElem_cons_succ, List.setIfInBounds_toArray, List.set_cons_zero, List.set_cons_succ]
  refine wpAnyH_take (i := 19) (v := ?v19) rfl (by kernel_rfl) (by kernel_rfl) (by kernel_rfl) (fun _ _ _ h => h) (Or.inl ⟨by rfl, ?hy19⟩) (by assumption) ?rest19
  case hy19 => (intro W hSw; go_simp; first | done | with_reducible rfl)
  simp only [Act.put, List.getElem_toArray, List.getElem_cons_zero, List.getElem_cons_succ, List.setIfInBounds_toArray, List.set_cons_zero, List.set_cons_succ]
  refine wpAnyH_take (i := 20) (v := ?v20) rfl (by kernel_rfl) (by kernel_rfl) (by kernel_rfl) (fun _ _ _ h => h) (Or.inl ⟨by rfl, ?hy20⟩) (by assumption) ?rest20
  case hy20 => (intro W hSw; go_simp; first | done | with_reducible rfl)
  simp only [Act.put, List.getElem_toArray, List.getElem_cons_zero, List.getElem_cons_succ, List.setIfInBounds_toArray, List.set_cons_zero, List.set_cons_succ]
  refine wpAnyH_take (i := 21) rfl (by kernel_rfl) (by kernel_rfl) (by kernel_rfl) (fun _ _ _ h => h) (yieldsIf_load_mid (by rfl) 24 _ rfl (w.heap.size) 0 rfl _ _ (fun W hSw => regs_range (hSw.1)) Tryd.underlying24 rfl ?hi21) (by assumption) ?rest21
  case hi21 => rfl
  simp only [Act.put, List.getElem_toArray, List.getElem_cons_zero, List.getElem_cons_succ, List.setIfInBounds_toArray, List.set_cons_zero, List.set_cons_succ]
  refine wpAnyH_take (i := 24) rfl (by kernel_rfl) (by kernel_rfl) (by kernel_rfl) (fun _ _ _ h => h) (yieldsIf_load_mid (by rfl) 24 _ rfl (w.heap.size) 0 rfl _ _ (fun W hSw => regs_range (hSw.1)) Tryd.underlying24 rfl ?hi24) (by assumption) ?rest24
  case hi24 => rfl
  simp only [Act.put, List.getElem_toArray, List.getElem_cons_zero, List.getElem_cons_succ, List.setIfInBounds_toArray, List.set_cons_zero, List.set_cons_succ]
  refine wpAnyH_ready (rs := [22]) (by kernel_rfl) (by simp) ?_
  refine AllReadyH.cons (o := _) rfl (fun K hK => ?_) (AllReadyH.nil)
  simp only [List.getElem_toArray, List.getElem_cons_zero, List.getElem_cons_succ]
  go_simp
  refine (H5.out _).mono ?_
  rintro e w22 ⟨rfl, hb⟩
  refine hK.out _ _ (HS.out _ _ hH2 hb) (fun hH3 => ?_)
  clear hK K hH2 hb
  try simp only [Act.put, List.setIfInBounds_toArray, List.set_cons_zero, List.set_cons_succ]
  refine wpAnyH_ready (rs := [23]) (by kernel_rfl) (by simp) ?_
  refine AllReadyH.cons (o := _) rfl (fun K hK => ?_) (AllReadyH.nil)
  simp only [List.getElem_toArray, List.getElem_cons_zero, List.getElem_cons_succ]
  go_simp
  refine (HN2.out _ (HE.out.below hH3.2.2.2)).mono ?_
  rintro e w23 ⟨rfl, hb⟩
  refine hK.out _ _ (HS.out _ _ hH3 hb) (fun hH4 => ?_)
  clear hK K hH3 hb
  try simp only [Act.put, List.setIfInBounds_toArray, List.set_cons_zero, List.set_cons_succ]
  refine wpAnyH_ready (rs := [25]) (by kernel_rfl) (by simp) ?_
  refine AllReadyH.cons (o := _) rfl (fun K hK => ?_) (AllReadyH.nil)
  simp only [List.getElem_toArray, List.getElem_cons_zero, List.getElem_cons_succ]
  go_simp
  refine (H6.out _).mono ?_
  rintro e w24 ⟨rfl, hb⟩
  refine hK.out _ _ (HS.out _ _ hH4 hb) (fun hH5 => ?_)
  clear hK K hH4 hb
  try simp only [Act.put, List.setIfInBounds_toArray, List.set_cons_zero, List.set_cons_succ]
  refine wpAnyH_take (i := 26) (v := ?v26) rfl (by kernel_rfl) (by kernel_rfl) (by kernel_rfl) (fun _ _ _ h => h) (Or.inl ⟨by rfl, ?hy26⟩) (by assumption) ?rest26
  case hy26 => (intro W hSw; go_simp; first | done | with_reducible rfl)
  simp only [Act.put, List.getElem_toArray, List.getElem_cons_zero, List.getElem_cons_succ, List.setIfInBounds_toArray, List.set_cons_zero, List.set_cons_succ]
  refine wpAnyH_take (i := 27) (v := ?v27) rfl (by kernel_rfl) (by kernel_rfl) (by kernel_rfl) (fun _ _ _ h => h) (Or.inl ⟨by rfl, ?hy27⟩) (by assumption) ?rest27
  case hy27 => (intro W hSw; go_simp; first | done | with_reducible rfl)
  simp only [Act.put, List.getElem_toArray, List.getElem_cons_zero, List.getElem_cons_succ, List.setIfInBounds_toArray, List.set_cons_zero, List.set_cons_succ]
  refine wpAnyH_take (i := 28) (v := ?v28) rfl (by kernel_rfl) (by kernel_rfl) (by kernel_rfl) (fun _ _ _ h => h) (Or.inl ⟨by rfl, ?hy28⟩) (by assumption) ?rest28
  case hy28 => (intro W hSw; go_simp; first | done | with_reducible rfl)
  simp only [Act.put, List.getElem_toArray, List.getElem_cons_zero, List.getElem_cons_succ, List.setIfInBounds_toArray, List.set_cons_zero, List.set_cons_succ]
  refine wpAnyH_ready (rs := [29]) (by kernel_rfl) (by simp) ?_
  refine AllReadyH.cons (o := _) rfl (fun K hK => ?_) (AllReadyH.nil)
  simp only [List.getElem_toArray, List.getElem_cons_zero, List.getElem_cons_succ]
  go_simp
  refine (dma_sure _ (HR.out.below hH5.2.2.2)).mono ?_
  rintro e w25 ⟨rfl, hb⟩
  refine hK.out _ _ (HS.out _ _ hH5 hb) (fun hH6 => ?_)
  clear hK K hH5 hb
  try simp only [Act.put, List.setIfInBounds_toArray, List.set_cons_zero, List.set_cons_succ]
  refine wpAnyH_take (i := 30) (v := ?v30) rfl (by kernel_rfl) (by kernel_rfl) (by kernel_rfl) (fun _ _ _ h => h) (Or.inl ⟨by rfl, ?hy30⟩) (by assumption) ?rest30
  case hy30 => (intro W hSw; go_simp; first | done | with_reducible rfl)
  simp only [Act.put, List.getElem_toArray, List.getElem_cons_zero, List.getElem_cons_succ, List.setIfInBounds_toArray, List.set_cons_zero, List.set_cons_succ]
  refine wpAnyH_take (i := 31) (v := ?v31) rfl (by kernel_rfl) (by kernel_rfl) (by kernel_rfl) (fun _ _ _ h => h) (Or.inl ⟨by rfl, ?hy31⟩) (by assumption) ?rest31
  case hy31 => (intro W hSw; go_simp; first | done | with_reducible rfl)
  simp only [Act.put, List.getElem_toArray, List.getElem_cons_zero, List.getElem_cons_succ, List.setIfInBounds_toArray, List.set_cons_zero, List.set_cons_succ]
  refine wpAnyH_done (by kernel_rfl) ?_ _
  go_wp2_with fail
  go_ret
  exact ⟨rfl, hH6.2.2.2⟩
end Go.Proofs.YtcakcfeipfjmpaaDoor
