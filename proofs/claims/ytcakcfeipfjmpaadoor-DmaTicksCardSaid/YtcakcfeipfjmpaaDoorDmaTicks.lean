/-
pinnacelaw12.DmaTicks, walked: it answers true.
Condition: the table of regions of package bus reads as its text lays it.
-/
import Derived.Test.YtcakcfeipfjmpaaDoorLawKit
import Derived.Test.YtcakcfeipfjmpaaDoorDmaKeep
import Derived.Test.YtcakcfeipfjmpaaDoorRefTick2
import Derived.Deep.CutRange
import Derived.Deep.RegionHeld
namespace Go.Proofs.YtcakcfeipfjmpaaDoor
open Go.RowKit

/-- A law's own boxes beside memory. -/
def FX (F : Nat → Prop) (a b c : Nat) : Nat → Prop := fun k => F k ∨ k = a ∨ k = b ∨ k = c
theorem tick_wf (s : Dst) (m : Mm) (hs : s.wf) : (s.tick m).wf := by
  by_cases hok : s.okP
  · exact (tick_kept s m hs hok).wf
  · have e1 : s.tick m = s := by unfold Dst.tick; rw [if_pos (fun h => hok h.ok)]
    rw [e1]; exact hs
theorem after_n (s : Dst) (m : Mm) : (s.after m).n = m.n := by
  unfold Dst.after Dst.wrote
  split
  · split
    · exact keep_write_n _ _ _
    · rfl
  · rfl
theorem FX_step {F F' : Nat → Prop} {a b c : Nat} {W W' : World} (h : MemStep F F' W W') : MemStep (FX F a b c) (FX F' a b c) W W' :=
  ⟨h.kx.mono (fun _ _ h => .inl h), fun k hk => hk.elim (fun h' => (h.gr k h').elim (fun h => .inl (.inl h)) .inr) (fun e => .inl (.inr e))⟩
set_option maxRecDepth 100000 in
set_option maxHeartbeats 8000000 in
theorem dma_ticks (s : Dst) (hs : s.wf) (p : Option Addr) (l : List (Nat × Nat)) (cap : Nat) (tk : Int) (w : World) (hl : PairsL w p l) (hmax : l.length ≤ maxLen) (hr : RegAt w) :
    Calls Tryd.prog 3 #[.agg s.c, .slice p l.length cap, .int .i64 tk] w fun e w' => e = .returned (.bool true) ∧ Below w.heap.size w w' := by
  have HRG := Lib.hid hr
  have HS := Lib.hid (heap_alloc_new w (.cells s.c 24))
  have HB0 := Lib.hid ((Below.refl w.heap.size w).alloc (Nat.le_refl _) (.cells s.c 24))
  have HBT := Lib.hid (both_ok p l cap (w.alloc (.cells s.c 24)) (hl.below HB0.out) hmax)
  have HSZ0 : Hid ((w.alloc (.cells s.c 24)).heap.size = w.heap.size + 1) := Lib.hid (by simp)
  clear hr hl hmax
  go_enter Tryd.func3, Tryd.ntmps3
  go_upto_region 1 with fail
  generalize w.alloc (.cells s.c 24) = w1 at HS HB0 HBT HSZ0 ⊢
  go_wp2_with fail
  refine (HBT.out).mono ?_
  rintro e w2 ⟨g, F2, v, rfl, hlm, hrf⟩
  clear HBT
  obtain ⟨C, rfl, hCs, hC1⟩ := hrf.form
  have HC1 := Lib.hid (And.intro hCs hC1)
  have hlt2 := hlm.fr.size
  have HLO : Hid (∀ k, F2 k → w.heap.size < k) := Lib.hid (fun k hk => by have := hlm.lo k hk; have := HSZ0.out; omega)
  have L2 : Hid (LawMem w w2 g (layL (l.take 40)) F2) := Lib.hid ⟨hlm.ram, fun k hk => by have := HLO.out k hk; omega, HB0.out.trans (hlm.fr.mono HB0.out.size)⟩
  have KS2 := Lib.hid (keepB HS.out hlm.fr)
  have R2 := Lib.hid hrf
  have HSZ2 : Hid (w.heap.size + 1 ≤ w2.heap.size) := Lib.hid (by have := HSZ0.out; omega)
  have HR1 : Hid (w1.heap.size = w.heap.size + 1) := HSZ0
  clear hlm hrf hCs hC1 hlt2 HS HB0 HSZ0
  have HAL := Lib.hid ((Below.refl w2.heap.size w2).alloc (Nat.le_refl _) (.cells #[.slice none 0 0, .slice none 0 0, .int .i64 0] 30))
  have KA := Lib.hid (heap_alloc_new w2 (.cells #[.slice none 0 0, .slice none 0 0, .int .i64 0] 30))
  have L3 := Lib.hid (L2.out.below HAL.out)
  have KS3 := Lib.hid (keepB KS2.out HAL.out)
  have HNX : Hid (¬ F2 w2.heap.size) := Lib.hid (fun hf => absurd (L2.out.ram.lt _ hf) (Nat.lt_irrefl _))
  have R3 : Hid (RefF (w2.alloc (.cells #[.slice none 0 0, .slice none 0 0, .int .i64 0] 30)) w1.heap.size (.agg C) (layL (l.take 40)) (fun k => F2 k ∨ k = w2.heap.size)) := Lib.hid (by
    obtain ⟨n1, n2, b1, c1, b2, c2, hv, h1, h2, h3, h4, h5, h6⟩ := R2.out
    exact ⟨n1, n2, b1, c1, b2, c2, hv, h1, h2, fun h => h.elim h3 (fun e => by have := h5.lt; omega), fun h => h.elim h4 (fun e => by have := h6.lt; omega), h5.below HAL.out, h6.below HAL.out⟩)
  clear R2 L2 KS2 HAL
  go_wp2_with (refine wpList_store_to rfl 30 _ _ rfl w2.heap.size C rfl rfl 30 #[.slice none 0 0, .slice none 0 0, .int .i64 0] KA.out (by rw [HC1.out.1]; kernel_rfl) (by rw [HC1.out.1]; rfl) HC1.out.2 ?_)
  intro w4 hx hk
  have L4 := Lib.hid (L3.out.own hx.out (by have := HSZ2.out; omega) HNX.out)
  have R4 := Lib.hid (R3.out.kx hx.out (fun k hk => .inl (.inr hk)))
  have KS4 := Lib.hid (hx.out.heap KS3.out (by have := HSZ2.out; omega))
  have KR4 := Lib.hid hk
  have HSZ4 : Hid (w.heap.size < w2.heap.size) := Lib.hid (by have := HSZ2.out; omega)
  rw [HR1.out] at R4
  clear hx hk L3 R3 KS3 KA HSZ2 HR1
  generalize w2.heap.size = bR at HNX R4 KR4 HSZ4 ⊢
  obtain ⟨m, hm⟩ : ∃ m, m = layL (l.take 40) := ⟨_, rfl⟩
  have HMN : Hid (m.n = 2) := Lib.hid (by rw [hm]; exact layL_n _)
  rw [← hm] at L4 R4
  clear hm
  have HSW := Lib.hid hs
  clear hs
  have HTN := Lib.hid (fun W => dma_Tick_none s W)
  have HNE : Hid (∀ (x : Dst) W, (binOp BinOp.neq 33 (.agg x.c) (.agg x.c)).run Tryd.prog W = .ok (.bool false) W) := Lib.hid (fun x W => by rw [dst_neq]; simp)
  go_upto_region 2 with fail
  refine wp_region_held_drew (S := fun W => Below w4.heap.size w4 W) (by kernel_rfl) ((Below.refl w4.heap.size w4).drew) (fun hH0 => ?_)
  refine wpAnyH_take (i := 0) (v := ?v0) rfl (by kernel_rfl) (by kernel_rfl) (by kernel_rfl) (fun _ _ _ h => h) (Or.inl ⟨by rfl, ?hy0⟩) (by assumption) ?rest0
  case hy0 => (intro W hSw; go_simp; first | done | with_reducible rfl)
  simp only [Act.put, List.getElem_toArray, List.getElem_cons_zero, List.setIfInBounds_toArray, List.set_cons_zero, List.set_cons_succ]
  refine wpAnyH_take (i := 1) (v := ?v1) rfl (by kernel_rfl) (by kernel_rfl) (by kernel_rfl) (fun _ _ _ h => h) (Or.inl ⟨by rfl, ?hy1⟩) (by assumption) ?rest1
  case hy1 => (intro W hSw; go_simp; first | done | with_reducible rfl)
  simp only [Act.put, List.getElem_toArray, List.getElem_cons_zero, List.getElem_cons_succ, List.setIfInBounds_toArray, List.set_cons_zero, List.set_cons_succ]
  refine wpAnyH_take (i := 2) (v := ?v2) rfl (by kernel_rfl) (by kernel_rfl) (by kernel_rfl) (fun _ _ _ h => h) (Or.inl ⟨by rfl, ?hy2⟩) (by assumption) ?rest2
  case hy2 => (intro W hSw; go_simp; first | done | with_reducible rfl)
  simp only [Act.put, List.getElem_toArray, List.getElem_cons_zero, List.getElem_cons_succ, List.setIfInBounds_toArray, List.set_cons_zero, List.set_cons_succ]
  refine wpAnyH_take (i := 3) rfl (by kernel_rfl) (by kernel_rfl) (by kernel_rfl) (fun _ _ _ h => h) (yieldsIf_load_mid (by rfl) 24 _ rfl (w.heap.size) 0 rfl s.c.toList _ (fun W hSw => range_of_all (keepB KS4.out hSw)) Tryd.underlying24 rfl ?hi3) (by assumption) ?rest3
  case hi3 => rfl
  simp only [Act.put, List.getElem_toArray, List.getElem_cons_zero, List.getElem_cons_succ, List.setIfInBounds_toArray, List.set_cons_zero, List.set_cons_succ]
  refine wpAnyH_take (i := 5) rfl (by kernel_rfl) (by kernel_rfl) (by kernel_rfl) (fun _ _ _ h => h) (yieldsIf_load_mid (by rfl) 24 _ rfl (w.heap.size) 0 rfl s.c.toList _ (fun W hSw => range_of_all (keepB KS4.out hSw)) Tryd.underlying24 rfl ?hi5) (by assumption) ?rest5
  case hi5 => rfl
  simp only [Act.put, List.getElem_toArray, List.getElem_cons_zero, List.getElem_cons_succ, List.setIfInBounds_toArray, List.set_cons_zero, List.set_cons_succ]
  refine wpAnyH_ready (rs := [4]) (by kernel_rfl) (by simp) ?_
  refine AllReadyH.cons (o := _) rfl (fun K hK => ?_) (AllReadyH.nil)
  simp only [List.getElem_toArray, List.getElem_cons_zero, List.getElem_cons_succ]
  go_simp
  refine (HTN.out _).mono ?_
  rintro e w5 ⟨rfl, hb⟩
  have HB5 := Lib.hid ((hH0.trans (hb.mono hH0.size)))
  refine hK.out _ _ HB5.out (fun hH1 => ?_)
  clear hK K hH0 hb
  try simp only [Act.put, List.setIfInBounds_toArray, List.set_cons_zero, List.set_cons_succ]
  refine wpAnyH_take (i := 6) (v := ?v6) rfl (by kernel_rfl) (by kernel_rfl) (by kernel_rfl) (fun _ _ _ h => h) (Or.inl ⟨by rfl, ?hy6⟩) (by assumption) ?rest6
  case hy6 => (intro W hSw; have hne := HNE.out s; go_simp; first | done | with_reducible rfl)
  simp only [Act.put, List.getElem_toArray, List.getElem_cons_zero, List.getElem_cons_succ, List.setIfInBounds_toArray, List.set_cons_zero, List.set_cons_succ]
  refine wpAnyH_take (i := 7) (v := ?v7) rfl (by kernel_rfl) (by kernel_rfl) (by kernel_rfl) (fun _ _ _ h => h) (Or.inl ⟨by rfl, ?hy7⟩) (by assumption) ?rest7
  case hy7 => (intro W hSw; go_simp; first | done | with_reducible rfl)
  simp only [Act.put, List.getElem_toArray, List.getElem_cons_zero, List.getElem_cons_succ, List.setIfInBounds_toArray, List.set_cons_zero, List.set_cons_succ]
  refine wpAnyH_done (by kernel_rfl) ?_ _
  clear hH1
  have L5 := Lib.hid (L4.out.below HB5.out)
  have R5 := Lib.hid (R4.out.below HB5.out)
  have KS5 := Lib.hid (keepB KS4.out HB5.out)
  have KR5 := Lib.hid (keepB KR4.out HB5.out)
  clear L4 R4 KS4 KR4 HB5 HTN
  go_upto_region 4 with fail
  go_cut [9, 10] from 27 to 28 (fun x y W => ∃ bX bY, x = .pointer (some ⟨bX, 0, none⟩) ∧ y = .pointer (some ⟨bY, 0, none⟩) ∧ bX ≠ bY ∧ w5.heap.size ≤ bX ∧ w5.heap.size ≤ bY ∧ W.heap[bX]? = some (.cells s.c 33 (0, 0)) ∧ W.heap[bY]? = some (.cells s.c 24 (0, 0)) ∧ Below w5.heap.size w5 W)
  case first =>
    refine wp_region_held_drew (S := fun W => Below w5.heap.size w5 W) (by kernel_rfl) ((Below.refl w5.heap.size w5).drew) (fun hH0 => ?_)
    refine wpAnyH_take (i := 0) rfl (by kernel_rfl) (by kernel_rfl) (by kernel_rfl) (fun _ _ _ h => h) (yieldsIf_load_mid (by rfl) 24 _ rfl (w.heap.size) 0 rfl s.c.toList _ (fun W hSw => range_of_all (keepB KS5.out hSw)) Tryd.underlying24 rfl ?hi0r) (by assumption) ?rest0r
    case hi0r => rfl
    simp only [Act.put, List.getElem_toArray, List.getElem_cons_zero, List.setIfInBounds_toArray, List.set_cons_zero, List.set_cons_succ]
    refine wpAnyH_take (i := 1) rfl (by kernel_rfl) (by kernel_rfl) (by kernel_rfl) (fun _ _ _ h => h) (yieldsIf_load_mid (by rfl) 24 _ rfl (w.heap.size) 0 rfl s.c.toList _ (fun W hSw => range_of_all (keepB KS5.out hSw)) Tryd.underlying24 rfl ?hi1r) (by assumption) ?rest1r
    case hi1r => rfl
    simp only [Act.put, List.getElem_toArray, List.getElem_cons_zero, List.getElem_cons_succ, List.setIfInBounds_toArray, List.set_cons_zero, List.set_cons_succ]
    refine wpAnyH_ready (rs := [2, 3]) (by kernel_rfl) (by simp) ?_
    refine AllReadyH.cons (o := _) rfl (fun K hK => ?_) (AllReadyH.cons (o := _) rfl (fun K hK => ?_) (AllReadyH.nil))
    · simp only [List.getElem_toArray, List.getElem_cons_zero, List.getElem_cons_succ]
      go_simp
      refine hK.out _ _ ((Below.refl w5.heap.size w5).alloc (Nat.le_refl _) _).drew (fun hH1 => ?_)
      clear hK K hH0
      try simp only [Act.put, List.setIfInBounds_toArray, List.set_cons_zero, List.set_cons_succ]
      refine wpAnyH_ready (rs := [3]) (by kernel_rfl) (by simp) ?_
      refine AllReadyH.cons (o := _) rfl (fun K hK => ?_) (AllReadyH.nil)
      simp only [List.getElem_toArray, List.getElem_cons_zero, List.getElem_cons_succ]
      go_simp
      obtain ⟨ka, kb, hal⟩ := two_new w5 (.cells #[.int .u32 0, .int .u32 0, .int .u32 0, .int .u32 0, .int .u32 0, .bool false, .int .u32 0, .int .u32 0, .int .u32 0, .int .u32 0, .bool false] 33) (.cells #[.int .u32 0, .int .u32 0, .int .u32 0, .int .u32 0, .int .u32 0, .bool false, .int .u32 0, .int .u32 0, .int .u32 0, .int .u32 0, .bool false] 24)
      refine hK.out _ _ hal.drew (fun hH2 => ?_)
      clear hK K hH1
      try simp only [Act.put, List.setIfInBounds_toArray, List.set_cons_zero, List.set_cons_succ]
      have ka2 : ((w5.alloc (.cells #[.int .u32 0, .int .u32 0, .int .u32 0, .int .u32 0, .int .u32 0, .bool false, .int .u32 0, .int .u32 0, .int .u32 0, .int .u32 0, .bool false] 33)).alloc (.cells #[.int .u32 0, .int .u32 0, .int .u32 0, .int .u32 0, .int .u32 0, .bool false, .int .u32 0, .int .u32 0, .int .u32 0, .int .u32 0, .bool false] 24)).drew.heap[w5.heap.size]? = some (.cells #[.int .u32 0, .int .u32 0, .int .u32 0, .int .u32 0, .int .u32 0, .bool false, .int .u32 0, .int .u32 0, .int .u32 0, .int .u32 0, .bool false] 33) := ka
      have kb2 : ((w5.alloc (.cells #[.int .u32 0, .int .u32 0, .int .u32 0, .int .u32 0, .int .u32 0, .bool false, .int .u32 0, .int .u32 0, .int .u32 0, .int .u32 0, .bool false] 33)).alloc (.cells #[.int .u32 0, .int .u32 0, .int .u32 0, .int .u32 0, .int .u32 0, .bool false, .int .u32 0, .int .u32 0, .int .u32 0, .int .u32 0, .bool false] 24)).drew.heap[w5.heap.size + 1]? = some (.cells #[.int .u32 0, .int .u32 0, .int .u32 0, .int .u32 0, .int .u32 0, .bool false, .int .u32 0, .int .u32 0, .int .u32 0, .int .u32 0, .bool false] 24) := kb
      clear ka kb hal
      generalize ((w5.alloc (.cells #[.int .u32 0, .int .u32 0, .int .u32 0, .int .u32 0, .int .u32 0, .bool false, .int .u32 0, .int .u32 0, .int .u32 0, .int .u32 0, .bool false] 33)).alloc (.cells #[.int .u32 0, .int .u32 0, .int .u32 0, .int .u32 0, .int .u32 0, .bool false, .int .u32 0, .int .u32 0, .int .u32 0, .int .u32 0, .bool false] 24)).drew = w6 at ka2 kb2 hH2 ⊢
      have ka := ka2
      have kb := kb2
      clear ka2 kb2
      refine wpAnyH_ready (rs := [4]) (by kernel_rfl) (by simp) ?_
      refine AllReadyH.cons (o := _) rfl (fun K hK => ?_) (AllReadyH.nil)
      simp only [List.getElem_toArray, List.getElem_cons_zero, List.getElem_cons_succ]
      rw [if_pos (by rfl)]
      refine wp_store_row 33 _ _ rfl (w5.heap.size) s.c rfl rfl 33 #[.int .u32 0, .int .u32 0, .int .u32 0, .int .u32 0, .int .u32 0, .bool false, .int .u32 0, .int .u32 0, .int .u32 0, .int .u32 0, .bool false] ka (by kernel_rfl) rfl (Dst.c_one _) ?_
      refine hK.out _ _ (below_setRow hH2 (by omega) _) (fun hH3 => ?_)
      clear hK K hH2
      try simp only [Act.put]
      have kx7 : (w6.setRow (w5.heap.size) s.c).heap[w5.heap.size]? = some (.cells s.c 33 (0, 0)) := setRow_heap _ _ _ _ _ _ ka
      have ky7 : (w6.setRow (w5.heap.size) s.c).heap[w5.heap.size + 1]? = some (.cells #[.int .u32 0, .int .u32 0, .int .u32 0, .int .u32 0, .int .u32 0, .bool false, .int .u32 0, .int .u32 0, .int .u32 0, .int .u32 0, .bool false] 24 (0, 0)) := (heap_row_other (by omega)).trans kb
      generalize w6.setRow (w5.heap.size) s.c = w7 at kx7 ky7 hH3 ⊢
      clear ka kb
      refine wpAnyH_ready (rs := [5]) (by kernel_rfl) (by simp) ?_
      refine AllReadyH.cons (o := _) rfl (fun K hK => ?_) (AllReadyH.nil)
      simp only [List.getElem_toArray, List.getElem_cons_zero, List.getElem_cons_succ]
      rw [if_pos (by rfl)]
      refine wp_store_row 24 _ _ rfl (w5.heap.size + 1) s.c rfl rfl 24 #[.int .u32 0, .int .u32 0, .int .u32 0, .int .u32 0, .int .u32 0, .bool false, .int .u32 0, .int .u32 0, .int .u32 0, .int .u32 0, .bool false] ky7 (by kernel_rfl) rfl (Dst.c_one _) ?_
      refine hK.out _ _ (below_setRow hH3 (by omega) _) (fun hH4 => ?_)
      clear hK K hH3
      try simp only [Act.put]
      have kx8 : (w7.setRow (w5.heap.size + 1) s.c).heap[w5.heap.size]? = some (.cells s.c 33 (0, 0)) := (heap_row_other (by omega)).trans kx7
      have ky8 : (w7.setRow (w5.heap.size + 1) s.c).heap[w5.heap.size + 1]? = some (.cells s.c 24 (0, 0)) := setRow_heap _ _ _ _ _ _ ky7
      generalize w7.setRow (w5.heap.size + 1) s.c = w8 at kx8 ky8 hH4 ⊢
      clear kx7 ky7
      refine wpAnyH_done (by kernel_rfl) ?_ _
      go_wp2_with fail
      go_meet
      case rel => exact ⟨_, _, rfl, rfl, by omega, by omega, by omega, kx8, ky8, hH4⟩
    · simp only [List.getElem_toArray, List.getElem_cons_zero, List.getElem_cons_succ]
      go_simp
      refine hK.out _ _ ((Below.refl w5.heap.size w5).alloc (Nat.le_refl _) _).drew (fun hH1 => ?_)
      clear hK K hH0
      try simp only [Act.put, List.setIfInBounds_toArray, List.set_cons_zero, List.set_cons_succ]
      refine wpAnyH_ready (rs := [2]) (by kernel_rfl) (by simp) ?_
      refine AllReadyH.cons (o := _) rfl (fun K hK => ?_) (AllReadyH.nil)
      simp only [List.getElem_toArray, List.getElem_cons_zero, List.getElem_cons_succ]
      go_simp
      obtain ⟨ka, kb, hal⟩ := two_new w5 (.cells #[.int .u32 0, .int .u32 0, .int .u32 0, .int .u32 0, .int .u32 0, .bool false, .int .u32 0, .int .u32 0, .int .u32 0, .int .u32 0, .bool false] 24) (.cells #[.int .u32 0, .int .u32 0, .int .u32 0, .int .u32 0, .int .u32 0, .bool false, .int .u32 0, .int .u32 0, .int .u32 0, .int .u32 0, .bool false] 33)
      refine hK.out _ _ hal.drew (fun hH2 => ?_)
      clear hK K hH1
      try simp only [Act.put, List.setIfInBounds_toArray, List.set_cons_zero, List.set_cons_succ]
      have ka2 : ((w5.alloc (.cells #[.int .u32 0, .int .u32 0, .int .u32 0, .int .u32 0, .int .u32 0, .bool false, .int .u32 0, .int .u32 0, .int .u32 0, .int .u32 0, .bool false] 24)).alloc (.cells #[.int .u32 0, .int .u32 0, .int .u32 0, .int .u32 0, .int .u32 0, .bool false, .int .u32 0, .int .u32 0, .int .u32 0, .int .u32 0, .bool false] 33)).drew.heap[w5.heap.size]? = some (.cells #[.int .u32 0, .int .u32 0, .int .u32 0, .int .u32 0, .int .u32 0, .bool false, .int .u32 0, .int .u32 0, .int .u32 0, .int .u32 0, .bool false] 24) := ka
      have kb2 : ((w5.alloc (.cells #[.int .u32 0, .int .u32 0, .int .u32 0, .int .u32 0, .int .u32 0, .bool false, .int .u32 0, .int .u32 0, .int .u32 0, .int .u32 0, .bool false] 24)).alloc (.cells #[.int .u32 0, .int .u32 0, .int .u32 0, .int .u32 0, .int .u32 0, .bool false, .int .u32 0, .int .u32 0, .int .u32 0, .int .u32 0, .bool false] 33)).drew.heap[w5.heap.size + 1]? = some (.cells #[.int .u32 0, .int .u32 0, .int .u32 0, .int .u32 0, .int .u32 0, .bool false, .int .u32 0, .int .u32 0, .int .u32 0, .int .u32 0, .bool false] 33) := kb
      clear ka kb hal
      generalize ((w5.alloc (.cells #[.int .u32 0, .int .u32 0, .int .u32 0, .int .u32 0, .int .u32 0, .bool false, .int .u32 0, .int .u32 0, .int .u32 0, .int .u32 0, .bool false] 24)).alloc (.cells #[.int .u32 0, .int .u32 0, .int .u32 0, .int .u32 0, .int .u32 0, .bool false, .int .u32 0, .int .u32 0, .int .u32 0, .int .u32 0, .bool false] 33)).drew = w6 at ka2 kb2 hH2 ⊢
      have ka := ka2
      have kb := kb2
      clear ka2 kb2
      refine wpAnyH_ready (rs := [4]) (by kernel_rfl) (by simp) ?_
      refine AllReadyH.cons (o := _) rfl (fun K hK => ?_) (AllReadyH.nil)
      simp only [List.getElem_toArray, List.getElem_cons_zero, List.getElem_cons_succ]
      rw [if_pos (by rfl)]
      refine wp_store_row 33 _ _ rfl (w5.heap.size + 1) s.c rfl rfl 33 #[.int .u32 0, .int .u32 0, .int .u32 0, .int .u32 0, .int .u32 0, .bool false, .int .u32 0, .int .u32 0, .int .u32 0, .int .u32 0, .bool false] kb (by kernel_rfl) rfl (Dst.c_one _) ?_
      refine hK.out _ _ (below_setRow hH2 (by omega) _) (fun hH3 => ?_)
      clear hK K hH2
      try simp only [Act.put]
      have kx7 : (w6.setRow (w5.heap.size + 1) s.c).heap[w5.heap.size + 1]? = some (.cells s.c 33 (0, 0)) := setRow_heap _ _ _ _ _ _ kb
      have ky7 : (w6.setRow (w5.heap.size + 1) s.c).heap[w5.heap.size]? = some (.cells #[.int .u32 0, .int .u32 0, .int .u32 0, .int .u32 0, .int .u32 0, .bool false, .int .u32 0, .int .u32 0, .int .u32 0, .int .u32 0, .bool false] 24 (0, 0)) := (heap_row_other (by omega)).trans ka
      generalize w6.setRow (w5.heap.size + 1) s.c = w7 at kx7 ky7 hH3 ⊢
      clear ka kb
      refine wpAnyH_ready (rs := [5]) (by kernel_rfl) (by simp) ?_
      refine AllReadyH.cons (o := _) rfl (fun K hK => ?_) (AllReadyH.nil)
      simp only [List.getElem_toArray, List.getElem_cons_zero, List.getElem_cons_succ]
      rw [if_pos (by rfl)]
      refine wp_store_row 24 _ _ rfl (w5.heap.size) s.c rfl rfl 24 #[.int .u32 0, .int .u32 0, .int .u32 0, .int .u32 0, .int .u32 0, .bool false, .int .u32 0, .int .u32 0, .int .u32 0, .int .u32 0, .bool false] ky7 (by kernel_rfl) rfl (Dst.c_one _) ?_
      refine hK.out _ _ (below_setRow hH3 (by omega) _) (fun hH4 => ?_)
      clear hK K hH3
      try simp only [Act.put]
      have kx8 : (w7.setRow (w5.heap.size) s.c).heap[w5.heap.size + 1]? = some (.cells s.c 33 (0, 0)) := (heap_row_other (by omega)).trans kx7
      have ky8 : (w7.setRow (w5.heap.size) s.c).heap[w5.heap.size]? = some (.cells s.c 24 (0, 0)) := setRow_heap _ _ _ _ _ _ ky7
      generalize w7.setRow (w5.heap.size) s.c = w8 at kx8 ky8 hH4 ⊢
      clear kx7 ky7
      refine wpAnyH_done (by kernel_rfl) ?_ _
      go_wp2_with fail
      go_meet
      case rel => exact ⟨_, _, rfl, rfl, by omega, by omega, by omega, kx8, ky8, hH4⟩
  case rest =>
    obtain ⟨bX, bY, rfl, rfl, hne, hlx, hly, hkx, hky, hb⟩ := hcut
    have HNN : Hid (bX ≠ bY ∧ bX ≠ bR ∧ bY ≠ bR ∧ w.heap.size < bX ∧ w.heap.size < bY ∧ ¬ F2 bX ∧ ¬ F2 bY) := Lib.hid ⟨hne, by have := lt_heap KR5.out; omega, by have := lt_heap KR5.out; omega, by have := lt_heap KS5.out; omega, by have := lt_heap KS5.out; omega, fun hf => by have := L5.out.ram.lt _ hf; omega, fun hf => by have := L5.out.ram.lt _ hf; omega⟩
    have L6 := Lib.hid (L5.out.below hb)
    have R6 : Hid (RefF wc (w.heap.size + 1) (.agg C) m (FX F2 bR bX bY)) := Lib.hid (by
      obtain ⟨n1, n2, b1, c1, b2, c2, hv, h1, h2, h3, h4, h5, h6⟩ := R5.out
      have l5 := h5.lt
      have l6 := h6.lt
      exact ⟨n1, n2, b1, c1, b2, c2, hv, h1, h2, fun h => h.elim (fun h => h3 (.inl h)) (fun h => h.elim (fun h => h3 (.inr h)) (fun h => by omega)), fun h => h.elim (fun h => h4 (.inl h)) (fun h => h.elim (fun h => h4 (.inr h)) (fun h => by omega)), h5.below hb, h6.below hb⟩)
    have KR6 := Lib.hid (keepB KR5.out hb)
    have KX6 := Lib.hid hkx
    have KY6 := Lib.hid hky
    clear hne hlx hly hkx hky hb L5 R5 KR5 KS5
    have HBRW : Hid (w.heap.size < bR) := HSZ4
    have hwx : w.heap.size < bX := HNN.out.2.2.2.1
    have hwy : w.heap.size < bY := HNN.out.2.2.2.2.1
    obtain ⟨q, hq, eq⟩ := fold_1 tk 12 (by omega) (by omega)
    have EQ := Lib.hid eq
    clear eq
    go_wp2_with fail
    go_loopw [11] (fun i wr => ∃ (j : Nat) (x : Dst) (m : Mm) (F : Nat → Prop) (C : Array Value), i = .int .i64 j ∧ j ≤ q + 1 ∧ m.n = 2 ∧ x.wf ∧ LawMem w wr g m F ∧ (¬ F bX ∧ ¬ F bY ∧ ¬ F bR) ∧ RefF wr (w.heap.size + 1) (.agg C) m (FX F bR bX bY) ∧ wr.heap[bX]? = some (.cells x.c 33 (0, 0)) ∧ wr.heap[bY]? = some (.cells x.c 24 (0, 0)) ∧ wr.heap[bR]? = some (.cells C 30 (0, 0))) (fun i _ => q + 1 - (intOf i).toNat)
    case atStart => exact ⟨0, s, m, F2, C, rfl, by omega, HMN.out, HSW.out, L6.out, ⟨HNN.out.2.2.2.2.2.1, HNN.out.2.2.2.2.2.2, HNX.out⟩, R6.out, KX6.out, KY6.out, KR6.out⟩
    case round =>
      clear HMN HSW L6 HNX R6 KX6 KY6 KR6 HLO HSZ4 HC1
      obtain ⟨j, x, m, F, C, rfl, hj, hmn, hxw, hlm, hnf, hrf, hkx, hky, hkr⟩ := hrel
      have HMN := Lib.hid hmn
      have HX := Lib.hid hxw
      have L := Lib.hid hlm
      have HNF := Lib.hid hnf
      have R := Lib.hid hrf
      have KX := Lib.hid hkx
      have KY := Lib.hid hky
      have KR := Lib.hid hkr
      clear hmn hxw hlm hnf hrf hkx hky hkr
      by_cases hlt : j < q + 1
      · have HBD : decide ((j : Int) < wrap64 (1 + wrap64 ((IntKind.u64.wrap tk).tmod 12))) = true := by rw [EQ.out]; exact decide_eq_true (by omega)
        have HT := Lib.hid (dma_Tick x HX.out L.out.ram (L.out.reg HRG.out).1 (L.out.reg HRG.out).2)
        have HX2 := Lib.hid (tick_wf x m HX.out)
        go_wp2_with (refine wpList_load_row rfl 33 _ rfl bX rfl 33 x.c (0, 0) _ KX.out Tryd.underlying33 rfl rfl ?_)
        refine (HT.out).mono ?_
        rintro e w9 ⟨rfl, F9, h1, h2⟩
        have L9 := Lib.hid (L.out.step h1 h2)
        have R9 := Lib.hid (R.out.step (FX_step (a := bR) (b := bX) (c := bY) h2))
        have KX9 := Lib.hid (h2.heap KX.out HNF.out.1)
        have KY9 := Lib.hid (h2.heap KY.out HNF.out.2.1)
        have KR9 := Lib.hid (h2.heap KR.out HNF.out.2.2)
        have HNF9 : Hid (¬ F9 bX ∧ ¬ F9 bY ∧ ¬ F9 bR) := Lib.hid ⟨h2.off (lt_heap KX.out) HNF.out.1, h2.off (lt_heap KY.out) HNF.out.2.1, h2.off (lt_heap KR.out) HNF.out.2.2⟩
        clear h1 h2 HT HBD L R KX KY KR HNF
        have HTK := Lib.hid (fun W (h : RefF W (w.heap.size + 1) (.agg C) m (FX F9 bR bX bY)) hF hB => ref12_Tick x HX.out h hF hB)
        have HN2 : Hid ((x.after m).n = 2) := Lib.hid ((after_n x m).trans HMN.out)
        generalize x.tick m = x2 at HX2 HTK ⊢
        generalize x.after m = m2 at L9 HTK HN2
        go_wp2_with (refine wpList_store_to rfl 33 _ _ rfl bX x2.c rfl rfl 33 x.c KX9.out rfl rfl (Dst.c_one _) ?_)
        intro w10 hx10 k10
        have L10 := Lib.hid (L9.out.own hx10.out (by omega) HNF9.out.1)
        have R10 := Lib.hid (R9.out.kx hx10.out (fun k hk => .inl (.inr (.inr (.inl hk)))))
        have KX10 := Lib.hid k10
        have KY10 := Lib.hid (hx10.out.heap KY9.out (fun e => HNN.out.1 e.symm))
        have KR10 := Lib.hid (hx10.out.heap KR9.out (fun e => HNN.out.2.1 e.symm))
        clear hx10 k10 L9 R9 KX9 KY9 KR9
        have HC1 : Hid (C.size = 3 ∧ C.all (·.oneCell') = true) := Lib.hid (by obtain ⟨C', e, h⟩ := R10.out.form; obtain rfl : C = C' := by simpa using e
                                                                               exact h)
        have HTKW := Lib.hid (HTK.out w10 R10.out (fun k hk => by rcases hk with h | rfl | rfl | rfl; exact L10.out.ram.lt _ h; exact lt_heap KR10.out; exact lt_heap KX10.out; exact lt_heap KY10.out) (by have := lt_heap KX10.out; omega))
        go_wp2_with (first | (refine wpList_load_row rfl 24 _ rfl bY rfl 24 x.c (0, 0) _ KY10.out Tryd.underlying24 rfl rfl ?_) | (refine wpList_load_row rfl 30 _ rfl bR rfl 30 C (0, 0) _ KR10.out Tryd.underlying30 rfl (by rw [HC1.out.1]; kernel_rfl) ?_))
        refine (HTKW.out).mono ?_
        rintro e w11 ⟨v2, rfl, hr2, hb⟩
        obtain ⟨C2, rfl, hC2s, hC21⟩ := hr2.form
        have HC2 := Lib.hid (And.intro hC2s hC21)
        have R11 := Lib.hid hr2
        have L11 := Lib.hid (L10.out.below hb)
        have KX11 := Lib.hid (keepB KX10.out hb)
        have KY11 := Lib.hid (keepB KY10.out hb)
        have KR11 := Lib.hid (keepB KR10.out hb)
        clear hC2s hC21 hr2 hb L10 R10 KX10 KY10 KR10 HTK HTKW
        go_wp2_with (refine wpList_store_to rfl 24 _ _ rfl bY x2.c rfl rfl 24 x.c KY11.out rfl rfl (Dst.c_one _) ?_)
        intro w12 hx12 k12
        have L12 := Lib.hid (L11.out.own hx12.out (by omega) HNF9.out.2.1)
        have R12 := Lib.hid (R11.out.kx hx12.out (fun k hk => .inl (.inr (.inr (.inr hk)))))
        have KX12 := Lib.hid (hx12.out.heap KX11.out (fun e => HNN.out.1 e))
        have KY12 := Lib.hid k12
        have KR12 := Lib.hid (hx12.out.heap KR11.out (fun e => HNN.out.2.2.1 e.symm))
        clear hx12 k12 L11 R11 KX11 KY11 KR11
        go_wp2_with (refine wpList_store_to rfl 30 _ _ rfl bR C2 rfl rfl 30 C KR12.out (by rw [HC2.out.1]; kernel_rfl) (by rw [HC2.out.1, HC1.out.1]) HC2.out.2 ?_)
        intro w13 hx13 k13
        have L13 := Lib.hid (L12.out.own hx13.out (by have := HNN.out; have := HBRW.out; omega) HNF9.out.2.2)
        have R13 := Lib.hid (R12.out.kx hx13.out (fun k hk => .inl (.inr (.inl hk))))
        have KX13 := Lib.hid (hx13.out.heap KX12.out (fun e => HNN.out.2.1 e))
        have KY13 := Lib.hid (hx13.out.heap KY12.out (fun e => HNN.out.2.2.1 e))
        have KR13 := Lib.hid k13
        clear hx13 k13 L12 R12 KX12 KY12 KR12
        have hneq := HNE.out x2
        go_wp2_with (first | (refine wpList_load_row rfl 33 _ rfl bX rfl 33 x2.c (0, 0) _ KX13.out Tryd.underlying33 rfl rfl ?_) | (refine wpList_load_row rfl 24 _ rfl bY rfl 24 x2.c (0, 0) _ KY13.out Tryd.underlying24 rfl rfl ?_))
        go_roundw
        case rel => exact ⟨j + 1, x2, m2, F9, C2, by go_num, by omega, HN2.out, HX2.out, L13.out, HNF9.out, R13.out, KX13.out, KY13.out, KR13.out⟩
        case measure => simp [intOf]; omega
      · have HBD : decide ((j : Int) < wrap64 (1 + wrap64 ((IntKind.u64.wrap tk).tmod 12))) = false := by rw [EQ.out]; exact decide_eq_false (by omega)
        have HRD := Lib.hid (law_read L.out.ram 0 8192 0 8192 rfl rfl (by omega) (by rw [HMN.out]; omega))
        go_wp2_with fail
        refine (HRD.out).mono ?_
        rintro e w9 ⟨ao, ca, F9, rfl, h1, h2, h3⟩
        have L9 := Lib.hid (L.out.step h1 h2)
        have R9 := Lib.hid (R.out.step (FX_step (a := bR) (b := bX) (c := bY) h2))
        have KR9 := Lib.hid (h2.heap KR.out HNF.out.2.2)
        obtain ⟨b1, c1, b2, c2, ev, hbr⟩ := R9.out.bytes
        rw [HMN.out] at hbr ev
        obtain rfl : C = _ := by simpa using ev
        have hs1 := str_of_bytes (cap := ca) h3
        have hs2 := str_of_bytes (cap := c1) hbr
        clear h1 h2 h3 hbr ev HRD HBD
        rw [show 4096 * 2 = 8192 from rfl] at hs2
        generalize cut m.f 0 8192 = lc at hs1 hs2 KR9 ⊢
        have cB : w9.cell? ⟨bR, 0, none⟩ = some (.slice (some ⟨b1, 0, none⟩) lc.length c1) := (cell_of_row _ _ 0 _ _ _ KR9.out).trans rfl
        have hen := err_nil_eql
        have HSU := Lib.hid (dma_sure w9 (L9.out.reg HRG.out).1)
        go_wp2_with fail
        refine (HSU.out).mono ?_
        rintro e w10 ⟨rfl, hb⟩
        go_wp2_with fail
        go_ret
        exact ⟨rfl, L9.out.fr.trans (hb.mono L9.out.fr.size)⟩
end Go.Proofs.YtcakcfeipfjmpaaDoor
