/-
pinnacelaw12.DmaRound, walked: it answers true.
Condition: the table of regions of package bus reads as its text lays it.
-/
import Derived.Test.YtocbfchmngcgkaaDoorRoundLaw
namespace Go.Proofs.YtocbfchmngcgkaaDoor
open Go.RowKit

theorem fold_u (x : Int) (q : Int) (h0 : 0 < q) (h1 : q ≤ 1000000) : ∃ k : Nat, (k : Int) < q ∧ wrap64 (1 + wrap64 ((IntKind.u64.wrap x).tmod q)) = ((k + 1 : Nat) : Int) := by
  have hw : 0 ≤ IntKind.u64.wrap x := by rw [IntKind.wrap_u64]; omega
  generalize IntKind.u64.wrap x = y at hw
  have h2 : y.tmod q = y % q := Int.tmod_eq_emod_of_nonneg hw
  have h3 := Int.emod_nonneg y (show q ≠ 0 by omega)
  have h4 := Int.emod_lt_of_pos y h0
  rw [h2]
  generalize y % q = z at h3 h4
  refine ⟨z.toNat, by omega, ?_⟩
  have e1 : wrap64 z = z := by unfold wrap64; omega
  rw [e1]
  unfold wrap64
  omega
set_option maxRecDepth 100000 in
set_option maxHeartbeats 8000000 in
theorem dma_round (n many : Int) (w : World) (hr : RegAt w) : Calls Tryd.prog 5 #[.int .i64 n, .int .i64 many] w fun e w' => e = .returned (.bool true) ∧ Below w.heap.size w w' := by
  have HR := Lib.hid hr
  clear hr
  have HN := Lib.hid (new_at 2 2 rfl w (by omega) (by omega))
  go_enter Tryd.func5, Tryd.ntmps5
  go_wp2_with fail
  refine (HN.out).mono ?_
  rintro e w1 ⟨g, F1, rfl, h1, h2, h3⟩
  have L1 := Lib.hid (LawMem.mk h1 h2 h3)
  clear h1 h2 h3 HN
  go_upto_region 4 with fail
  obtain ⟨k, hk, ek⟩ := fold_u many 4 (by omega) (by omega)
  obtain ⟨L, hL, eL⟩ := fold_u n 100 (by omega) (by omega)
  rw [ek, eL]
  clear ek eL
  obtain ⟨k1, hk1⟩ : ∃ k1, k1 = k + 1 := ⟨_, rfl⟩
  obtain ⟨L1n, hL1⟩ : ∃ L1n, L1n = L + 1 := ⟨_, rfl⟩
  rw [← hk1, ← hL1]
  have hk0 : 0 < k1 := by omega
  have hk4 : k1 ≤ 4 := by omega
  have hl0 : 1 ≤ L1n := by omega
  have hl100 : L1n ≤ 100 := by omega
  clear hk1 hL1 hk hL
  have HST := Lib.hid (fun W m F (h : RamIs W g m F) (hn : m.n = 2) (a : Nat) (v : Nat) (vi : Int) (ai : Int) (ea : ai = a) (ev : vi = v) (ha : a % 4 = 0) (hl : a < 8192) => store_at h a 4 v ai 4 vi ea rfl ev (by omega) (.inr (.inr rfl)) (by rw [hn]; omega) ha)
  go_wp2_with fail
  go_loopw [9] (fun i wr => ∃ (j : Nat) (m : Mm) (F : Nat → Prop), j ≤ k1 ∧ i = .int .i64 j ∧ RoundTo m L1n k1 j ∧ LawMem w wr g m F) (fun i _ => k1 - (intOf i).toNat)
  case atStart => exact ⟨0, _, F1, by omega, rfl, ⟨rfl, fun j hj => absurd hj (by omega)⟩, L1.out⟩
  case round =>
    obtain ⟨j, m, F, hj, rfl, hrt, hlm⟩ := hrel
    have HRT := Lib.hid hrt
    have HLM := Lib.hid hlm
    clear hrt hlm
    by_cases hlt : j < k1
    · have hjk : (j : Int) < (k1 : Int) := by omega
      have hj0 : (0 : Int) ≤ (j : Int) := by omega
      have hj4 : (j : Int) < 4 := by omega
      have hjm : ((j : Int) + 1) % (k1 : Int) = (((j + 1) % k1 : Nat) : Int) := by rw [Int.natCast_emod]; rfl
      have hjm4 : (j + 1) % k1 < k1 := Nat.mod_lt _ hk0
      have hjp : (0 : Int) ≤ ((j : Int) + 1) % (k1 : Int) := by rw [hjm]; omega
      have hjq : ((j : Int) + 1) % (k1 : Int) < 4 := by rw [hjm]; omega
      have HJM := Lib.hid hjm
      have HJ4 := Lib.hid hjm4
      have hk1p : (0 : Int) < (k1 : Int) := by omega
      clear hjm hjm4
      go_wp2_with fail
      refine (HST.out _ _ _ HLM.out.ram (by exact HRT.out.1) (16 * j) 2147484672 _ _ (by omega) (by omega) (by omega) (by omega)).mono ?_
      rintro e w3 ⟨F3, rfl, h1, h2⟩
      have L3 := Lib.hid (HLM.out.step h1 h2)
      clear h1 h2
      go_wp2_with fail
      refine (HST.out _ _ _ L3.out.ram (by exact HRT.out.1) (16 * j + 4) 2147485696 _ _ (by omega) (by omega) (by omega) (by omega)).mono ?_
      rintro e w4 ⟨F4, rfl, h1, h2⟩
      have L4 := Lib.hid (L3.out.step h1 h2)
      clear h1 h2
      go_wp2_with fail
      refine (HST.out _ _ _ L4.out.ram (by exact HRT.out.1) (16 * j + 8) L1n _ _ (by omega) (by omega) (by omega) (by omega)).mono ?_
      rintro e w5 ⟨F5, rfl, h1, h2⟩
      have L5 := Lib.hid (L4.out.step h1 h2)
      clear h1 h2
      go_wp2_with fail
      refine (HST.out _ _ _ L5.out.ram (by exact HRT.out.1) (16 * j + 12) (2147483648 + 16 * ((j + 1) % k1)) _ _ (by omega) (by have h := HJM.out; have h2 := HJ4.out; omega) (by omega) (by omega)).mono ?_
      rintro e w6 ⟨F6, rfl, h1, h2⟩
      have L6 := Lib.hid (L5.out.step h1 h2)
      clear h1 h2
      go_wp2_with fail
      go_roundw
      case rel => exact ⟨j + 1, _, F6, by omega, by go_num, HRT.out.next (by omega) hk0 hk4, L6.out⟩
      case measure => simp [intOf]; omega
    · obtain rfl : k1 = j := by omega
      clear hj hlt
      by_cases hk1 : k1 = 1
      · subst hk1
        go_wp2_with fail
        refine (HST.out _ _ _ HLM.out.ram (by exact HRT.out.1) 12 2147483648 _ _ rfl rfl (by omega) (by omega)).mono ?_
        rintro e w3 ⟨F3, rfl, h1, h2⟩
        have L3 := Lib.hid (HLM.out.step h1 h2)
        have RT3 := Lib.hid HRT.out.again
        clear h1 h2
        have HDW := Lib.hid (fun W => dma_Write_ok sureS0 0 1 W (by decide) (by omega) (by omega))
        have e0 : sureS0.c = #[.int .u32 0, .int .u32 2147483648, .int .u32 0, .int .u32 0, .int .u32 0, .bool false, .int .u32 0, .int .u32 0, .int .u32 0, .int .u32 0, .bool false] := rfl
        rw [e0, show ((0 : Nat) : Int) = 0 from rfl, show ((1 : Nat) : Int) = 1 from rfl] at HDW
        rw [show sureS0.wr 0 1 = rdA L1n 1 0 from sureS1_eq.trans (by unfold rdA; rw [Nat.zero_mod, Nat.zero_mul])] at HDW
        clear e0
        have HRA : Hid (RoundAt L1n 1 0 (rdA L1n 1 0) _) := Lib.hid ⟨RT3.out, .inl ⟨0, by omega, (Nat.zero_mul _).symm, rfl⟩⟩
        generalize rdA L1n 1 0 = sA at HDW HRA
        go_wp2_with fail
        refine (HDW.out _).mono ?_
        rintro e w7a ⟨rfl, hb7⟩
        have L7a := Lib.hid ((L3.out.below hb7).below ((Below.refl w7a.heap.size w7a).alloc (Nat.le_refl _) (.cells #[.int .u32 0, .int .u32 0, .int .u32 0, .int .u32 0, .int .u32 0, .bool false, .int .u32 0, .int .u32 0, .int .u32 0, .int .u32 0, .bool false] 33)))
        have K7 := Lib.hid (heap_alloc_new w7a (.cells #[.int .u32 0, .int .u32 0, .int .u32 0, .int .u32 0, .int .u32 0, .bool false, .int .u32 0, .int .u32 0, .int .u32 0, .int .u32 0, .bool false] 33))
        have HLO : Hid (w.heap.size ≤ w7a.heap.size) := Lib.hid (L3.out.below hb7).fr.size
        have HNF : Hid (¬ F3 w7a.heap.size) := Lib.hid (fun hf => absurd ((L3.out.below hb7).ram.lt _ hf) (Nat.lt_irrefl _))
        clear hb7
        go_wp2_with (refine wpList_store_to rfl 33 _ _ rfl w7a.heap.size sA.c rfl rfl 33 #[.int .u32 0, .int .u32 0, .int .u32 0, .int .u32 0, .int .u32 0, .bool false, .int .u32 0, .int .u32 0, .int .u32 0, .int .u32 0, .bool false] K7.out (by kernel_rfl) rfl (Dst.c_one _) ?_)
        intro w8a hx8 k8
        have L8a := Lib.hid (L7a.out.own hx8.out HLO.out HNF.out)
        have K8 := Lib.hid k8
        clear hx8 k8 K7
        generalize w7a.heap.size = b3 at HLO HNF K8 ⊢
        go_wp2_with fail
        go_loopw [13] (fun i wr => ∃ (t : Nat) (s : Dst) (m : Mm) (F : Nat → Prop), i = .int .i64 t ∧ RoundAt L1n 1 t s m ∧ LawMem w wr g m F ∧ ¬ F b3 ∧ wr.heap[b3]? = some (.cells s.c 33 (0, 0))) (fun i _ => 300 - (intOf i).toNat)
        case atStart => exact ⟨0, sA, _, F3, rfl, HRA.out, L8a.out, HNF.out, K8.out⟩
        case round =>
          obtain ⟨t, s, m, F, rfl, hra, hlm, hnf, hk⟩ := hrel
          have HA := Lib.hid hra
          have HM := Lib.hid hlm
          have HF := Lib.hid hnf
          have HK := Lib.hid hk
          have ht := hra.few hl0 hl100
          have hti : (t : Int) < 300 := by omega
          clear hra hlm hnf hk
          by_cases hc : s.code = 1
          · have c0 : wr.cell? ⟨b3, 0, none⟩ = some (.int .u32 1) := (cell_of_row _ _ 0 _ _ _ HK.out).trans (by show some (Value.int .u32 ((s.code : Nat) : Int)) = _; rw [hc]; rfl)
            have HT := Lib.hid (dma_Tick s (HA.out.wf hl100 hk0 hk4) HM.out.ram (HM.out.reg HR.out).1 (HM.out.reg HR.out).2)
            have HN := Lib.hid (HA.out.step hl0 hl100 hk0 hk4 hc)
            clear hc
            go_wp2_with (refine wpList_load_row rfl 33 _ rfl b3 rfl 33 s.c (0, 0) _ HK.out Tryd.underlying33 rfl rfl ?_)
            refine (HT.out).mono ?_
            rintro e w9 ⟨rfl, F9, h1, h2⟩
            have L9 := Lib.hid (HM.out.step h1 h2)
            have K9 := Lib.hid (h2.heap HK.out HF.out)
            have HNF9 : Hid (¬ F9 b3) := Lib.hid (h2.off (lt_heap HK.out) HF.out)
            clear h1 h2 HT c0
            generalize s.tick m = s2 at HN ⊢
            generalize s.after m = m2 at HN L9
            go_wp2_with (refine wpList_store_to rfl 33 _ _ rfl b3 s2.c rfl rfl 33 s.c K9.out rfl rfl (Dst.c_one _) ?_)
            intro w10 hx10 k10
            have L10 := Lib.hid (L9.out.own hx10.out HLO.out HNF9.out)
            have K10 := Lib.hid k10
            clear hx10 k10
            go_wp2_with fail
            go_roundw
            case rel => exact ⟨t + 1, s2, m2, F9, by go_num, HN.out, L10.out, HNF9.out, K10.out⟩
            case measure => simp [intOf]; omega
          · obtain ⟨e3, em, et⟩ := HA.out.last hc
            have c0 : wr.cell? ⟨b3, 0, none⟩ = some (.int .u32 3) := (cell_of_row _ _ 0 _ _ _ HK.out).trans (by show some (Value.int .u32 ((s.code : Nat) : Int)) = _; rw [e3]; rfl)
            have c4 : wr.cell? ⟨b3, 4, none⟩ = some (.int .u32 (64 * (L1n : Int))) := (cell_of_row _ _ 4 _ _ _ HK.out).trans (by show some (Value.int .u32 ((s.moved : Nat) : Int)) = _; rw [em]; rfl)
            have HS := Lib.hid (dma_sure wr (HM.out.reg HR.out).1)
            have hte : ((t : Int) == 64 * (1 + ((L1n : Int) + 63) / 64) + 1) = true := by rw [et]; simp
            have hen := err_nil_eql
            have HFR := Lib.hid HM.out.fr
            clear hc e3 em et
            go_wp2_with fail
            refine (HS.out).mono ?_
            rintro e w11 ⟨rfl, hb⟩
            go_wp2_with fail
            go_ret
            exact ⟨rfl, HFR.out.trans (hb.mono HFR.out.size)⟩
      · have hk1b : ((k1 : Int) == 1) = false := by simp; omega
        clear hk1
        have HDW := Lib.hid (fun W => dma_Write_ok sureS0 0 1 W (by decide) (by omega) (by omega))
        have e0 : sureS0.c = #[.int .u32 0, .int .u32 2147483648, .int .u32 0, .int .u32 0, .int .u32 0, .bool false, .int .u32 0, .int .u32 0, .int .u32 0, .int .u32 0, .bool false] := rfl
        rw [e0, show ((0 : Nat) : Int) = 0 from rfl, show ((1 : Nat) : Int) = 1 from rfl] at HDW
        rw [show sureS0.wr 0 1 = rdA L1n k1 0 from sureS1_eq.trans (by unfold rdA; rw [Nat.zero_mod, Nat.zero_mul])] at HDW
        clear e0
        have HRA : Hid (RoundAt L1n k1 0 (rdA L1n k1 0) _) := Lib.hid ⟨HRT.out, .inl ⟨0, by omega, (Nat.zero_mul _).symm, rfl⟩⟩
        generalize rdA L1n k1 0 = sA at HDW HRA
        go_wp2_with fail
        refine (HDW.out _).mono ?_
        rintro e w7b ⟨rfl, hb7⟩
        have L7b := Lib.hid ((HLM.out.below hb7).below ((Below.refl w7b.heap.size w7b).alloc (Nat.le_refl _) (.cells #[.int .u32 0, .int .u32 0, .int .u32 0, .int .u32 0, .int .u32 0, .bool false, .int .u32 0, .int .u32 0, .int .u32 0, .int .u32 0, .bool false] 33)))
        have K7 := Lib.hid (heap_alloc_new w7b (.cells #[.int .u32 0, .int .u32 0, .int .u32 0, .int .u32 0, .int .u32 0, .bool false, .int .u32 0, .int .u32 0, .int .u32 0, .int .u32 0, .bool false] 33))
        have HLO : Hid (w.heap.size ≤ w7b.heap.size) := Lib.hid (HLM.out.below hb7).fr.size
        have HNF : Hid (¬ F w7b.heap.size) := Lib.hid (fun hf => absurd ((HLM.out.below hb7).ram.lt _ hf) (Nat.lt_irrefl _))
        clear hb7
        go_wp2_with (refine wpList_store_to rfl 33 _ _ rfl w7b.heap.size sA.c rfl rfl 33 #[.int .u32 0, .int .u32 0, .int .u32 0, .int .u32 0, .int .u32 0, .bool false, .int .u32 0, .int .u32 0, .int .u32 0, .int .u32 0, .bool false] K7.out (by kernel_rfl) rfl (Dst.c_one _) ?_)
        intro w8b hx8 k8
        have L8b := Lib.hid (L7b.out.own hx8.out HLO.out HNF.out)
        have K8 := Lib.hid k8
        clear hx8 k8 K7
        generalize w7b.heap.size = b3 at HLO HNF K8 ⊢
        go_wp2_with fail
        go_loopw [13] (fun i wr => ∃ (t : Nat) (s : Dst) (m : Mm) (F : Nat → Prop), i = .int .i64 t ∧ RoundAt L1n k1 t s m ∧ LawMem w wr g m F ∧ ¬ F b3 ∧ wr.heap[b3]? = some (.cells s.c 33 (0, 0))) (fun i _ => 300 - (intOf i).toNat)
        case atStart => exact ⟨0, sA, _, F, rfl, HRA.out, L8b.out, HNF.out, K8.out⟩
        case round =>
          obtain ⟨t, s, m, F, rfl, hra, hlm, hnf, hk⟩ := hrel
          have HA := Lib.hid hra
          have HM := Lib.hid hlm
          have HF := Lib.hid hnf
          have HK := Lib.hid hk
          have ht := hra.few hl0 hl100
          have hti : (t : Int) < 300 := by omega
          clear hra hlm hnf hk
          by_cases hc : s.code = 1
          · have c0 : wr.cell? ⟨b3, 0, none⟩ = some (.int .u32 1) := (cell_of_row _ _ 0 _ _ _ HK.out).trans (by show some (Value.int .u32 ((s.code : Nat) : Int)) = _; rw [hc]; rfl)
            have HT := Lib.hid (dma_Tick s (HA.out.wf hl100 hk0 hk4) HM.out.ram (HM.out.reg HR.out).1 (HM.out.reg HR.out).2)
            have HN := Lib.hid (HA.out.step hl0 hl100 hk0 hk4 hc)
            clear hc
            go_wp2_with (refine wpList_load_row rfl 33 _ rfl b3 rfl 33 s.c (0, 0) _ HK.out Tryd.underlying33 rfl rfl ?_)
            refine (HT.out).mono ?_
            rintro e w9 ⟨rfl, F9, h1, h2⟩
            have L9 := Lib.hid (HM.out.step h1 h2)
            have K9 := Lib.hid (h2.heap HK.out HF.out)
            have HNF9 : Hid (¬ F9 b3) := Lib.hid (h2.off (lt_heap HK.out) HF.out)
            clear h1 h2 HT c0
            generalize s.tick m = s2 at HN ⊢
            generalize s.after m = m2 at HN L9
            go_wp2_with (refine wpList_store_to rfl 33 _ _ rfl b3 s2.c rfl rfl 33 s.c K9.out rfl rfl (Dst.c_one _) ?_)
            intro w10 hx10 k10
            have L10 := Lib.hid (L9.out.own hx10.out HLO.out HNF9.out)
            have K10 := Lib.hid k10
            clear hx10 k10
            go_wp2_with fail
            go_roundw
            case rel => exact ⟨t + 1, s2, m2, F9, by go_num, HN.out, L10.out, HNF9.out, K10.out⟩
            case measure => simp [intOf]; omega
          · obtain ⟨e3, em, et⟩ := HA.out.last hc
            have c0 : wr.cell? ⟨b3, 0, none⟩ = some (.int .u32 3) := (cell_of_row _ _ 0 _ _ _ HK.out).trans (by show some (Value.int .u32 ((s.code : Nat) : Int)) = _; rw [e3]; rfl)
            have c4 : wr.cell? ⟨b3, 4, none⟩ = some (.int .u32 (64 * (L1n : Int))) := (cell_of_row _ _ 4 _ _ _ HK.out).trans (by show some (Value.int .u32 ((s.moved : Nat) : Int)) = _; rw [em]; rfl)
            have HS := Lib.hid (dma_sure wr (HM.out.reg HR.out).1)
            have hte : ((t : Int) == 64 * (1 + ((L1n : Int) + 63) / 64) + 1) = true := by rw [et]; simp
            have hen := err_nil_eql
            have HFR := Lib.hid HM.out.fr
            clear hc e3 em et
            go_wp2_with fail
            refine (HS.out).mono ?_
            rintro e w11 ⟨rfl, hb⟩
            go_wp2_with fail
            go_ret
            exact ⟨rfl, HFR.out.trans (hb.mono HFR.out.size)⟩
end Go.Proofs.YtocbfchmngcgkaaDoor
