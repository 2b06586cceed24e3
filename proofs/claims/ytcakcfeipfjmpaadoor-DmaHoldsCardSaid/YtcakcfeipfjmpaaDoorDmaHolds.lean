/-
pinnacelaw12.DmaHolds, walked: it answers true.
Condition: the table of regions of package bus reads as its text lays it.
-/
import Derived.Test.YtcakcfeipfjmpaaDoorLawTwo
import Derived.Deep.RegionHeld
namespace Go.Proofs.YtcakcfeipfjmpaaDoor
open Go.RowKit

theorem sub_far (a b k : Nat) (hk1 : 1 ≤ k) (hk : k ≤ 64) (_ha : a < 4294967296) (e : b = (a + k) % 4294967296) : decide ((64 : Int) < ((b : Int) - (a : Int)) % 4294967296) = false ∧ ((b : Int) == (a : Int)) = false := by
  refine ⟨decide_eq_false (by omega), ?_⟩
  have : (b : Int) ≠ a := by omega
  simpa using this
theorem sub_same (a b : Nat) (e : b = a) : decide ((64 : Int) < ((b : Int) - (a : Int)) % 4294967296) = false ∧ ((b : Int) == (a : Int)) = true := by
  subst e
  exact ⟨decide_eq_false (by omega), by simp⟩
set_option maxRecDepth 100000 in
set_option maxHeartbeats 8000000 in
theorem dma_holds (s : Dst) (hs : s.wf) (p : Option Addr) (l : List (Nat × Nat)) (cap : Nat) (w : World) (hl : PairsL w p l) (hmax : l.length ≤ maxLen) (hr : RegAt w) :
    Calls Tryd.prog 4 #[.agg s.c, .slice p l.length cap] w fun e w' => e = .returned (.bool true) ∧ Below w.heap.size w w' := by
  have HRG := Lib.hid hr
  have HS := Lib.hid (heap_alloc_new w (.cells s.c 24))
  have HB0 := Lib.hid ((Below.refl w.heap.size w).alloc (Nat.le_refl _) (.cells s.c 24))
  have HBT := Lib.hid (both_ok p l cap (w.alloc (.cells s.c 24)) (hl.below HB0.out) hmax)
  have HSZ0 : Hid ((w.alloc (.cells s.c 24)).heap.size = w.heap.size + 1) := Lib.hid (by simp)
  clear hr hl hmax
  go_enter Tryd.func4, Tryd.ntmps4
  go_upto_region 1 with fail
  generalize w.alloc (.cells s.c 24) = w1 at HS HB0 HBT HSZ0 ⊢
  go_wp2_with fail
  refine (HBT.out).mono ?_
  rintro e w2 ⟨g, F2, v, rfl, hlm, hrf⟩
  clear HBT
  obtain ⟨C, rfl, hCs, hC1⟩ := hrf.form
  have HC1 := Lib.hid (And.intro hCs hC1)
  have hlt2 := hlm.fr.size
  have HLO : Hid (∀ k, F2 k → w.heap.size < k) := Lib.hid (fun k hk => by have := hlm.lo k hk; have := HSZ0.out; omega)
  have L2 : Hid (LawMem w w2 g (layL (l.take 40)) F2) := Lib.hid ⟨hlm.ram, fun k hk => by have := HLO.out k hk; omega, HB0.out.trans (hlm.fr.mono HB0.out.size)⟩
  have KS2 := Lib.hid (keepB HS.out hlm.fr)
  have R2 := Lib.hid hrf
  have HSZ2 : Hid (w.heap.size + 1 ≤ w2.heap.size) := Lib.hid (by have := HSZ0.out; omega)
  have HR1 : Hid (w1.heap.size = w.heap.size + 1) := HSZ0
  clear hlm hrf hCs hC1 hlt2 HS HB0 HSZ0
  have HAL := Lib.hid ((Below.refl w2.heap.size w2).alloc (Nat.le_refl _) (.cells #[.slice none 0 0, .slice none 0 0, .int .i64 0] 30))
  have KA := Lib.hid (heap_alloc_new w2 (.cells #[.slice none 0 0, .slice none 0 0, .int .i64 0] 30))
  have L3 := Lib.hid (L2.out.below HAL.out)
  have KS3 := Lib.hid (keepB KS2.out HAL.out)
  have HNX : Hid (¬ F2 w2.heap.size) := Lib.hid (fun hf => absurd (L2.out.ram.lt _ hf) (Nat.lt_irrefl _))
  have R3 : Hid (RefF (w2.alloc (.cells #[.slice none 0 0, .slice none 0 0, .int .i64 0] 30)) w1.heap.size (.agg C) (layL (l.take 40)) (fun k => F2 k ∨ k = w2.heap.size)) := Lib.hid (by
    obtain ⟨n1, n2, b1, c1, b2, c2, hv, h1, h2, h3, h4, h5, h6⟩ := R2.out
    exact ⟨n1, n2, b1, c1, b2, c2, hv, h1, h2, fun h => h.elim h3 (fun e => by have := h5.lt; omega), fun h => h.elim h4 (fun e => by have := h6.lt; omega), h5.below HAL.out, h6.below HAL.out⟩)
  clear R2 L2 KS2 HAL
  go_wp2_with (refine wpList_store_to rfl 30 _ _ rfl w2.heap.size C rfl rfl 30 #[.slice none 0 0, .slice none 0 0, .int .i64 0] KA.out (by rw [HC1.out.1]; kernel_rfl) (by rw [HC1.out.1]; rfl) HC1.out.2 ?_)
  intro w4 hx hk
  have L4 := Lib.hid (L3.out.own hx.out (by have := HSZ2.out; omega) HNX.out)
  have R4 := Lib.hid (R3.out.kx hx.out (fun k hk => .inl (.inr hk)))
  have KS4 := Lib.hid (hx.out.heap KS3.out (by have := HSZ2.out; omega))
  have KR4 := Lib.hid hk
  have HSZ4 : Hid (w.heap.size < w2.heap.size) := Lib.hid (by have := HSZ2.out; omega)
  rw [HR1.out] at R4
  clear hx hk L3 R3 KS3 KA HSZ2 HR1
  generalize w2.heap.size = bR at HNX R4 KR4 HSZ4 ⊢
  obtain ⟨m, hm⟩ : ∃ m, m = layL (l.take 40) := ⟨_, rfl⟩
  have HMN : Hid (m.n = 2) := Lib.hid (by rw [hm]; exact layL_n _)
  rw [← hm] at L4 R4
  clear hm
  have HAL := Lib.hid ((Below.refl w4.heap.size w4).alloc (Nat.le_refl _) (.cells #[.int .u32 0, .int .u32 0, .int .u32 0, .int .u32 0, .int .u32 0, .bool false, .int .u32 0, .int .u32 0, .int .u32 0, .int .u32 0, .bool false] 33))
  have KA := Lib.hid (heap_alloc_new w4 (.cells #[.int .u32 0, .int .u32 0, .int .u32 0, .int .u32 0, .int .u32 0, .bool false, .int .u32 0, .int .u32 0, .int .u32 0, .int .u32 0, .bool false] 33))
  have L5 := Lib.hid (L4.out.below HAL.out)
  have HNX4 : Hid (¬ F2 w4.heap.size) := Lib.hid (fun hf => absurd (L4.out.ram.lt _ hf) (Nat.lt_irrefl _))
  have HLT4 : Hid (w.heap.size < w4.heap.size) := Lib.hid (lt_heap KS4.out)
  clear HAL L4
  go_wp2_with (first | (refine wpList_load_row rfl 24 _ rfl w.heap.size rfl 24 s.c (0, 0) _ KS4.out Tryd.underlying24 rfl rfl ?_) | (refine wpList_store_to rfl 33 _ _ rfl w4.heap.size s.c rfl rfl 33 #[.int .u32 0, .int .u32 0, .int .u32 0, .int .u32 0, .int .u32 0, .bool false, .int .u32 0, .int .u32 0, .int .u32 0, .int .u32 0, .bool false] KA.out (by kernel_rfl) rfl (Dst.c_one _) ?_))
  intro w6 hx hk
  have L6 := Lib.hid (L5.out.own hx.out (by have := HLT4.out; omega) HNX4.out)
  have KX6 := Lib.hid hk
  clear hx hk L5 KS4 KA KR4 R4 HC1
  generalize w4.heap.size = bX at HNX4 HLT4 KX6 ⊢
  have HCK := Lib.hid (fun W => dma_Check s W)
  by_cases hok : s.okP
  · rw [if_pos hok] at HCK
    go_wp2_with (first | go_skip | (refine load_rowG ?hw 33 _ rfl bX rfl 33 s.c (0, 0) _ KX6.out Tryd.underlying33 rfl rfl ?_; case hw => kernel_rfl))
    refine (HCK.out _).mono ?_
    rintro e w7 ⟨rfl, hb⟩
    have L7 := Lib.hid (L6.out.below hb)
    have KX7 := Lib.hid (keepB KX6.out hb)
    clear hb L6 KX6 HCK
    have HOK := Lib.hid (And.intro hs hok)
    clear hs hok
    go_wp2_with fail
    go_loopw [8] (fun i wr => ∃ (j : Nat) (x : Dst) (m : Mm) (F : Nat → Prop), i = .int .i64 j ∧ j ≤ 60 ∧ m.n = 2 ∧ x.wf ∧ x.okP ∧ LawMem w wr g m F ∧ ¬ F bX ∧ wr.heap[bX]? = some (.cells x.c 33 (0, 0))) (fun i _ => 60 - (intOf i).toNat)
    case atStart => exact ⟨0, s, m, F2, rfl, by omega, HMN.out, HOK.out.1, HOK.out.2, L7.out, HNX4.out, KX7.out⟩
    case round =>
      clear HOK HMN L7 HNX4 KX7 HLO HNX HSZ4
      obtain ⟨j, x, m, F, rfl, hj, hmn, hxw, hxo, hlm, hnf, hk⟩ := hrel
      have HMN := Lib.hid hmn
      have HX := Lib.hid (And.intro hxw hxo)
      have L := Lib.hid hlm
      have HNF := Lib.hid hnf
      have K := Lib.hid hk
      clear hmn hxw hxo hlm hnf hk
      by_cases hlt : j < 60
      · have hji : (j : Int) < 60 := by omega
        have HCN := Lib.hid (mem_Clone_ok L.out.ram)
        go_wp2_with fail
        refine (HCN.out).mono ?_
        rintro e w8 ⟨g2, dc, pc, G, rfl, htwo, hG, hb⟩
        have T8 := Lib.hid (LawTwo.of L.out htwo hG hb)
        have KX8 := Lib.hid (keepB K.out hb)
        have HGX : Hid (¬ G bX) := Lib.hid (fun h => by have := hG _ h; have := lt_heap K.out; omega)
        clear htwo hG hb HCN L K
        have HT := Lib.hid (dma_Tick x HX.out.1 T8.out.two.a (T8.out.law.reg HRG.out).1 (T8.out.law.reg HRG.out).2)
        have HKP := Lib.hid (tick_kept x m HX.out.1 HX.out.2)
        go_wp2_with (refine wpList_load_row rfl 33 _ rfl bX rfl 33 x.c (0, 0) _ KX8.out Tryd.underlying33 rfl rfl ?_)
        refine (HT.out).mono ?_
        rintro e w9 ⟨rfl, F9, h1, h2⟩
        have T9 := Lib.hid (T8.out.step h1 h2)
        have KX9 := Lib.hid (h2.heap KX8.out HNF.out)
        have HNF9 : Hid (¬ F9 bX) := Lib.hid (h2.off (lt_heap KX8.out) HNF.out)
        clear h1 h2 HT T8 KX8 HNF
        generalize x.tick m = y at HKP ⊢
        generalize x.after m = m2 at HKP T9
        have HAL := Lib.hid ((Below.refl w9.heap.size w9).alloc (Nat.le_refl _) (.cells #[.int .u32 0, .int .u32 0, .int .u32 0, .int .u32 0, .int .u32 0, .bool false, .int .u32 0, .int .u32 0, .int .u32 0, .int .u32 0, .bool false] 33))
        have T10 := Lib.hid (T9.out.below HAL.out)
        have KY10 := Lib.hid (heap_alloc_new w9 (.cells #[.int .u32 0, .int .u32 0, .int .u32 0, .int .u32 0, .int .u32 0, .bool false, .int .u32 0, .int .u32 0, .int .u32 0, .int .u32 0, .bool false] 33))
        have KX10 := Lib.hid (keepB KX9.out HAL.out)
        have HLY : Hid (bX < w9.heap.size) := Lib.hid (lt_heap KX9.out)
        have HNY : Hid (¬ F9 w9.heap.size ∧ ¬ G w9.heap.size) := Lib.hid ⟨fun hf => absurd (T9.out.two.a.lt _ hf) (Nat.lt_irrefl _), fun hf => absurd (T9.out.two.b.lt _ hf) (Nat.lt_irrefl _)⟩
        clear HAL T9 KX9
        go_wp2_with (refine wpList_store_to rfl 33 _ _ rfl w9.heap.size y.c rfl rfl 33 #[.int .u32 0, .int .u32 0, .int .u32 0, .int .u32 0, .int .u32 0, .bool false, .int .u32 0, .int .u32 0, .int .u32 0, .int .u32 0, .bool false] KY10.out (by kernel_rfl) rfl (Dst.c_one _) ?_)
        intro w11 hx11 k11
        have T11 := Lib.hid (T10.out.own hx11.out (by have := HLT4.out; have := HLY.out; omega) HNY.out.1 HNY.out.2)
        have KX11 := Lib.hid (hx11.out.heap KX10.out (by have := HLY.out; omega))
        have KY11 := Lib.hid k11
        clear hx11 k11 T10 KX10 KY10
        generalize w9.heap.size = bY at HLY HNY KY11 ⊢
        have HCY := Lib.hid (fun W => dma_Check y W)
        rw [if_pos HKP.out.ok] at HCY
        go_wp2_with (first | go_skip | (refine load_rowG ?hw 33 _ rfl bY rfl 33 y.c (0, 0) _ KY11.out Tryd.underlying33 rfl rfl ?_; case hw => kernel_rfl))
        refine (HCY.out _).mono ?_
        rintro e w12 ⟨rfl, hb⟩
        have T12 := Lib.hid (T11.out.below hb)
        have KX12 := Lib.hid (keepB KX11.out hb)
        have KY12 := Lib.hid (keepB KY11.out hb)
        clear hb HCY T11 KX11 KY11
        have d4 : w12.cell? ⟨bX, 4, none⟩ = some (.int .u32 (x.moved : Nat)) := (cell_of_row _ _ 4 _ _ _ KX12.out).trans rfl
        have d1 : w12.cell? ⟨bX, 1, none⟩ = some (.int .u32 (x.head : Nat)) := (cell_of_row _ _ 1 _ _ _ KX12.out).trans rfl
        have d0 : w12.cell? ⟨bX, 0, none⟩ = some (.int .u32 (x.code : Nat)) := (cell_of_row _ _ 0 _ _ _ KX12.out).trans rfl
        have c1 : w12.cell? ⟨bY, 1, none⟩ = some (.int .u32 (x.head : Nat)) := (cell_of_row _ _ 1 _ _ _ KY12.out).trans (by show some (Value.int .u32 ((y.head : Nat) : Int)) = _; rw [HKP.out.head])
        have c4 : w12.cell? ⟨bY, 4, none⟩ = some (.int .u32 (y.moved : Nat)) := (cell_of_row _ _ 4 _ _ _ KY12.out).trans rfl
        rcases HKP.out.far with ⟨em, em2⟩ | ⟨k, hk1, hk2, em⟩
        · obtain ⟨b1, b2⟩ := sub_same x.moved y.moved em
          subst em2
          clear em
          have HSM := Lib.hid (mem_Same_ok T12.out.two rfl)
          rw [twin_same] at HSM
          go_wp2_with fail
          refine (HSM.out).mono ?_
          rintro e w15 ⟨F15, G15, rfl, htwo, hkx, hF, hG⟩
          clear HSM d1 d4 d0 c1 c4
          have T15 := Lib.hid (T12.out.same htwo hkx hF hG)
          have KX15 := Lib.hid (hkx.heap KX12.out (fun h => h.elim HNF9.out HGX.out))
          have KY15 := Lib.hid (hkx.heap KY12.out (fun h => h.elim HNY.out.1 HNY.out.2))
          have NF15 : Hid (¬ F15 bX) := Lib.hid (fun h => (hF _ h).elim HNF9.out (fun e => by have := lt_heap KX12.out; omega))
          clear htwo hkx hF hG T12 KX12 KY12
          have d0 : w15.cell? ⟨bX, 0, none⟩ = some (.int .u32 (x.code : Nat)) := (cell_of_row _ _ 0 _ _ _ KX15.out).trans rfl
          by_cases hc : x.code = 1
          · have b0 : ((x.code : Int) != 1) = false := by rw [hc]; rfl
            have HEQ : ∀ W, (binOp BinOp.eql 33 (.agg y.c) (.agg x.c)).run Tryd.prog W = .ok (.bool false) W := fun W => by rw [dst_eql, decide_eq_false (HKP.out.busy hc)]
            clear hc
            go_wp2_with (first | go_skip | (refine load_rowG ?hw 33 _ rfl bY rfl 33 y.c (0, 0) _ KY15.out Tryd.underlying33 rfl rfl ?_; case hw => kernel_rfl) | (refine load_rowG ?hw 33 _ rfl bX rfl 33 x.c (0, 0) _ KX15.out Tryd.underlying33 rfl rfl ?_; case hw => kernel_rfl) | (refine wpList_store_to rfl 33 _ _ rfl bX y.c rfl rfl 33 x.c KX15.out rfl rfl (Dst.c_one _) ?_))
            intro w20 hx20 k20
            have L20 := Lib.hid (T15.out.law.own hx20.out (by have := HLT4.out; omega) NF15.out)
            have K20 := Lib.hid k20
            clear hx20 k20
            go_wp2_with fail
            go_roundw
            case rel => exact ⟨j + 1, y, m2, F15, by go_num, by omega, HKP.out.n.trans HMN.out, HKP.out.wf, HKP.out.ok, L20.out, NF15.out, K20.out⟩
            case measure => simp [intOf]; omega
          · have b0 : ((x.code : Int) != 1) = true := by simp; omega
            have HEQ : ∀ W, (binOp BinOp.eql 33 (.agg y.c) (.agg x.c)).run Tryd.prog W = .ok (.bool true) W := fun W => by rw [dst_eql, decide_eq_true (HKP.out.idle hc)]
            have HSU := Lib.hid (dma_sure w15 (T15.out.law.reg HRG.out).1)
            clear hc
            go_wp2_with (first | go_skip | (refine load_rowG ?hw 33 _ rfl bY rfl 33 y.c (0, 0) _ KY15.out Tryd.underlying33 rfl rfl ?_; case hw => kernel_rfl) | (refine load_rowG ?hw 33 _ rfl bX rfl 33 x.c (0, 0) _ KX15.out Tryd.underlying33 rfl rfl ?_; case hw => kernel_rfl))
            refine (HSU.out).mono ?_
            rintro e w20 ⟨rfl, hb⟩
            go_wp2_with fail
            go_ret
            exact ⟨rfl, T15.out.fr.trans (hb.mono T15.out.fr.size)⟩
        · obtain ⟨b1, b2⟩ := sub_far x.moved y.moved k hk1 hk2 HX.out.1.moved em
          clear em hk1 hk2
          by_cases hc : x.code = 1
          · have b0 : ((x.code : Int) != 1) = false := by rw [hc]; rfl
            have HEQ : ∀ W, (binOp BinOp.eql 33 (.agg y.c) (.agg x.c)).run Tryd.prog W = .ok (.bool false) W := fun W => by rw [dst_eql, decide_eq_false (HKP.out.busy hc)]
            clear hc
            go_wp2_with (first | go_skip | (refine load_rowG ?hw 33 _ rfl bY rfl 33 y.c (0, 0) _ KY12.out Tryd.underlying33 rfl rfl ?_; case hw => kernel_rfl) | (refine load_rowG ?hw 33 _ rfl bX rfl 33 x.c (0, 0) _ KX12.out Tryd.underlying33 rfl rfl ?_; case hw => kernel_rfl) | (refine wpList_store_to rfl 33 _ _ rfl bX y.c rfl rfl 33 x.c KX12.out rfl rfl (Dst.c_one _) ?_))
            intro w20 hx20 k20
            have L20 := Lib.hid (T12.out.law.own hx20.out (by have := HLT4.out; omega) HNF9.out)
            have K20 := Lib.hid k20
            clear hx20 k20
            go_wp2_with fail
            go_roundw
            case rel => exact ⟨j + 1, y, m2, F9, by go_num, by omega, HKP.out.n.trans HMN.out, HKP.out.wf, HKP.out.ok, L20.out, HNF9.out, K20.out⟩
            case measure => simp [intOf]; omega
          · have b0 : ((x.code : Int) != 1) = true := by simp; omega
            have HEQ : ∀ W, (binOp BinOp.eql 33 (.agg y.c) (.agg x.c)).run Tryd.prog W = .ok (.bool true) W := fun W => by rw [dst_eql, decide_eq_true (HKP.out.idle hc)]
            have HSU := Lib.hid (dma_sure w12 (T12.out.law.reg HRG.out).1)
            clear hc
            go_wp2_with (first | go_skip | (refine load_rowG ?hw 33 _ rfl bY rfl 33 y.c (0, 0) _ KY12.out Tryd.underlying33 rfl rfl ?_; case hw => kernel_rfl) | (refine load_rowG ?hw 33 _ rfl bX rfl 33 x.c (0, 0) _ KX12.out Tryd.underlying33 rfl rfl ?_; case hw => kernel_rfl))
            refine (HSU.out).mono ?_
            rintro e w20 ⟨rfl, hb⟩
            go_wp2_with fail
            go_ret
            exact ⟨rfl, T12.out.fr.trans (hb.mono T12.out.fr.size)⟩
      · have hji : ¬ (j : Int) < 60 := by omega
        have HSU := Lib.hid (dma_sure wr (L.out.reg HRG.out).1)
        go_wp2_with fail
        refine (HSU.out).mono ?_
        rintro e w8 ⟨rfl, hb⟩
        go_wp2_with fail
        go_ret
        exact ⟨rfl, L.out.fr.trans (hb.mono L.out.fr.size)⟩
  · rw [if_neg hok] at HCK
    have HSU := Lib.hid (fun W (h : RegAt W) => dma_sure W h)
    simp only [errV_1] at HCK
    go_wp2_with (first | go_skip | (refine load_rowG ?hw 33 _ rfl bX rfl 33 s.c (0, 0) _ KX6.out Tryd.underlying33 rfl rfl ?_; case hw => kernel_rfl))
    refine (HCK.out _).mono ?_
    rintro e w7 ⟨rfl, hb⟩
    have L7 := Lib.hid (L6.out.below hb)
    clear hb L6 KX6 HCK
    go_wp2_with fail
    refine (HSU.out _ (L7.out.reg HRG.out).1).mono ?_
    rintro e w8 ⟨rfl, hb⟩
    go_wp2_with fail
    go_ret
    exact ⟨rfl, L7.out.fr.trans (hb.mono L7.out.fr.size)⟩
end Go.Proofs.YtcakcfeipfjmpaaDoor
