/-
pinnacelaw12.DmaStops, walked: it answers true.
Condition: the table of regions of package bus reads as its text lays it.
-/
import Derived.Test.YtcakcfeipfjmpaaDoorLawTwo
import Derived.Deep.RegionHeld
namespace Go.Proofs.YtcakcfeipfjmpaaDoor
open Go.RowKit

set_option maxRecDepth 100000 in
set_option maxHeartbeats 8000000 in
theorem dma_stops (s : Dst) (hs : s.wf) (p : Option Addr) (l : List (Nat × Nat)) (cap : Nat) (tk : Int) (w : World) (hl : PairsL w p l) (hmax : l.length ≤ maxLen) (hr : RegAt w) :
    Calls Tryd.prog 5 #[.agg s.c, .slice p l.length cap, .int .i64 tk] w fun e w' => e = .returned (.bool true) ∧ Below w.heap.size w w' := by
  have HRG := Lib.hid hr
  have HS := Lib.hid (heap_alloc_new w (.cells s.c 24))
  have HB0 := Lib.hid ((Below.refl w.heap.size w).alloc (Nat.le_refl _) (.cells s.c 24))
  have HBT := Lib.hid (both_ok p l cap (w.alloc (.cells s.c 24)) (hl.below HB0.out) hmax)
  have HSZ0 : Hid ((w.alloc (.cells s.c 24)).heap.size = w.heap.size + 1) := Lib.hid (by simp)
  clear hr hl hmax
  go_enter Tryd.func5, Tryd.ntmps5
  go_upto_region 1 with fail
  generalize w.alloc (.cells s.c 24) = w1 at HS HB0 HBT HSZ0 ⊢
  go_wp2_with fail
  refine (HBT.out).mono ?_
  rintro e w2 ⟨g, F2, v, rfl, hlm, hrf⟩
  clear HBT
  obtain ⟨C, rfl, hCs, hC1⟩ := hrf.form
  have HC1 := Lib.hid (And.intro hCs hC1)
  have hlt2 := hlm.fr.size
  have HLO : Hid (∀ k, F2 k → w.heap.size < k) := Lib.hid (fun k hk => by have := hlm.lo k hk; have := HSZ0.out; omega)
  have L2 : Hid (LawMem w w2 g (layL (l.take 40)) F2) := Lib.hid ⟨hlm.ram, fun k hk => by have := HLO.out k hk; omega, HB0.out.trans (hlm.fr.mono HB0.out.size)⟩
  have KS2 := Lib.hid (keepB HS.out hlm.fr)
  have R2 := Lib.hid hrf
  have HSZ2 : Hid (w.heap.size + 1 ≤ w2.heap.size) := Lib.hid (by have := HSZ0.out; omega)
  have HR1 : Hid (w1.heap.size = w.heap.size + 1) := HSZ0
  clear hlm hrf hCs hC1 hlt2 HS HB0 HSZ0
  have HAL := Lib.hid ((Below.refl w2.heap.size w2).alloc (Nat.le_refl _) (.cells #[.slice none 0 0, .slice none 0 0, .int .i64 0] 30))
  have KA := Lib.hid (heap_alloc_new w2 (.cells #[.slice none 0 0, .slice none 0 0, .int .i64 0] 30))
  have L3 := Lib.hid (L2.out.below HAL.out)
  have KS3 := Lib.hid (keepB KS2.out HAL.out)
  have HNX : Hid (¬ F2 w2.heap.size) := Lib.hid (fun hf => absurd (L2.out.ram.lt _ hf) (Nat.lt_irrefl _))
  have R3 : Hid (RefF (w2.alloc (.cells #[.slice none 0 0, .slice none 0 0, .int .i64 0] 30)) w1.heap.size (.agg C) (layL (l.take 40)) (fun k => F2 k ∨ k = w2.heap.size)) := Lib.hid (by
    obtain ⟨n1, n2, b1, c1, b2, c2, hv, h1, h2, h3, h4, h5, h6⟩ := R2.out
    exact ⟨n1, n2, b1, c1, b2, c2, hv, h1, h2, fun h => h.elim h3 (fun e => by have := h5.lt; omega), fun h => h.elim h4 (fun e => by have := h6.lt; omega), h5.below HAL.out, h6.below HAL.out⟩)
  clear R2 L2 KS2 HAL
  go_wp2_with (refine wpList_store_to rfl 30 _ _ rfl w2.heap.size C rfl rfl 30 #[.slice none 0 0, .slice none 0 0, .int .i64 0] KA.out (by rw [HC1.out.1]; kernel_rfl) (by rw [HC1.out.1]; rfl) HC1.out.2 ?_)
  intro w4 hx hk
  have L4 := Lib.hid (L3.out.own hx.out (by have := HSZ2.out; omega) HNX.out)
  have R4 := Lib.hid (R3.out.kx hx.out (fun k hk => .inl (.inr hk)))
  have KS4 := Lib.hid (hx.out.heap KS3.out (by have := HSZ2.out; omega))
  have KR4 := Lib.hid hk
  have HSZ4 : Hid (w.heap.size < w2.heap.size) := Lib.hid (by have := HSZ2.out; omega)
  rw [HR1.out] at R4
  clear hx hk L3 R3 KS3 KA HSZ2 HR1
  generalize w2.heap.size = bR at HNX R4 KR4 HSZ4 ⊢
  obtain ⟨m, hm⟩ : ∃ m, m = layL (l.take 40) := ⟨_, rfl⟩
  have HMN : Hid (m.n = 2) := Lib.hid (by rw [hm]; exact layL_n _)
  rw [← hm] at L4 R4
  clear hm
  have HAL := Lib.hid ((Below.refl w4.heap.size w4).alloc (Nat.le_refl _) (.cells #[.int .u32 0, .int .u32 0, .int .u32 0, .int .u32 0, .int .u32 0, .bool false, .int .u32 0, .int .u32 0, .int .u32 0, .int .u32 0, .bool false] 33))
  have KA := Lib.hid (heap_alloc_new w4 (.cells #[.int .u32 0, .int .u32 0, .int .u32 0, .int .u32 0, .int .u32 0, .bool false, .int .u32 0, .int .u32 0, .int .u32 0, .int .u32 0, .bool false] 33))
  have L5 := Lib.hid (L4.out.below HAL.out)
  have HNX4 : Hid (¬ F2 w4.heap.size) := Lib.hid (fun hf => absurd (L4.out.ram.lt _ hf) (Nat.lt_irrefl _))
  have HLT4 : Hid (w.heap.size < w4.heap.size) := Lib.hid (lt_heap KS4.out)
  clear HAL L4
  go_wp2_with (first | (refine wpList_load_row rfl 24 _ rfl w.heap.size rfl 24 s.c (0, 0) _ KS4.out Tryd.underlying24 rfl rfl ?_) | (refine wpList_store_to rfl 33 _ _ rfl w4.heap.size s.c rfl rfl 33 #[.int .u32 0, .int .u32 0, .int .u32 0, .int .u32 0, .int .u32 0, .bool false, .int .u32 0, .int .u32 0, .int .u32 0, .int .u32 0, .bool false] KA.out (by kernel_rfl) rfl (Dst.c_one _) ?_))
  intro w6 hx hk
  have L6 := Lib.hid (L5.out.own hx.out (by have := HLT4.out; omega) HNX4.out)
  have KX6 := Lib.hid hk
  clear hx hk L5 KS4 KA KR4 R4 HC1
  generalize w4.heap.size = bX at HNX4 HLT4 KX6 ⊢
  have HCK := Lib.hid (fun W => dma_Check s W)
  by_cases hok : s.okP
  · rw [if_pos hok] at HCK
    go_wp2_with (first | go_skip | (refine load_rowG ?hw 33 _ rfl bX rfl 33 s.c (0, 0) _ KX6.out Tryd.underlying33 rfl rfl ?_; case hw => kernel_rfl))
    refine (HCK.out _).mono ?_
    rintro e w7 ⟨rfl, hb⟩
    have L7 := Lib.hid (L6.out.below hb)
    have KX7 := Lib.hid (keepB KX6.out hb)
    clear hb L6 KX6 HCK
    have HOK := Lib.hid (And.intro hs hok)
    clear hs hok
    obtain ⟨q, hq, eq⟩ := fold_0 tk 8 (by omega) (by omega)
    have EQ := Lib.hid eq
    clear eq
    go_wp2_with fail
    go_loopw [10] (fun i wr => ∃ (j : Nat) (x : Dst) (m : Mm) (F : Nat → Prop), i = .int .i64 j ∧ j ≤ q ∧ m.n = 2 ∧ x.wf ∧ x.okP ∧ LawMem w wr g m F ∧ ¬ F bX ∧ wr.heap[bX]? = some (.cells x.c 33 (0, 0))) (fun i _ => q - (intOf i).toNat)
    case atStart => exact ⟨0, s, m, F2, rfl, by omega, HMN.out, HOK.out.1, HOK.out.2, L7.out, HNX4.out, KX7.out⟩
    case round =>
      clear HOK HMN L7 HNX4 KX7 HLO HNX HSZ4
      obtain ⟨j, x, m, F, rfl, hj, hmn, hxw, hxo, hlm, hnf, hk⟩ := hrel
      have HMN := Lib.hid hmn
      have HX := Lib.hid (And.intro hxw hxo)
      have L := Lib.hid hlm
      have HNF := Lib.hid hnf
      have K := Lib.hid hk
      clear hmn hxw hxo hlm hnf hk
      by_cases hlt : j < q
      · have HBD : decide ((j : Int) < wrap64 ((IntKind.u64.wrap tk).tmod 8)) = true := by rw [EQ.out]; exact decide_eq_true (by omega)
        have HT := Lib.hid (dma_Tick x HX.out.1 L.out.ram (L.out.reg HRG.out).1 (L.out.reg HRG.out).2)
        have HKP := Lib.hid (tick_kept x m HX.out.1 HX.out.2)
        go_wp2_with (refine wpList_load_row rfl 33 _ rfl bX rfl 33 x.c (0, 0) _ K.out Tryd.underlying33 rfl rfl ?_)
        refine (HT.out).mono ?_
        rintro e w9 ⟨rfl, F9, h1, h2⟩
        have L9 := Lib.hid (L.out.step h1 h2)
        have K9 := Lib.hid (h2.heap K.out HNF.out)
        have HNF9 : Hid (¬ F9 bX) := Lib.hid (h2.off (lt_heap K.out) HNF.out)
        clear h1 h2 HT HBD L K
        generalize x.tick m = x2 at HKP ⊢
        generalize x.after m = m2 at HKP L9
        go_wp2_with (refine wpList_store_to rfl 33 _ _ rfl bX x2.c rfl rfl 33 x.c K9.out rfl rfl (Dst.c_one _) ?_)
        intro w10 hx10 k10
        have L10 := Lib.hid (L9.out.own hx10.out (by have := HLT4.out; omega) HNF9.out)
        have K10 := Lib.hid k10
        clear hx10 k10 L9 K9
        go_wp2_with fail
        go_roundw
        case rel => exact ⟨j + 1, x2, m2, F9, by go_num, by omega, HKP.out.n.trans HMN.out, HKP.out.wf, HKP.out.ok, L10.out, HNF9.out, K10.out⟩
        case measure => simp [intOf]; omega
      · have HBD : decide ((j : Int) < wrap64 ((IntKind.u64.wrap tk).tmod 8)) = false := by rw [EQ.out]; exact decide_eq_false (by omega)
        have HWR := Lib.hid (fun W => dma_Write_ok x 0 2 W HX.out.2 (by omega) (by omega))
        rw [show ((0 : Nat) : Int) = 0 from rfl, show ((2 : Nat) : Int) = 2 from rfl] at HWR
        have HY : Hid ((x.wr 0 2).wf ∧ (x.wr 0 2).code = 0 ∧ (x.wr 0 2).head = x.head ∧ (x.wr 0 2).moved = x.moved ∧ (x.wr 0 2).asks = false ∧ ∀ m, (x.wr 0 2).tick m = x.wr 0 2 ∧ (x.wr 0 2).after m = m) := Lib.hid (by
          refine ⟨stop_wf x HX.out.1, by rw [stop_eq]; rfl, by rw [stop_eq], by rw [stop_eq], by rw [stop_eq]; rfl, fun m => ?_⟩
          have hc : (x.wr 0 2).code ≠ 1 := by rw [stop_eq]; show (0 : Nat) ≠ 1; omega
          have hk := tick_kept (x.wr 0 2) m (stop_wf x HX.out.1) (stop_ok x)
          exact ⟨hk.idle hc, by unfold Dst.after; rw [if_neg (fun h => hc h.1.code)]⟩)
        generalize x.wr 0 2 = y at HWR HY
        go_wp2_with (refine wpList_load_row rfl 33 _ rfl bX rfl 33 x.c (0, 0) _ K.out Tryd.underlying33 rfl rfl ?_)
        refine (HWR.out _).mono ?_
        rintro e w9 ⟨rfl, hb⟩
        clear HWR HBD
        have L9 := Lib.hid ((L.out.below hb).below ((Below.refl w9.heap.size w9).alloc (Nat.le_refl _) (.cells #[.int .u32 0, .int .u32 0, .int .u32 0, .int .u32 0, .int .u32 0, .bool false, .int .u32 0, .int .u32 0, .int .u32 0, .int .u32 0, .bool false] 33)))
        have KY9 := Lib.hid (heap_alloc_new w9 (.cells #[.int .u32 0, .int .u32 0, .int .u32 0, .int .u32 0, .int .u32 0, .bool false, .int .u32 0, .int .u32 0, .int .u32 0, .int .u32 0, .bool false] 33))
        have KX9 := Lib.hid (keepB (keepB K.out hb) ((Below.refl w9.heap.size w9).alloc (Nat.le_refl _) (.cells #[.int .u32 0, .int .u32 0, .int .u32 0, .int .u32 0, .int .u32 0, .bool false, .int .u32 0, .int .u32 0, .int .u32 0, .int .u32 0, .bool false] 33)))
        have HLY : Hid (bX < w9.heap.size) := Lib.hid (lt_heap (keepB K.out hb))
        have HNY : Hid (¬ F w9.heap.size) := Lib.hid (fun hf => absurd ((L.out.below hb).ram.lt _ hf) (Nat.lt_irrefl _))
        clear hb L K
        go_wp2_with (refine wpList_store_to rfl 33 _ _ rfl w9.heap.size y.c rfl rfl 33 #[.int .u32 0, .int .u32 0, .int .u32 0, .int .u32 0, .int .u32 0, .bool false, .int .u32 0, .int .u32 0, .int .u32 0, .int .u32 0, .bool false] KY9.out (by kernel_rfl) rfl (Dst.c_one _) ?_)
        intro w10 hx10 k10
        have L10 := Lib.hid (L9.out.own hx10.out (by have := HLT4.out; have := HLY.out; omega) HNY.out)
        have KX10 := Lib.hid (hx10.out.heap KX9.out (by have := HLY.out; omega))
        have KY10 := Lib.hid k10
        clear hx10 k10 L9 KX9 KY9
        generalize w9.heap.size = bY at HLY HNY KY10 ⊢
        have HCN := Lib.hid (mem_Clone_ok L10.out.ram)
        go_wp2_with fail
        refine (HCN.out).mono ?_
        rintro e w11 ⟨g2, dc, pc, G, rfl, htwo, hG, hb⟩
        have T11 := Lib.hid (LawTwo.of L10.out htwo hG hb)
        have KX11 := Lib.hid (keepB KX10.out hb)
        have KY11 := Lib.hid (keepB KY10.out hb)
        have HGX : Hid (¬ G bX ∧ ¬ G bY) := Lib.hid ⟨fun h => by have := hG _ h; have := lt_heap KX10.out; omega, fun h => by have := hG _ h; have := lt_heap KY10.out; omega⟩
        clear htwo hG hb HCN L10 KX10 KY10
        have HT := Lib.hid (dma_Tick y HY.out.1 T11.out.two.a (T11.out.law.reg HRG.out).1 (T11.out.law.reg HRG.out).2)
        rw [(HY.out.2.2.2.2.2 m).1, (HY.out.2.2.2.2.2 m).2] at HT
        go_wp2_with (refine wpList_load_row rfl 33 _ rfl bY rfl 33 y.c (0, 0) _ KY11.out Tryd.underlying33 rfl rfl ?_)
        refine (HT.out).mono ?_
        rintro e w12 ⟨rfl, F12, h1, h2⟩
        clear HT
        have T12 := Lib.hid (T11.out.step h1 h2)
        have KX12 := Lib.hid (h2.heap KX11.out HNF.out)
        have KY12 := Lib.hid (h2.heap KY11.out HNY.out)
        have HF12 : Hid (¬ F12 bX ∧ ¬ F12 bY) := Lib.hid ⟨h2.off (lt_heap KX11.out) HNF.out, h2.off (lt_heap KY11.out) HNY.out⟩
        clear h1 h2 T11 KX11 KY11 HNF HNY
        have HAL := Lib.hid ((Below.refl w12.heap.size w12).alloc (Nat.le_refl _) (.cells #[.int .u32 0, .int .u32 0, .int .u32 0, .int .u32 0, .int .u32 0, .bool false, .int .u32 0, .int .u32 0, .int .u32 0, .int .u32 0, .bool false] 33))
        have T13 := Lib.hid (T12.out.below HAL.out)
        have KZ13 := Lib.hid (heap_alloc_new w12 (.cells #[.int .u32 0, .int .u32 0, .int .u32 0, .int .u32 0, .int .u32 0, .bool false, .int .u32 0, .int .u32 0, .int .u32 0, .int .u32 0, .bool false] 33))
        have KX13 := Lib.hid (keepB KX12.out HAL.out)
        have KY13 := Lib.hid (keepB KY12.out HAL.out)
        have HLZ : Hid (bX < w12.heap.size ∧ bY < w12.heap.size) := Lib.hid ⟨lt_heap KX12.out, lt_heap KY12.out⟩
        have HNZ : Hid (¬ F12 w12.heap.size ∧ ¬ G w12.heap.size) := Lib.hid ⟨fun hf => absurd (T12.out.two.a.lt _ hf) (Nat.lt_irrefl _), fun hf => absurd (T12.out.two.b.lt _ hf) (Nat.lt_irrefl _)⟩
        clear HAL T12 KX12 KY12
        go_wp2_with (refine wpList_store_to rfl 33 _ _ rfl w12.heap.size y.c rfl rfl 33 #[.int .u32 0, .int .u32 0, .int .u32 0, .int .u32 0, .int .u32 0, .bool false, .int .u32 0, .int .u32 0, .int .u32 0, .int .u32 0, .bool false] KZ13.out (by kernel_rfl) rfl (Dst.c_one _) ?_)
        intro w14 hx14 k14
        have T14 := Lib.hid (T13.out.own hx14.out (by have := HLT4.out; have := HLZ.out.1; omega) HNZ.out.1 HNZ.out.2)
        have KX14 := Lib.hid (hx14.out.heap KX13.out (by have := HLZ.out.1; omega))
        have KY14 := Lib.hid (hx14.out.heap KY13.out (by have := HLZ.out.2; omega))
        have KZ14 := Lib.hid k14
        clear hx14 k14 T13 KX13 KY13 KZ13
        generalize w12.heap.size = bZ at HLZ HNZ KZ14 ⊢
        have c0 : w14.cell? ⟨bY, 0, none⟩ = some (.int .u32 0) := (cell_of_row _ _ 0 _ _ _ KY14.out).trans (by show some (Value.int .u32 ((y.code : Nat) : Int)) = _; rw [HY.out.2.1]; rfl)
        have hen := err_nil_eql
        have HEQ : ∀ W, (binOp BinOp.eql 33 (.agg y.c) (.agg y.c)).run Tryd.prog W = .ok (.bool true) W := fun W => by rw [dst_eql]; simp
        have HSM := Lib.hid (mem_Same_ok T14.out.two rfl)
        rw [twin_same] at HSM
        go_wp2_with (first | go_skip | (refine load_rowG ?hw 33 _ rfl bZ rfl 33 y.c (0, 0) _ KZ14.out Tryd.underlying33 rfl rfl ?_; case hw => kernel_rfl) | (refine load_rowG ?hw 33 _ rfl bY rfl 33 y.c (0, 0) _ KY14.out Tryd.underlying33 rfl rfl ?_; case hw => kernel_rfl))
        refine (HSM.out).mono ?_
        rintro e w15 ⟨F15, G15, rfl, htwo, hkx, hF, hG⟩
        clear c0 HEQ HSM
        have T15 := Lib.hid (T14.out.same htwo hkx hF hG)
        have KX15 := Lib.hid (hkx.heap KX14.out (fun h => h.elim HF12.out.1 HGX.out.1))
        have KY15 := Lib.hid (hkx.heap KY14.out (fun h => h.elim HF12.out.2 HGX.out.2))
        clear htwo hkx hF hG T14 KX14 KY14 KZ14
        have c1 : w15.cell? ⟨bY, 1, none⟩ = some (.int .u32 (x.head : Nat)) := (cell_of_row _ _ 1 _ _ _ KY15.out).trans (by show some (Value.int .u32 ((y.head : Nat) : Int)) = _; rw [HY.out.2.2.1])
        have c4 : w15.cell? ⟨bY, 4, none⟩ = some (.int .u32 (x.moved : Nat)) := (cell_of_row _ _ 4 _ _ _ KY15.out).trans (by show some (Value.int .u32 ((y.moved : Nat) : Int)) = _; rw [HY.out.2.2.2.1])
        have c10 : w15.cell? ⟨bY, 10, none⟩ = some (.bool false) := (cell_of_row _ _ 10 _ _ _ KY15.out).trans (by show some (Value.bool y.asks) = _; rw [HY.out.2.2.2.2.1])
        have d1 : w15.cell? ⟨bX, 1, none⟩ = some (.int .u32 (x.head : Nat)) := (cell_of_row _ _ 1 _ _ _ KX15.out).trans rfl
        have d4 : w15.cell? ⟨bX, 4, none⟩ = some (.int .u32 (x.moved : Nat)) := (cell_of_row _ _ 4 _ _ _ KX15.out).trans rfl
        have HSU := Lib.hid (dma_sure w15 (T15.out.law.reg HRG.out).1)
        go_wp2_with fail
        refine (HSU.out).mono ?_
        rintro e w16 ⟨rfl, hb⟩
        go_wp2_with fail
        go_ret
        exact ⟨rfl, T15.out.fr.trans (hb.mono T15.out.fr.size)⟩
  · rw [if_neg hok] at HCK
    have HSU := Lib.hid (fun W (h : RegAt W) => dma_sure W h)
    simp only [errV_1] at HCK
    go_wp2_with (first | go_skip | (refine load_rowG ?hw 33 _ rfl bX rfl 33 s.c (0, 0) _ KX6.out Tryd.underlying33 rfl rfl ?_; case hw => kernel_rfl))
    refine (HCK.out _).mono ?_
    rintro e w7 ⟨rfl, hb⟩
    have L7 := Lib.hid (L6.out.below hb)
    clear hb L6 KX6 HCK
    go_wp2_with fail
    refine (HSU.out _ (L7.out.reg HRG.out).1).mono ?_
    rintro e w8 ⟨rfl, hb⟩
    go_wp2_with fail
    go_ret
    exact ⟨rfl, L7.out.fr.trans (hb.mono L7.out.fr.size)⟩
end Go.Proofs.YtcakcfeipfjmpaaDoor
