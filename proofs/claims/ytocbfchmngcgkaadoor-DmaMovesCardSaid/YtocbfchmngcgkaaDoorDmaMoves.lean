/-
pinnacelaw12.DmaMoves, walked: it answers true.
Condition: the table of regions of package bus reads as its text lays it; the slice's cells are numbers.
-/
import Derived.Test.YtocbfchmngcgkaaDoorMoveLaw
namespace Go.Proofs.YtocbfchmngcgkaaDoor
open Go.RowKit

/-- The lengths that a slice of int gives the law: ks. -/
structure LensAt (w : World) (p : Option Addr) (n : Nat) (ks : Nat → Nat) : Prop where
  lo : ∀ j, 1 ≤ ks j
  hi : ∀ j, ks j ≤ 1000
  at_ : ∀ j, j < n → ∃ (b o : Nat) (K : Int), p = some ⟨b, o, none⟩ ∧ (∀ W, Below w.heap.size w W → W.cell? ⟨b, o + j, none⟩ = some (.int .i64 K)) ∧ wrap64 (1 + wrap64 ((IntKind.u64.wrap K).tmod 1000)) = (ks j : Int)
theorem read_at {g : Nat} {m : Mm} {F : Nat → Prop} {w : World} (h : RamIs w g m F) (a n : Nat) (ai ni : Int) (ea : ai = a) (en : ni = n) (ha : a < 4294967296) (hs : a + n ≤ 4096 * m.n) :
    Calls Tryd.prog 21 #[.pointer (some ⟨g, 0, none⟩), .int .u32 ai, .int .i64 ni] w fun e w' => ∃ ao c F', e = .returned (.tuple #[.slice ao (cut m.f a n).length c, .nilIface]) ∧ RamIs w' g m F' ∧ MemStep F F' w w' ∧ BytesAt w' ao (cut m.f a n) F' := by
  subst ea en
  refine (mem_Read_ok h a n ha hs).mono ?_
  rintro e w' ⟨v, F', rfl, h1, h2, h3, h4⟩
  obtain ⟨ao, cv, rfl, hcv, hln, hba⟩ := BytesAt.of_owns h3 h4
  exact ⟨ao, cv, F', by rw [cut_length], h1, h2, hba⟩
theorem mvA_zero (ks : Nat → Nat) : sureS1 = mvA ks 0 := sureS1_eq.trans (by simp [mvA, sumK])
theorem ListTo.none (m : Mm) (ks : Nat → Nat) (n : Nat) (h : m.n = 8) : ListTo m ks n 0 := ⟨h, fun j hj => absurd hj (by omega)⟩
set_option maxRecDepth 100000 in
set_option maxHeartbeats 8000000 in
theorem dma_moves (p : Option Addr) (n cap : Nat) (ks : Nat → Nat) (w : World) (hr : RegAt w) (hl : LensAt w p n ks) : Calls Tryd.prog 4 #[.slice p n cap] w fun e w' => e = .returned (.bool true) ∧ Below w.heap.size w w' := by
  have HR := Lib.hid hr
  have HL := Lib.hid hl
  clear hr hl
  have HN := Lib.hid (new_at 8 8 rfl w (by omega) (by omega))
  go_enter Tryd.func4, Tryd.ntmps4
  go_wp2_with fail
  refine (HN.out).mono ?_
  rintro e w1 ⟨g, F1, rfl, h1, h2, h3⟩
  have L1 := Lib.hid (LawMem.mk h1 h2 h3)
  clear h1 h2 h3 HN
  go_upto_region 5 with fail
  obtain ⟨nn, hnn, hn6, hnl⟩ : ∃ nn : Nat, (if (6 : Int) < (n : Int) then (6 : Int) else (n : Int)) = (nn : Int) ∧ nn ≤ 6 ∧ nn ≤ n := by
    by_cases h : (6 : Int) < (n : Int)
    · exact ⟨6, by rw [if_pos h]; rfl, by omega, by omega⟩
    · exact ⟨n, by rw [if_neg h], by omega, by omega⟩
  rw [hnn]
  clear hnn
  have HNL := Lib.hid hnl
  clear hnl
  have HST := Lib.hid (fun W m F (h : RamIs W g m F) (hn : m.n = 8) (a : Nat) (v : Nat) (vi : Int) (ai : Int) (ea : ai = a) (ev : vi = v) (ha : a % 4 = 0) (hl : a < 32764) => store_at h a 4 v ai 4 vi ea rfl ev (by omega) (.inr (.inr rfl)) (by rw [hn]; omega) ha)
  have HSB := Lib.hid (fun W m F (h : RamIs W g m F) (hn : m.n = 8) (a : Nat) (v : Nat) (vi : Int) (ai : Int) (ea : ai = a) (ev : vi = v) (hl : a < 32764) => store_at h a 1 v ai 1 vi ea rfl ev (by omega) (.inl rfl) (by rw [hn]; omega) (Nat.mod_one a))
  have hz5 : (0 : Int) ≤ (nn : Int) := by omega
  have hn5 : (nn : Int) ≤ 6 := by omega
  go_wp2_with fail
  go_loopw [6, 7, 8] (fun tk tt i wr => ∃ (j : Nat) (m : Mm) (F : Nat → Prop), j ≤ nn ∧ tk = .int .i64 (durK ks j) ∧ tt = .int .i64 (sumK ks j) ∧ i = .int .i64 j ∧ ListTo m ks nn j ∧ LawMem w wr g m F) (fun _ _ i _ => nn - (intOf i).toNat)
  case atStart => exact ⟨0, _, F1, by omega, rfl, rfl, rfl, ListTo.none _ _ _ rfl, L1.out⟩
  case round =>
    obtain ⟨j, m, F, hj, rfl, rfl, rfl, hrt, hlm⟩ := hrel
    have HRT := Lib.hid hrt
    have HLM := Lib.hid hlm
    clear hrt hlm
    have hT := durK_le HL.out.hi j
    have hS := sumK_le HL.out.hi j
    generalize hTd : durK ks j = T at hT ⊢
    generalize hSd : sumK ks j = S at hS ⊢
    have HTd := Lib.hid hTd
    have HSd := Lib.hid hSd
    clear hTd hSd
    by_cases hlt : j < nn
    · obtain ⟨b, o, K, hp, hcell, hk⟩ := HL.out.at_ j (by have := HNL.out; omega)
      have h1k := HL.out.lo j
      have h2k := HL.out.hi j
      have hc := hcell wr HLM.out.fr
      subst hp
      clear hcell
      have hjn : (j : Int) < (n : Int) := by have := HNL.out; omega
      have hjk : (j : Int) < (nn : Int) := by omega
      have hj0 : (0 : Int) ≤ (j : Int) := by omega
      have hj6 : (j : Int) < 6 := by omega
      have hK0 : (1 : Int) ≤ (ks j : Int) := by omega
      have hK1 : (ks j : Int) ≤ 1000 := by omega
      have hT0 : (0 : Int) ≤ (T : Int) := by omega
      have hT1 : (T : Int) ≤ 102 := by omega
      have hS0 : (0 : Int) ≤ (S : Int) := by omega
      have hS1 : (S : Int) ≤ 6000 := by omega
      have HK := Lib.hid hk
      clear hk
      go_upto_region 10 with fail
      rw [HK.out]
      by_cases hq : j + 1 = nn
      · have hqb : ((j : Int) == (nn : Int) - 1) = true := by simp; omega
        have HNX : Hid (nextK nn j = 0) := Lib.hid (if_pos hq)
        have HQ := Lib.hid hq
        clear hq
        go_wp2_with fail
        refine (HST.out _ _ _ HLM.out.ram (by exact HRT.out.num) (16 * j) (2147487744 + 1024 * j) _ _ (by omega) (by omega) (by omega) (by omega)).mono ?_
        rintro e w3 ⟨F3, rfl, h1, h2⟩
        have L3 := Lib.hid (HLM.out.step h1 h2)
        clear h1 h2
        go_wp2_with fail
        refine (HST.out _ _ _ L3.out.ram (by exact HRT.out.num) (16 * j + 4) (2147500032 + 1024 * j) _ _ (by omega) (by omega) (by omega) (by omega)).mono ?_
        rintro e w4 ⟨F4, rfl, h1, h2⟩
        have L4 := Lib.hid (L3.out.step h1 h2)
        clear h1 h2
        go_wp2_with fail
        refine (HST.out _ _ _ L4.out.ram (by exact HRT.out.num) (16 * j + 8) (ks j) _ _ (by omega) (by omega) (by omega) (by omega)).mono ?_
        rintro e w5 ⟨F5, rfl, h1, h2⟩
        have L5 := Lib.hid (L4.out.step h1 h2)
        clear h1 h2
        go_wp2_with fail
        refine (HST.out _ _ _ L5.out.ram (by exact HRT.out.num) (16 * j + 12) (nextK nn j) _ _ (by omega) (by have h := HNX.out; omega) (by omega) (by omega)).mono ?_
        rintro e w6 ⟨F6, rfl, h1, h2⟩
        have L6 := Lib.hid (L5.out.step h1 h2)
        have R6 := Lib.hid (HRT.out.next (by omega) (by omega))
        clear h1 h2
        go_wp2_with fail
        go_loopw [14] (fun i wr => ∃ (x : Nat) (m : Mm) (F : Nat → Prop), x ≤ ks j ∧ i = .int .i64 x ∧ ListTo m ks nn (j + 1) ∧ LawMem w wr g m F) (fun i _ => ks j - (intOf i).toNat)
        case atStart => exact ⟨0, _, F6, by omega, rfl, R6.out, L6.out⟩
        case round =>
          obtain ⟨x, m, F, hx, rfl, hrt, hlm⟩ := hrel
          have HRU := Lib.hid hrt
          have HLU := Lib.hid hlm
          clear hrt hlm
          have hx0 : (0 : Int) ≤ (x : Int) := by omega
          have hx1 : (x : Int) ≤ 1000 := by omega
          by_cases hxt : x < ks j
          · have hxk : (x : Int) < (ks j : Int) := by omega
            go_wp2_with fail
            refine (HSB.out _ _ _ HLU.out.ram (by exact HRU.out.num) (4096 + 1024 * j + x) (j + x + 1) _ _ (by omega) (by omega) (by omega)).mono ?_
            rintro e w7 ⟨F7, rfl, h1, h2⟩
            have L7 := Lib.hid (HLU.out.step h1 h2)
            clear h1 h2
            go_wp2_with fail
            go_roundw
            case rel => exact ⟨x + 1, m.store (4096 + 1024 * j + x) 1 (j + x + 1), F7, by omega, by go_num, HRU.out.put (m' := m.store (4096 + 1024 * j + x) 1 (j + x + 1)) (by omega) (4096 + 1024 * j + x) (leB 1 (j + x + 1)) (by omega) rfl rfl, L7.out⟩
            case measure => simp [intOf]; omega
          · have hxk : ¬ ((x : Int) < (ks j : Int)) := by omega
            have hmo1 := HL.out.hi j
            go_wp2_with fail
            go_roundw
            case rel => exact ⟨j + 1, _, F, by omega, by rw [show durK ks (j + 1) = T + (1 + (ks j + 63) / 64) by rw [← HTd.out]; rfl]; go_num, by rw [show sumK ks (j + 1) = S + ks j by rw [← HSd.out]; rfl]; go_num, by go_num, HRU.out, HLU.out⟩
            case measure => simp [intOf]; omega
      · have hqb : ((j : Int) == (nn : Int) - 1) = false := by simp; omega
        have HNX : Hid (nextK nn j = 2147483648 + 16 * (j + 1)) := Lib.hid (if_neg hq)
        have HQ := Lib.hid hq
        clear hq
        go_wp2_with fail
        refine (HST.out _ _ _ HLM.out.ram (by exact HRT.out.num) (16 * j) (2147487744 + 1024 * j) _ _ (by omega) (by omega) (by omega) (by omega)).mono ?_
        rintro e w3 ⟨F3, rfl, h1, h2⟩
        have L3 := Lib.hid (HLM.out.step h1 h2)
        clear h1 h2
        go_wp2_with fail
        refine (HST.out _ _ _ L3.out.ram (by exact HRT.out.num) (16 * j + 4) (2147500032 + 1024 * j) _ _ (by omega) (by omega) (by omega) (by omega)).mono ?_
        rintro e w4 ⟨F4, rfl, h1, h2⟩
        have L4 := Lib.hid (L3.out.step h1 h2)
        clear h1 h2
        go_wp2_with fail
        refine (HST.out _ _ _ L4.out.ram (by exact HRT.out.num) (16 * j + 8) (ks j) _ _ (by omega) (by omega) (by omega) (by omega)).mono ?_
        rintro e w5 ⟨F5, rfl, h1, h2⟩
        have L5 := Lib.hid (L4.out.step h1 h2)
        clear h1 h2
        go_wp2_with fail
        refine (HST.out _ _ _ L5.out.ram (by exact HRT.out.num) (16 * j + 12) (nextK nn j) _ _ (by omega) (by have h := HNX.out; omega) (by omega) (by omega)).mono ?_
        rintro e w6 ⟨F6, rfl, h1, h2⟩
        have L6 := Lib.hid (L5.out.step h1 h2)
        have R6 := Lib.hid (HRT.out.next (by omega) (by omega))
        clear h1 h2
        go_wp2_with fail
        go_loopw [14] (fun i wr => ∃ (x : Nat) (m : Mm) (F : Nat → Prop), x ≤ ks j ∧ i = .int .i64 x ∧ ListTo m ks nn (j + 1) ∧ LawMem w wr g m F) (fun i _ => ks j - (intOf i).toNat)
        case atStart => exact ⟨0, _, F6, by omega, rfl, R6.out, L6.out⟩
        case round =>
          obtain ⟨x, m, F, hx, rfl, hrt, hlm⟩ := hrel
          have HRU := Lib.hid hrt
          have HLU := Lib.hid hlm
          clear hrt hlm
          have hx0 : (0 : Int) ≤ (x : Int) := by omega
          have hx1 : (x : Int) ≤ 1000 := by omega
          by_cases hxt : x < ks j
          · have hxk : (x : Int) < (ks j : Int) := by omega
            go_wp2_with fail
            refine (HSB.out _ _ _ HLU.out.ram (by exact HRU.out.num) (4096 + 1024 * j + x) (j + x + 1) _ _ (by omega) (by omega) (by omega)).mono ?_
            rintro e w7 ⟨F7, rfl, h1, h2⟩
            have L7 := Lib.hid (HLU.out.step h1 h2)
            clear h1 h2
            go_wp2_with fail
            go_roundw
            case rel => exact ⟨x + 1, m.store (4096 + 1024 * j + x) 1 (j + x + 1), F7, by omega, by go_num, HRU.out.put (m' := m.store (4096 + 1024 * j + x) 1 (j + x + 1)) (by omega) (4096 + 1024 * j + x) (leB 1 (j + x + 1)) (by omega) rfl rfl, L7.out⟩
            case measure => simp [intOf]; omega
          · have hxk : ¬ ((x : Int) < (ks j : Int)) := by omega
            have hmo1 := HL.out.hi j
            go_wp2_with fail
            go_roundw
            case rel => exact ⟨j + 1, _, F, by omega, by rw [show durK ks (j + 1) = T + (1 + (ks j + 63) / 64) by rw [← HTd.out]; rfl]; go_num, by rw [show sumK ks (j + 1) = S + ks j by rw [← HSd.out]; rfl]; go_num, by go_num, HRU.out, HLU.out⟩
            case measure => simp [intOf]; omega
    · obtain rfl : nn = j := by omega
      clear hj hlt
      obtain rfl : T = durK ks nn := HTd.out.symm
      obtain rfl : S = sumK ks nn := HSd.out.symm
      by_cases hz : nn = 0
      · have hz2 : ((nn : Int) == 0) = true := by simp; omega
        have HS := Lib.hid (dma_sure wr (HLM.out.reg HR.out).1)
        have HFR := Lib.hid HLM.out.fr
        clear hz
        go_wp2_with fail
        refine (HS.out).mono ?_
        rintro e w11 ⟨rfl, hb⟩
        go_wp2_with fail
        go_ret
        exact ⟨rfl, HFR.out.trans (hb.mono HFR.out.size)⟩
      · have hz2 : ((nn : Int) == 0) = false := by simp; omega
        have hnp : 0 < nn := by omega
        clear hz
        have HDW := Lib.hid (fun W => dma_Write_ok sureS0 0 1 W (by decide) (by omega) (by omega))
        have e0 : sureS0.c = #[.int .u32 0, .int .u32 2147483648, .int .u32 0, .int .u32 0, .int .u32 0, .bool false, .int .u32 0, .int .u32 0, .int .u32 0, .int .u32 0, .bool false] := rfl
        rw [e0, show ((0 : Nat) : Int) = 0 from rfl, show ((1 : Nat) : Int) = 1 from rfl] at HDW
        rw [show sureS0.wr 0 1 = mvA ks 0 from mvA_zero ks] at HDW
        clear e0
        have HRA : Hid (MoveAt ks nn 0 (mvA ks 0) m) := Lib.hid (MoveAt.start HRT.out hnp)
        generalize mvA ks 0 = sA at HDW HRA
        have hT1 : (durK ks nn : Int) ≤ 102 := by omega
        have hS1 : (sumK ks nn : Int) ≤ 6000 := by omega
        have hT0 : (0 : Int) ≤ (durK ks nn : Int) := by omega
        have hS0 : (0 : Int) ≤ (sumK ks nn : Int) := by omega
        go_wp2_with fail
        refine (HDW.out _).mono ?_
        rintro e w7b ⟨rfl, hb7⟩
        have L7b := Lib.hid ((HLM.out.below hb7).below ((Below.refl w7b.heap.size w7b).alloc (Nat.le_refl _) (.cells #[.int .u32 0, .int .u32 0, .int .u32 0, .int .u32 0, .int .u32 0, .bool false, .int .u32 0, .int .u32 0, .int .u32 0, .int .u32 0, .bool false] 33)))
        have K7 := Lib.hid (heap_alloc_new w7b (.cells #[.int .u32 0, .int .u32 0, .int .u32 0, .int .u32 0, .int .u32 0, .bool false, .int .u32 0, .int .u32 0, .int .u32 0, .int .u32 0, .bool false] 33))
        have HLO : Hid (w.heap.size ≤ w7b.heap.size) := Lib.hid (HLM.out.below hb7).fr.size
        have HNF : Hid (¬ F w7b.heap.size) := Lib.hid (fun hf => absurd ((HLM.out.below hb7).ram.lt _ hf) (Nat.lt_irrefl _))
        clear hb7
        go_wp2_with (refine wpList_store_to rfl 33 _ _ rfl w7b.heap.size sA.c rfl rfl 33 #[.int .u32 0, .int .u32 0, .int .u32 0, .int .u32 0, .int .u32 0, .bool false, .int .u32 0, .int .u32 0, .int .u32 0, .int .u32 0, .bool false] K7.out (by kernel_rfl) rfl (Dst.c_one _) ?_)
        intro w8b hx8 k8
        have L8b := Lib.hid (L7b.out.own hx8.out HLO.out HNF.out)
        have K8 := Lib.hid k8
        clear hx8 k8 K7
        generalize w7b.heap.size = b3 at HLO HNF K8 ⊢
        go_wp2_with fail
        go_loopw [17] (fun i wr => ∃ (t : Nat) (s : Dst) (m : Mm) (F : Nat → Prop), t ≤ durK ks nn ∧ i = .int .i64 t ∧ MoveAt ks nn t s m ∧ LawMem w wr g m F ∧ ¬ F b3 ∧ wr.heap[b3]? = some (.cells s.c 33 (0, 0))) (fun i _ => durK ks nn - (intOf i).toNat)
        case atStart => exact ⟨0, sA, _, F, by omega, rfl, HRA.out, L8b.out, HNF.out, K8.out⟩
        case round =>
          obtain ⟨t, s, m, F, ht, rfl, hra, hlm, hnf, hk⟩ := hrel
          have HA := Lib.hid hra
          have HM := Lib.hid hlm
          have HF := Lib.hid hnf
          have HK := Lib.hid hk
          have hti : (t : Int) ≤ 102 := by omega
          have ht0 : (0 : Int) ≤ (t : Int) := by omega
          clear hra hlm hnf hk
          by_cases hlt : t < durK ks nn
          · have hc := HA.out.code hlt
            have c0 : wr.cell? ⟨b3, 0, none⟩ = some (.int .u32 1) := (cell_of_row _ _ 0 _ _ _ HK.out).trans (by show some (Value.int .u32 ((s.code : Nat) : Int)) = _; rw [hc]; rfl)
            have HT := Lib.hid (dma_Tick s (HA.out.wf hn6 HL.out.hi) HM.out.ram (HM.out.reg HR.out).1 (HM.out.reg HR.out).2)
            have HN := Lib.hid (HA.out.step hn6 HL.out.hi HL.out.lo hc)
            clear hc
            have htl : (t : Int) < (durK ks nn : Int) := by omega
            go_wp2_with (refine wpList_load_row rfl 33 _ rfl b3 rfl 33 s.c (0, 0) _ HK.out Tryd.underlying33 rfl rfl ?_)
            refine (HT.out).mono ?_
            rintro e w9 ⟨rfl, F9, h1, h2⟩
            have L9 := Lib.hid (HM.out.step h1 h2)
            have K9 := Lib.hid (h2.heap HK.out HF.out)
            have HNF9 : Hid (¬ F9 b3) := Lib.hid (h2.off (lt_heap HK.out) HF.out)
            clear h1 h2 HT c0
            generalize s.tick m = s2 at HN ⊢
            generalize s.after m = m2 at HN L9
            go_wp2_with (refine wpList_store_to rfl 33 _ _ rfl b3 s2.c rfl rfl 33 s.c K9.out rfl rfl (Dst.c_one _) ?_)
            intro w10 hx10 k10
            have L10 := Lib.hid (L9.out.own hx10.out HLO.out HNF9.out)
            have K10 := Lib.hid k10
            clear hx10 k10
            go_wp2_with fail
            go_roundw
            case rel => exact ⟨t + 1, s2, m2, F9, by omega, by go_num, HN.out, L10.out, HNF9.out, K10.out⟩
            case measure => simp [intOf]; omega
          · obtain ⟨e3, em, hdn⟩ := HA.out.last (by omega)
            have hmn := HA.out.1.num
            obtain rfl : t = durK ks nn := by omega
            have HDN := Lib.hid hdn
            have HMN := Lib.hid hmn
            have c0 : wr.cell? ⟨b3, 0, none⟩ = some (.int .u32 2) := (cell_of_row _ _ 0 _ _ _ HK.out).trans (by show some (Value.int .u32 ((s.code : Nat) : Int)) = _; rw [e3]; rfl)
            have c4 : wr.cell? ⟨b3, 4, none⟩ = some (.int .u32 (sumK ks nn : Nat)) := (cell_of_row _ _ 4 _ _ _ HK.out).trans (by show some (Value.int .u32 ((s.moved : Nat) : Int)) = _; rw [em])
            have hen := err_nil_eql
            clear hlt ht e3 em hdn hmn HA
            go_wp2_with fail
            go_loopw [18] (fun i wr => ∃ (j : Nat) (F : Nat → Prop), j ≤ nn ∧ i = .int .i64 j ∧ LawMem w wr g m F) (fun i _ => nn - (intOf i).toNat)
            case atStart => exact ⟨0, F, by omega, rfl, HM.out⟩
            case round =>
              clear c0 c4 HK HF HM
              obtain ⟨j, F, hj, rfl, hlm⟩ := hrel
              have HLM := Lib.hid hlm
              clear hlm
              by_cases hlt : j < nn
              · obtain ⟨b, o, K, hp, hcell, hk⟩ := HL.out.at_ j (by have := HNL.out; omega)
                have h1k := HL.out.lo j
                have h2k := HL.out.hi j
                have hc := hcell wr HLM.out.fr
                subst hp
                clear hcell
                have hjn : (j : Int) < (n : Int) := by have := HNL.out; omega
                have hjk : (j : Int) < (nn : Int) := by omega
                have hj0 : (0 : Int) ≤ (j : Int) := by omega
                have hj6 : (j : Int) < 6 := by omega
                have hK0 : (1 : Int) ≤ (ks j : Int) := by omega
                have hK1 : (ks j : Int) ≤ 1000 := by omega
                have HK := Lib.hid hk
                clear hk
                go_upto_region 39 with fail
                rw [HK.out]
                have HEQ := Lib.hid (HDN.out.eq hlt)
                have HRD := Lib.hid (fun W F (h : RamIs W g m F) (a : Nat) (ai : Int) (ea : ai = a) (hl : a < 30000) => read_at h a (ks j) ai (ks j) ea rfl (by omega) (by rw [HMN.out]; omega))
                go_wp2_with fail
                refine (HRD.out _ _ HLM.out.ram (4096 + 1024 * j) _ (by omega) (by omega)).mono ?_
                rintro e w12 ⟨ao, ca, F12, rfl, h1, h2, h3⟩
                have L12 := Lib.hid (HLM.out.step h1 h2)
                have B12 := Lib.hid h3
                clear h1 h2 h3
                go_wp2_with fail
                refine (HRD.out _ _ L12.out.ram (16384 + 1024 * j) _ (by omega) (by omega)).mono ?_
                rintro e w13 ⟨ao2, ca2, F13, rfl, h1, h2, h3⟩
                have L13 := Lib.hid (L12.out.step h1 h2)
                have hs1 := str_of_bytes (cap := ca) (B12.out.kx h2)
                have hs2 := str_of_bytes (cap := ca2) h3
                clear h1 h2 h3
                rw [← HEQ.out] at hs2 ⊢
                generalize cut m.f (4096 + 1024 * j) (ks j) = lc at hs1 hs2 ⊢
                go_wp2_with fail
                go_roundw
                case rel => exact ⟨j + 1, F13, by omega, by go_num, L13.out⟩
                case measure => simp [intOf]; omega
              · obtain rfl : nn = j := by omega
                have HS := Lib.hid (dma_sure wr (HLM.out.reg HR.out).1)
                have HFR := Lib.hid HLM.out.fr
                go_wp2_with fail
                refine (HS.out).mono ?_
                rintro e w11 ⟨rfl, hb⟩
                go_wp2_with fail
                go_ret
                exact ⟨rfl, HFR.out.trans (hb.mono HFR.out.size)⟩
end Go.Proofs.YtocbfchmngcgkaaDoor
