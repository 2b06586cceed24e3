/-
nic.Send, walked: what any state sends of any memory.
Condition: the table of regions of package bus reads as its text lays it.
-/
import Derived.Test.YtcmbnkmbaghkdaaDoorNicSt
import Derived.Maps.AppendAt
namespace Go.Proofs.YtcmbnkmbaghkdaaDoor
open Go.RowKit
set_option linter.unusedVariables false

theorem nic_size (s : NS) : (Tryd.prog.info? 75).map (·.size) = some s.c.size := by
  show _ = some 23
  kernel_rfl
theorem ring_size (q : Rg) : (Tryd.prog.info? 68).map (·.size) = some q.c.size := by
  show _ = some 6
  kernel_rfl
theorem vio_size (p : VS) : (Tryd.prog.info? 73).map (·.size) = some p.c.size := by
  show _ = some 21
  kernel_rfl
theorem vio_sizeL (p : VS) : (Tryd.prog.info? 73).map (·.size) = some p.c.toList.length := by
  show _ = some 21
  kernel_rfl
theorem put_bell (s : NS) (x : Bool) : s.c.setIfInBounds 21 (.bool x) = ({ s with bell := x } : NS).c := rfl
theorem info_bytes : ∃ i, Tryd.prog.info? 62 = some i ∧ i.zero = some (.slice none 0 0) ∧ i.size = 1 ∧ i.bytes = 24 := by
  have h : (Tryd.prog.info? 62).map (fun i => (i.zero, i.size, i.bytes)) = some (some (.slice none 0 0), 1, 24) := by kernel_rfl
  cases hq : Tryd.prog.info? 62 with
  | none => rw [hq] at h; cases h
  | some i =>
    rw [hq] at h
    simp only [Option.map_some, Option.some.injEq, Prod.mk.injEq] at h
    exact ⟨i, rfl, h.1, h.2.1, h.2.2⟩
theorem sendF_step (k : Nat) (s : NS) (m : Mm) (acc : List (List UInt8)) {hd : Nat} {l : List Sg} (h1 : rnext s.p.b.rg m = some (some hd)) (h2 : rwalk s.p.b.de s.p.b.size.toNat m hd = some l) (h3 : ¬ ((gath m l).length ≤ 12 ∨ 1526 < (gath m l).length)) :
    sendF (k + 1) s m acc = if (rgive s.p.b.rg.took m hd 0).1 = true then sendF k ((s.setR true s.p.b.rg.took).gave true true) (rgive s.p.b.rg.took m hd 0).2 (acc ++ [(gath m l).drop 12]) else ((s.setR true s.p.b.rg.took).gave true false, (rgive s.p.b.rg.took m hd 0).2, acc ++ [(gath m l).drop 12]) := by
  conv => lhs; unfold sendF
  rw [h1]
  simp only
  rw [h2]
  simp only
  rw [if_neg h3]
  rfl
theorem sendF_none (k : Nat) (s : NS) (m : Mm) (acc : List (List UInt8)) (h1 : rnext s.p.b.rg m = some none) : sendF (k + 1) s m acc = ({ s with bell := false }, m, acc) := by
  unfold sendF
  rw [h1]
theorem sendF_err (k : Nat) (s : NS) (m : Mm) (acc : List (List UInt8)) (h1 : rnext s.p.b.rg m = none) : sendF (k + 1) s m acc = ({ s with p := s.p.fail }, m, acc) := by
  unfold sendF
  rw [h1]
theorem sendF_nowalk (k : Nat) (s : NS) (m : Mm) (acc : List (List UInt8)) {hd : Nat} (h1 : rnext s.p.b.rg m = some (some hd)) (h2 : rwalk s.p.b.de s.p.b.size.toNat m hd = none) : sendF (k + 1) s m acc = ({ s with p := s.p.fail }, m, acc) := by
  unfold sendF
  rw [h1]
  simp only
  rw [h2]
theorem sendF_odd (k : Nat) (s : NS) (m : Mm) (acc : List (List UInt8)) {hd : Nat} {l : List Sg} (h1 : rnext s.p.b.rg m = some (some hd)) (h2 : rwalk s.p.b.de s.p.b.size.toNat m hd = some l) (h3 : (gath m l).length ≤ 12 ∨ 1526 < (gath m l).length) : sendF (k + 1) s m acc = ({ s with p := s.p.fail }, m, acc) := by
  unfold sendF
  rw [h1]
  simp only
  rw [h2]
  simp only
  rw [if_pos h3]
set_option maxRecDepth 100000 in
set_option maxHeartbeats 16000000 in
theorem nic_Send_go {g : Nat} {m : Mm} {F : Nat → Prop} {w : World} (s : NS) (hs : s.p.wf) (R : NS × Mm × List (List UInt8)) (hR : sendF 4 s m [] = R) (hbell : s.bell = true) (hwk : s.works true) (h : RamIs w g m F) (hr : RegAt w) (hrf : ¬ F 0) :
    Calls Tryd.prog 18 #[.agg s.c, .pointer (some ⟨g, 0, none⟩)] w (SendPost w g F R) := by
  obtain ⟨k0, k1, hb0⟩ := two_new w (.cells s.c 75) (.cells NS.zero.c 75)
  have hc21 := (cell_of_row _ _ 21 _ _ _ k0).trans (show s.c[21]? = some (.bool true) by rw [← hbell]; rfl)
  have HWK := Lib.hid (fun W => nic_works s true hs.hst g W)
  rw [decide_eq_true hwk] at HWK
  have HK0 := Lib.hid k0
  have HREG := Lib.hid (And.intro hr hrf)
  have HS0 : Hid (SendSt w ((w.alloc (.cells s.c 75)).alloc (.cells NS.zero.c 75)) g w.heap.size m F F s (.slice none 0 0) [] []) := Lib.hid
    ⟨h.below hb0, MemStep.of_below hb0, k0, k1, ⟨fun hf => absurd (h.lt _ hf) (Nat.lt_irrefl _), fun hf => by have := h.lt _ hf; omega⟩, World.ownsRow_nil _ _ _ _, fun b hb => by simp [Value.ownBlock] at hb, rfl, fun k x hk => by simp at hk, Nat.le_refl _⟩
  have HWF := Lib.hid hs
  have HRR := Lib.hid hR
  have hz23 := (rfl : NS.zero.c = NS.zero.c)
  clear hbell hwk h hr hrf k0 k1 hb0 hs hR hz23
  go_enter Tryd.func18, Tryd.ntmps18
  go_upto_region 1 with fail
  change Code.wp _ _ _ _ ((w.alloc (.cells s.c 75)).alloc (.cells NS.zero.c 75))
  generalize ((w.alloc (.cells s.c 75)).alloc (.cells NS.zero.c 75)) = w1 at hc21 HK0 HS0 ⊢
  go_wp2_with (first | go_skip | (refine load_rowW rfl 75 _ rfl w.heap.size rfl 75 s.c (0, 0) _ HK0.out Tryd.underlying75 rfl (nic_size _) ?_))
  refine (HWK.out _).mono ?_
  rintro e w2 ⟨rfl, hb⟩
  have HS2 := Lib.hid (HS0.out.below hb)
  clear hb HS0 HK0 hc21 HWK
  go_wp2_with fail
  go_loopw [6, 23] (fun fv iv wr => ∃ (k : Nat) (s' : NS) (m' : Mm) (F' : Nat → Prop) (vs : List Value) (acc : List (List UInt8)), iv = .int .i64 k ∧ k ≤ 4 ∧ acc.length = k ∧ s'.p.wf ∧ SendSt w wr g w.heap.size m' F F' s' fv vs acc ∧ sendF (4 - k) s' m' acc = R) (fun _ iv _ => 4 - (intOf iv).toNat)
  case atStart => exact ⟨0, s, m, F, [], [], rfl, by omega, rfl, HWF.out, HS2.out, HRR.out⟩
  case round =>
    obtain ⟨k, s', m', F', vs, acc, rfl, hk4, hak, hwf, hst, hrr⟩ := hrel
    have HS := Lib.hid hst
    have HWF := Lib.hid hwf
    have HRR := Lib.hid hrr
    have HAK := Lib.hid hak
    have hk0 : (0 : Int) ≤ (k : Int) := by omega
    obtain ⟨av, cv, rfl⟩ := ownsRow_form hst.ow
    have HVL := Lib.hid (hst.len.symm.trans hak)
    clear hst hwf hrr hak HS2
    by_cases hlt : k < 4
    · have hltI : (k : Int) < 4 := by omega
      have HREG1 := Lib.hid (reg_step HREG.out.1 HS.out.st HREG.out.2)
      have HCH : Hid (Calls Tryd.prog 42 #[.agg s'.c, .int .i64 1, .pointer (some ⟨g, 0, none⟩)] wr (ChainPost wr g m' F' (chainR s'.p.b.rg m').1 (chainR s'.p.b.rg m').2.1 (chainR s'.p.b.rg m').2.2.1 (chainR s'.p.b.rg m').2.2.2.1 (chainR s'.p.b.rg m').2.2.2.2)) := Lib.hid (nic_chain s' true HWF.out.hb HS.out.ram HREG1.out.1 HREG1.out.2)
      obtain ⟨kk, hkk⟩ : ∃ kk, 4 - k = kk + 1 := ⟨4 - k - 1, by omega⟩
      have HKK := Lib.hid hkk
      clear hkk
      unfold chainR at HCH
      cases hx : rnext s'.p.b.rg m' with
      | none =>
        rw [hx] at HCH
        have HX := Lib.hid hx
        clear hx

        have hv : errV (errR s'.p.b.rg) = .iface 104 (.int .i64 (errR s'.p.b.rg : Nat)) := errV_val (by unfold errR; split <;> omega)
        simp only at HCH
        rw [hv] at HCH
        clear hv
        generalize errR s'.p.b.rg = er at HCH
        go_wp2_with (first | go_skip | (refine wpList_load_row rfl 75 _ rfl w.heap.size rfl 75 s'.c (0, 0) _ HS.out.row Tryd.underlying75 rfl (nic_size _) ?_))
        refine (HCH.out).mono ?_
        rintro e w3 ⟨v, F1, rfl, h1, h2, h3, h4⟩
        have HS3 := Lib.hid (HS.out.mem h1 h2)
        have H34 := Lib.hid (And.intro h3 h4)
        have HREG3 := Lib.hid (reg_step HREG1.out.1 h2 HREG1.out.2)
        have KN := Lib.hid (heap_alloc_new w3 (.cells #[.int .i64 0, .int .u32 0, .int .u32 0, .int .u32 0, .int .u16 0, .int .u16 0] 68))
        have HBN := Lib.hid ((Below.refl w3.heap.size w3).alloc (Nat.le_refl _) (.cells #[.int .i64 0, .int .u32 0, .int .u32 0, .int .u32 0, .int .u16 0, .int .u16 0] 68))
        have HNF := Lib.hid (show ¬ F1 w3.heap.size from fun hf => absurd (h1.lt _ hf) (Nat.lt_irrefl _))
        clear h1 h2 h3 h4 HCH HS HREG1
        go_wp2_with (first | go_skip | (refine wpList_store_to rfl 68 _ _ rfl w3.heap.size (Rg.zero : Rg).c rfl rfl 68 #[.int .i64 0, .int .u32 0, .int .u32 0, .int .u32 0, .int .u16 0, .int .u16 0] KN.out (ring_size _) rfl (Rg.c_one _) ?_))
        intro w4 hx hk
        have HB4 : Hid (Below w3.heap.size w3 w4) := Lib.hid (HBN.out.trans (hx.out.below (fun k hk e => by omega) (by simp)))
        have HS4 := Lib.hid (HS3.out.below HB4.out)
        have K7 := Lib.hid hk
        have HREG4 := Lib.hid (And.intro (HREG3.out.1.below HB4.out) HREG3.out.2)
        clear hx hk KN HBN HS3
        have HRP := Lib.hid (NS.range_p HS4.out.row)
        have HFA : Hid (∀ W, Calls Tryd.prog 44 #[.agg s'.p.c.toList.toArray] W fun e w' => e = .returned (.agg s'.p.fail.c) ∧ Below W.heap.size W w') := Lib.hid (fun W => by rw [Array.toArray_toList]; exact vs_Fail s'.p HWF.out.hst HWF.out.hirq W)
        go_wp2_with (first | go_skip | (refine load_midW rfl 73 _ rfl w.heap.size 0 rfl s'.p.c.toList _ HRP.out Tryd.underlying73 rfl (vio_sizeL _) ?_))
        refine (HFA.out _).mono ?_
        rintro e w11 ⟨rfl, hb⟩
        have HS11 := Lib.hid (HS4.out.below hb)
        clear hb HRP HFA HS4
        go_wp2_with (first | go_skip | (refine wpList_store_mid_to rfl 73 _ _ rfl w.heap.size 0 s'.p.fail.c rfl rfl 75 s'.c HS11.out.row (by show 0 + 21 ≤ 23; omega) (vio_size _) (VS.c_one _) ?_))
        intro w12 hx hk
        rw [put_p] at hk
        have HS12 := Lib.hid (HS11.out.put hx.out hk)
        clear hx hk HS11
        have HRES := Lib.hid (show (({ s' with p := s'.p.fail } : NS), m', acc) = R by rw [← HRR.out, HKK.out]; exact (sendF_err _ _ _ _ HX.out).symm)
        have HSO := Lib.hid (NS.c_one ({ s' with p := s'.p.fail }))
        go_wp2_with (first | go_skip | (refine wpList_load_row rfl 75 _ rfl w.heap.size rfl 75 ({ s' with p := s'.p.fail } : NS).c (0, 0) _ HS12.out.row Tryd.underlying75 rfl (nic_size _) ?_) | (refine wpList_store_to rfl 75 _ _ rfl (w.heap.size + 1) ({ s' with p := s'.p.fail } : NS).c rfl rfl 75 NS.zero.c HS12.out.zrow (nic_size _) rfl HSO.out ?_))
        intro wz hx hk
        have HFN := Lib.hid (HS12.out.fin hx.out)
        have HKZ := Lib.hid hk
        clear hx hk
        go_wp2_with fail
        exact bodyPost_ret (v := .tuple #[.agg ({ s' with p := s'.p.fail } : NS).c, .slice av (vs.length) cv]) (results_cell_tmp Tryd.results18 _ _ (w.heap.size + 1) 75 ({ s' with p := s'.p.fail } : NS).c (0, 0) _ rfl HKZ.out Tryd.underlying75 rfl (nic_size _)) rfl ⟨_, _, _, by rw [← HRES.out], by rw [← HRES.out]; exact HFN.out.1, HFN.out.2.1, HFN.out.2.2.1, by rw [← HRES.out]; exact HFN.out.2.2.2.1, HFN.out.2.2.2.2.1, by rw [← HRES.out]; exact HFN.out.2.2.2.2.2⟩
      | some x =>
        cases x with
        | none =>
          rw [hx] at HCH
          have HX := Lib.hid hx
          clear hx
          simp only at HCH
          go_wp2_with (first | go_skip | (refine wpList_load_row rfl 75 _ rfl w.heap.size rfl 75 s'.c (0, 0) _ HS.out.row Tryd.underlying75 rfl (nic_size _) ?_))
          refine (HCH.out).mono ?_
          rintro e w3 ⟨v, F1, rfl, h1, h2, h3, h4⟩
          have HS3 := Lib.hid (HS.out.mem h1 h2)
          have H34 := Lib.hid (And.intro h3 h4)
          have HREG3 := Lib.hid (reg_step HREG1.out.1 h2 HREG1.out.2)
          have KN := Lib.hid (heap_alloc_new w3 (.cells #[.int .i64 0, .int .u32 0, .int .u32 0, .int .u32 0, .int .u16 0, .int .u16 0] 68))
          have HBN := Lib.hid ((Below.refl w3.heap.size w3).alloc (Nat.le_refl _) (.cells #[.int .i64 0, .int .u32 0, .int .u32 0, .int .u32 0, .int .u16 0, .int .u16 0] 68))
          have HNF := Lib.hid (show ¬ F1 w3.heap.size from fun hf => absurd (h1.lt _ hf) (Nat.lt_irrefl _))
          clear h1 h2 h3 h4 HCH HS HREG1
          go_wp2_with (first | go_skip | (refine wpList_store_to rfl 68 _ _ rfl w3.heap.size (s'.p.b.rg : Rg).c rfl rfl 68 #[.int .i64 0, .int .u32 0, .int .u32 0, .int .u32 0, .int .u16 0, .int .u16 0] KN.out (ring_size _) rfl (Rg.c_one _) ?_))
          intro w4 hx hk
          have HB4 : Hid (Below w3.heap.size w3 w4) := Lib.hid (HBN.out.trans (hx.out.below (fun k hk e => by omega) (by simp)))
          have HS4 := Lib.hid (HS3.out.below HB4.out)
          have K7 := Lib.hid hk
          have HREG4 := Lib.hid (And.intro (HREG3.out.1.below HB4.out) HREG3.out.2)
          clear hx hk KN HBN HS3
          have c21 := (cell_of_row _ _ 21 _ _ _ HS4.out.row).trans (rfl : _ = some (.bool s'.bell : Value))
          have f21 := frozen_of_row _ _ 21 _ _ HS4.out.row
          have HS5 : Hid (SendSt w (w4.setCell ⟨w.heap.size, 21, none⟩ (.bool false)) g w.heap.size m' F F1 { s' with bell := false } (.slice av vs.length cv) vs acc) := Lib.hid (HS4.out.put ((KX.refl (fun k => k = w.heap.size) w4).setCell (p := ⟨w.heap.size, 21, none⟩) (.inl rfl) _) ((set_cells HS4.out.row).trans (by rw [put_bell])))
          go_upto_region 18 with fail
          generalize (w4.setCell ⟨w.heap.size, 21, none⟩ (.bool false)) = w5 at HS5 ⊢
          clear c21 f21 HS4
          have HRES := Lib.hid (show (({ s' with bell := false } : NS), m', acc) = R by rw [← HRR.out, HKK.out]; exact (sendF_none _ _ _ _ HX.out).symm)
          have HSO := Lib.hid (NS.c_one ({ s' with bell := false }))
          go_wp2_with (first | go_skip | (refine wpList_load_row rfl 75 _ rfl w.heap.size rfl 75 ({ s' with bell := false } : NS).c (0, 0) _ HS5.out.row Tryd.underlying75 rfl (nic_size _) ?_) | (refine wpList_store_to rfl 75 _ _ rfl (w.heap.size + 1) ({ s' with bell := false } : NS).c rfl rfl 75 NS.zero.c HS5.out.zrow (nic_size _) rfl HSO.out ?_))
          intro wz hx hk
          have HFN := Lib.hid (HS5.out.fin hx.out)
          have HKZ := Lib.hid hk
          clear hx hk
          go_wp2_with fail
          exact bodyPost_ret (v := .tuple #[.agg ({ s' with bell := false } : NS).c, .slice av (vs.length) cv]) (results_cell_tmp Tryd.results18 _ _ (w.heap.size + 1) 75 ({ s' with bell := false } : NS).c (0, 0) _ rfl HKZ.out Tryd.underlying75 rfl (nic_size _)) rfl ⟨_, _, _, by rw [← HRES.out], by rw [← HRES.out]; exact HFN.out.1, HFN.out.2.1, HFN.out.2.2.1, by rw [← HRES.out]; exact HFN.out.2.2.2.1, HFN.out.2.2.2.2.1, by rw [← HRES.out]; exact HFN.out.2.2.2.2.2⟩
        | some hd =>
          rw [hx] at HCH
          have HX := Lib.hid hx
          clear hx
          simp only at HCH
          cases hw : rwalk s'.p.b.rg.de s'.p.b.rg.size.toNat m' hd with
          | none =>
            rw [hw] at HCH
            have HXW := Lib.hid hw
            clear hw
            rw [show errV (if (none : Option (List Sg)).isSome then 0 else 22) = .iface 104 (.int .i64 22) from rfl] at HCH
            go_wp2_with (first | go_skip | (refine wpList_load_row rfl 75 _ rfl w.heap.size rfl 75 s'.c (0, 0) _ HS.out.row Tryd.underlying75 rfl (nic_size _) ?_))
            refine (HCH.out).mono ?_
            rintro e w3 ⟨v, F1, rfl, h1, h2, h3, h4⟩
            have HS3 := Lib.hid (HS.out.mem h1 h2)
            have H34 := Lib.hid (And.intro h3 h4)
            have HREG3 := Lib.hid (reg_step HREG1.out.1 h2 HREG1.out.2)
            have KN := Lib.hid (heap_alloc_new w3 (.cells #[.int .i64 0, .int .u32 0, .int .u32 0, .int .u32 0, .int .u16 0, .int .u16 0] 68))
            have HBN := Lib.hid ((Below.refl w3.heap.size w3).alloc (Nat.le_refl _) (.cells #[.int .i64 0, .int .u32 0, .int .u32 0, .int .u32 0, .int .u16 0, .int .u16 0] 68))
            have HNF := Lib.hid (show ¬ F1 w3.heap.size from fun hf => absurd (h1.lt _ hf) (Nat.lt_irrefl _))
            clear h1 h2 h3 h4 HCH HS HREG1
            go_wp2_with (first | go_skip | (refine wpList_store_to rfl 68 _ _ rfl w3.heap.size (s'.p.b.rg.took : Rg).c rfl rfl 68 #[.int .i64 0, .int .u32 0, .int .u32 0, .int .u32 0, .int .u16 0, .int .u16 0] KN.out (ring_size _) rfl (Rg.c_one _) ?_))
            intro w4 hx hk
            have HB4 : Hid (Below w3.heap.size w3 w4) := Lib.hid (HBN.out.trans (hx.out.below (fun k hk e => by omega) (by simp)))
            have HS4 := Lib.hid (HS3.out.below HB4.out)
            have K7 := Lib.hid hk
            have HREG4 := Lib.hid (And.intro (HREG3.out.1.below HB4.out) HREG3.out.2)
            clear hx hk KN HBN HS3
            have HRP := Lib.hid (NS.range_p HS4.out.row)
            have HFA : Hid (∀ W, Calls Tryd.prog 44 #[.agg s'.p.c.toList.toArray] W fun e w' => e = .returned (.agg s'.p.fail.c) ∧ Below W.heap.size W w') := Lib.hid (fun W => by rw [Array.toArray_toList]; exact vs_Fail s'.p HWF.out.hst HWF.out.hirq W)
            go_wp2_with (first | go_skip | (refine load_midW rfl 73 _ rfl w.heap.size 0 rfl s'.p.c.toList _ HRP.out Tryd.underlying73 rfl (vio_sizeL _) ?_))
            refine (HFA.out _).mono ?_
            rintro e w11 ⟨rfl, hb⟩
            have HS11 := Lib.hid (HS4.out.below hb)
            clear hb HRP HFA HS4
            go_wp2_with (first | go_skip | (refine wpList_store_mid_to rfl 73 _ _ rfl w.heap.size 0 s'.p.fail.c rfl rfl 75 s'.c HS11.out.row (by show 0 + 21 ≤ 23; omega) (vio_size _) (VS.c_one _) ?_))
            intro w12 hx hk
            rw [put_p] at hk
            have HS12 := Lib.hid (HS11.out.put hx.out hk)
            clear hx hk HS11
            have HRES := Lib.hid (show (({ s' with p := s'.p.fail } : NS), m', acc) = R by rw [← HRR.out, HKK.out]; exact (sendF_nowalk _ _ _ _ HX.out HXW.out).symm)
            have HSO := Lib.hid (NS.c_one ({ s' with p := s'.p.fail }))
            go_wp2_with (first | go_skip | (refine wpList_load_row rfl 75 _ rfl w.heap.size rfl 75 ({ s' with p := s'.p.fail } : NS).c (0, 0) _ HS12.out.row Tryd.underlying75 rfl (nic_size _) ?_) | (refine wpList_store_to rfl 75 _ _ rfl (w.heap.size + 1) ({ s' with p := s'.p.fail } : NS).c rfl rfl 75 NS.zero.c HS12.out.zrow (nic_size _) rfl HSO.out ?_))
            intro wz hx hk
            have HFN := Lib.hid (HS12.out.fin hx.out)
            have HKZ := Lib.hid hk
            clear hx hk
            go_wp2_with fail
            exact bodyPost_ret (v := .tuple #[.agg ({ s' with p := s'.p.fail } : NS).c, .slice av (vs.length) cv]) (results_cell_tmp Tryd.results18 _ _ (w.heap.size + 1) 75 ({ s' with p := s'.p.fail } : NS).c (0, 0) _ rfl HKZ.out Tryd.underlying75 rfl (nic_size _)) rfl ⟨_, _, _, by rw [← HRES.out], by rw [← HRES.out]; exact HFN.out.1, HFN.out.2.1, HFN.out.2.2.1, by rw [← HRES.out]; exact HFN.out.2.2.2.1, HFN.out.2.2.2.2.1, by rw [← HRES.out]; exact HFN.out.2.2.2.2.2⟩
          | some l =>
            rw [hw] at HCH
            have HXW := Lib.hid hw
            clear hw
            rw [show errV (if (some l).isSome then 0 else 22) = .nilIface from rfl, show (some l).getD [] = l from rfl] at HCH
            go_wp2_with (first | go_skip | (refine wpList_load_row rfl 75 _ rfl w.heap.size rfl 75 s'.c (0, 0) _ HS.out.row Tryd.underlying75 rfl (nic_size _) ?_))
            refine (HCH.out).mono ?_
            rintro e w3 ⟨v, F1, rfl, h1, h2, h3, h4⟩
            have HS3 := Lib.hid (HS.out.mem h1 h2)
            have H34 := Lib.hid (And.intro h3 h4)
            have HREG3 := Lib.hid (reg_step HREG1.out.1 h2 HREG1.out.2)
            have KN := Lib.hid (heap_alloc_new w3 (.cells #[.int .i64 0, .int .u32 0, .int .u32 0, .int .u32 0, .int .u16 0, .int .u16 0] 68))
            have HBN := Lib.hid ((Below.refl w3.heap.size w3).alloc (Nat.le_refl _) (.cells #[.int .i64 0, .int .u32 0, .int .u32 0, .int .u32 0, .int .u16 0, .int .u16 0] 68))
            have HNF := Lib.hid (show ¬ F1 w3.heap.size from fun hf => absurd (h1.lt _ hf) (Nat.lt_irrefl _))
            clear h1 h2 h3 h4 HCH HS HREG1
            go_wp2_with (first | go_skip | (refine wpList_store_to rfl 68 _ _ rfl w3.heap.size (s'.p.b.rg.took : Rg).c rfl rfl 68 #[.int .i64 0, .int .u32 0, .int .u32 0, .int .u32 0, .int .u16 0, .int .u16 0] KN.out (ring_size _) rfl (Rg.c_one _) ?_))
            intro w4 hx hk
            have HB4 : Hid (Below w3.heap.size w3 w4) := Lib.hid (HBN.out.trans (hx.out.below (fun k hk e => by omega) (by simp)))
            have HS4 := Lib.hid (HS3.out.below HB4.out)
            have K7 := Lib.hid hk
            have HREG4 := Lib.hid (And.intro (HREG3.out.1.below HB4.out) HREG3.out.2)
            have HSEG := Lib.hid (And.intro H34.out.1 HB4.out)
            clear hx hk KN HBN HS3
            obtain ⟨ao, c9, rfl, hc9, hl9, hsg⟩ := SegsAt.of_owns H34.out.1 H34.out.2
            have HSG := Lib.hid (hsg.below HB4.out)
            have HOKW := Lib.hid (rwalk_ok HXW.out)
            have HOKP := Lib.hid (And.intro (rnext_ok HX.out) (rnext_lt HX.out))
            have HLN := Lib.hid (show l.length ≤ 256 by have h1 := HOKW.out.2.2; have h2 := HOKP.out.1.2.1; omega)
            have HGS := Lib.hid (show (gath m' l).length ≤ 1048576 from Nat.le_trans (gath_sum m' l) HOKW.out.2.1)
            have HGA := Lib.hid (ring_Gather ao l c9 HS4.out.ram HREG4.out.1 HREG4.out.2 HSG.out HOKW.out.1 (by have := HLN.out; omega) (by have := HGS.out; omega))
            have HB0L := Lib.hid (lt_heap HS4.out.row)
            have HZ0L := Lib.hid (lt_heap HS4.out.zrow)
            have HOWL := Lib.hid (fun q hq => (ownsRow_lt HS4.out.ow (b := q) hq).2)
            clear hc9 hl9 hsg H34 HSEG
            obtain ⟨bs, hbs⟩ : ∃ bs, bs = gath m' l := ⟨_, rfl⟩
            rw [← hbs] at HGA HGS
            have HBS := Lib.hid hbs
            clear hbs
            go_wp2_with fail
            refine (HGA.out).mono ?_
            rintro e w5 ⟨v8, F8, rfl, h1, h2, h3, h4⟩
            have HS5 := Lib.hid (HS4.out.mem h1 h2)
            have K7b := Lib.hid (h2.heap K7.out HNF.out)
            have HREG5 := Lib.hid (reg_step HREG4.out.1 h2 HREG4.out.2)
            have HO8 := Lib.hid (And.intro h3 h4)
            clear h1 h2 h3 h4 HGA HS4 K7 HREG4
            obtain ⟨n8, hn8⟩ : ∃ n8, n8 = bs.length := ⟨_, rfl⟩
            have HN8 := Lib.hid hn8
            rw [← hn8] at HO8 HGS
            have hn80 : (0 : Int) ≤ (n8 : Int) := by omega
            clear hn8
            by_cases hod : n8 ≤ 12 ∨ 1526 < n8
            · have HOD := Lib.hid (show (gath m' l).length ≤ 12 ∨ 1526 < (gath m' l).length by rw [← HBS.out, ← HN8.out]; exact hod)
              obtain ⟨av8, cv8, rfl⟩ := ownsRow_form HO8.out.1
              by_cases hsm : n8 ≤ 12
              · have hsmI : (n8 : Int) ≤ 12 := by omega
                clear hod hsm
                have HRP := Lib.hid (NS.range_p HS5.out.row)
                have HFA : Hid (∀ W, Calls Tryd.prog 44 #[.agg s'.p.c.toList.toArray] W fun e w' => e = .returned (.agg s'.p.fail.c) ∧ Below W.heap.size W w') := Lib.hid (fun W => by rw [Array.toArray_toList]; exact vs_Fail s'.p HWF.out.hst HWF.out.hirq W)
                go_wp2_with (first | go_skip | (refine load_midW rfl 73 _ rfl w.heap.size 0 rfl s'.p.c.toList _ HRP.out Tryd.underlying73 rfl (vio_sizeL _) ?_))
                refine (HFA.out _).mono ?_
                rintro e w11 ⟨rfl, hb⟩
                have HS11 := Lib.hid (HS5.out.below hb)
                clear hb HRP HFA HS5
                go_wp2_with (first | go_skip | (refine wpList_store_mid_to rfl 73 _ _ rfl w.heap.size 0 s'.p.fail.c rfl rfl 75 s'.c HS11.out.row (by show 0 + 21 ≤ 23; omega) (vio_size _) (VS.c_one _) ?_))
                intro w12 hx hk
                rw [put_p] at hk
                have HS12 := Lib.hid (HS11.out.put hx.out hk)
                clear hx hk HS11
                have HRES := Lib.hid (show (({ s' with p := s'.p.fail } : NS), m', acc) = R by rw [← HRR.out, HKK.out]; exact (sendF_odd _ _ _ _ HX.out HXW.out HOD.out).symm)
                have HSO := Lib.hid (NS.c_one ({ s' with p := s'.p.fail }))
                go_wp2_with (first | go_skip | (refine wpList_load_row rfl 75 _ rfl w.heap.size rfl 75 ({ s' with p := s'.p.fail } : NS).c (0, 0) _ HS12.out.row Tryd.underlying75 rfl (nic_size _) ?_) | (refine wpList_store_to rfl 75 _ _ rfl (w.heap.size + 1) ({ s' with p := s'.p.fail } : NS).c rfl rfl 75 NS.zero.c HS12.out.zrow (nic_size _) rfl HSO.out ?_))
                intro wz hx hk
                have HFN := Lib.hid (HS12.out.fin hx.out)
                have HKZ := Lib.hid hk
                clear hx hk
                go_wp2_with fail
                exact bodyPost_ret (v := .tuple #[.agg ({ s' with p := s'.p.fail } : NS).c, .slice av (vs.length) cv]) (results_cell_tmp Tryd.results18 _ _ (w.heap.size + 1) 75 ({ s' with p := s'.p.fail } : NS).c (0, 0) _ rfl HKZ.out Tryd.underlying75 rfl (nic_size _)) rfl ⟨_, _, _, by rw [← HRES.out], by rw [← HRES.out]; exact HFN.out.1, HFN.out.2.1, HFN.out.2.2.1, by rw [← HRES.out]; exact HFN.out.2.2.2.1, HFN.out.2.2.2.2.1, by rw [← HRES.out]; exact HFN.out.2.2.2.2.2⟩
              · have hbgI : (1526 : Int) < (n8 : Int) := by omega
                have hsmI : ¬ (n8 : Int) ≤ 12 := by omega
                clear hod hsm
                have HRP := Lib.hid (NS.range_p HS5.out.row)
                have HFA : Hid (∀ W, Calls Tryd.prog 44 #[.agg s'.p.c.toList.toArray] W fun e w' => e = .returned (.agg s'.p.fail.c) ∧ Below W.heap.size W w') := Lib.hid (fun W => by rw [Array.toArray_toList]; exact vs_Fail s'.p HWF.out.hst HWF.out.hirq W)
                go_wp2_with (first | go_skip | (refine load_midW rfl 73 _ rfl w.heap.size 0 rfl s'.p.c.toList _ HRP.out Tryd.underlying73 rfl (vio_sizeL _) ?_))
                refine (HFA.out _).mono ?_
                rintro e w11 ⟨rfl, hb⟩
                have HS11 := Lib.hid (HS5.out.below hb)
                clear hb HRP HFA HS5
                go_wp2_with (first | go_skip | (refine wpList_store_mid_to rfl 73 _ _ rfl w.heap.size 0 s'.p.fail.c rfl rfl 75 s'.c HS11.out.row (by show 0 + 21 ≤ 23; omega) (vio_size _) (VS.c_one _) ?_))
                intro w12 hx hk
                rw [put_p] at hk
                have HS12 := Lib.hid (HS11.out.put hx.out hk)
                clear hx hk HS11
                have HRES := Lib.hid (show (({ s' with p := s'.p.fail } : NS), m', acc) = R by rw [← HRR.out, HKK.out]; exact (sendF_odd _ _ _ _ HX.out HXW.out HOD.out).symm)
                have HSO := Lib.hid (NS.c_one ({ s' with p := s'.p.fail }))
                go_wp2_with (first | go_skip | (refine wpList_load_row rfl 75 _ rfl w.heap.size rfl 75 ({ s' with p := s'.p.fail } : NS).c (0, 0) _ HS12.out.row Tryd.underlying75 rfl (nic_size _) ?_) | (refine wpList_store_to rfl 75 _ _ rfl (w.heap.size + 1) ({ s' with p := s'.p.fail } : NS).c rfl rfl 75 NS.zero.c HS12.out.zrow (nic_size _) rfl HSO.out ?_))
                intro wz hx hk
                have HFN := Lib.hid (HS12.out.fin hx.out)
                have HKZ := Lib.hid hk
                clear hx hk
                go_wp2_with fail
                exact bodyPost_ret (v := .tuple #[.agg ({ s' with p := s'.p.fail } : NS).c, .slice av (vs.length) cv]) (results_cell_tmp Tryd.results18 _ _ (w.heap.size + 1) 75 ({ s' with p := s'.p.fail } : NS).c (0, 0) _ rfl HKZ.out Tryd.underlying75 rfl (nic_size _)) rfl ⟨_, _, _, by rw [← HRES.out], by rw [← HRES.out]; exact HFN.out.1, HFN.out.2.1, HFN.out.2.2.1, by rw [← HRES.out]; exact HFN.out.2.2.2.1, HFN.out.2.2.2.2.1, by rw [← HRES.out]; exact HFN.out.2.2.2.2.2⟩
            · have HOD := Lib.hid (show ¬ ((gath m' l).length ≤ 12 ∨ 1526 < (gath m' l).length) by rw [← HBS.out, ← HN8.out]; exact hod)
              obtain ⟨gv, c8, rfl, hgv, hgl, hcap, hcel⟩ : ∃ gv c8, v8 = .slice (some ⟨gv, 0, none⟩) n8 c8 ∧ w4.heap.size ≤ gv ∧ gv < w5.heap.size ∧ n8 ≤ c8 ∧ ∀ (j : Nat) (y : UInt8), bs[j]? = some y → w5.cell? ⟨gv, j, none⟩ = some (B8 y) := by
                have h3 := HO8.out.1
                rcases h3.2 with ⟨rfl, he⟩ | ⟨gv, cap, cur, rfl, hg, hh, hc, _⟩
                · omega
                · refine ⟨gv, cap, rfl, hg, lt_heap hh, hc, fun j y hj => ?_⟩
                  have hjl : j < n8 := by rw [HN8.out]; exact (List.getElem?_eq_some_iff.1 hj).1
                  rw [h3.cellAt j (by omega), List.getElem?_map, hj]
                  rfl
              have HGV := Lib.hid (And.intro hgv (And.intro hgl (And.intro hcap hcel)))
              have hlo : ¬ (n8 : Int) ≤ 12 := by omega
              have hhi : ¬ (1526 : Int) < (n8 : Int) := by omega
              have h12a : (12 : Int) ≤ (n8 : Int) := by omega
              have h12b : (n8 : Int) ≤ (c8 : Int) := by omega
              have h12c : ¬ c8 = 12 := by omega
              clear hod hgv hgl hcap hcel
              go_upto_region 15 with (first | go_skip | (refine wpList_load_row rfl 68 _ rfl w3.heap.size rfl 68 (s'.p.b.rg.took : Rg).c (0, 0) _ K7b.out Tryd.underlying68 rfl (ring_size _) ?_) | (refine wpList_store_mid_to rfl 68 _ _ rfl w.heap.size 15 (s'.p.b.rg.took : Rg).c rfl rfl 75 s'.c HS5.out.row (by show 15 + 6 ≤ 23; omega) (ring_size _) (Rg.c_one _) ?_))
              intro w6 hx hk
              rw [put_rb] at hk
              have HS6 := Lib.hid (HS5.out.put hx.out hk)
              have HC6 : Hid (∀ (j : Nat) (y : UInt8), bs[j]? = some y → w6.cell? ⟨gv, j, none⟩ = some (B8 y)) := Lib.hid (fun j y hj => (hx.out.cell (p := ⟨gv, j, none⟩) HGV.out.2.1 (by have := HGV.out.1; have h2 := HB0L.out; show ¬ gv = w.heap.size; omega)).trans (HGV.out.2.2.2 j y hj))
              have HSZ6 := Lib.hid hx.out.size
              have HREG6 := Lib.hid (reg_step HREG.out.1 HS6.out.st HREG.out.2)
              clear hx hk HS5 K7b
              obtain ⟨ii, hi1, hi2, hi3, hi4⟩ := info_bytes
              have hsel1 : (if c8 = 12 then some (⟨gv, 0, none⟩ : Addr) else some ⟨gv, 12, none⟩) = some ⟨gv, 12, none⟩ := if_neg h12c
              have HBA := Lib.hid ((Below.refl w6.heap.size w6).alloc (Nat.le_refl _) (.cells #[(.slice (some ⟨gv, 12, none⟩) (n8 - 12) (c8 - 12) : Value)] 62))
              have hnew := Lib.hid (heap_alloc_new w6 (.cells #[(.slice (some ⟨gv, 12, none⟩) (n8 - 12) (c8 - 12) : Value)] 62))
              have HS7 := Lib.hid (HS6.out.below HBA.out)
              have HSZ7 := Lib.hid (show w.heap.size ≤ w6.heap.size from HS6.out.st.kx.size)
              have hvl4 : vs.length ≤ 4 := by have := HVL.out; omega
              go_upto_region 16 with (first | go_skip | (refine wpList_append_own_at (w := w6.alloc (.cells #[(.slice (some ⟨gv, 12, none⟩) (n8 - 12) (c8 - 12) : Value)] 62)) rfl _ _ 76 rfl w.heap.size 62 ii _ 1 24 Tryd.underlying76 hi1 hi2 hi3 hi4 rfl (by omega) (.slice av vs.length cv) vs.length vs rfl HS7.out.ow ⟨w6.heap.size, 0, none⟩ 1 1 [(.slice (some ⟨gv, 12, none⟩) (n8 - 12) (c8 - 12) : Value)] rfl rfl ?hc2 (by simp [Value.oneCell']) (by simp only [maxLen]; omega) (by omega) ?hb2 ?hK2))
              case hc2 =>
                intro j u hu
                match j, hu with
                | 0, hu =>
                  obtain rfl : (.slice (some ⟨gv, 12, none⟩) (n8 - 12) (c8 - 12) : Value) = u := by simpa using hu
                  exact (cell_of_row _ _ 0 _ _ _ hnew.out).trans rfl
                | j + 1, hu => simp at hu
              case hb2 => have := HSZ7.out; simp; omega
              intro v' w8 hown hgr _ hvb
              obtain ⟨av', cv', rfl⟩ := ownsRow_form hown
              have HXL : Hid ((bs.drop 12).length = n8 - 12) := Lib.hid (by rw [List.length_drop, ← HN8.out])
              have HS8 : Hid (SendSt w w8 g w.heap.size m' F F8 (s'.setR true s'.p.b.rg.took) (.slice av' (vs.length + 1) cv') (vs ++ [.slice (some ⟨gv, 12, none⟩) (bs.drop 12).length (c8 - 12)]) (acc ++ [bs.drop 12])) := Lib.hid (HS7.out.app (by rw [HXL.out]; have := HGV.out.2.2.1; omega) (by have h1 := HGV.out.2.1; have h2 := HSZ6.out; simp; omega) (by
                  rintro (hf | hf | hf | hf)
                  · exact HO8.out.2 gv rfl hf
                  · have h1 := HGV.out.1; have h2 := HB0L.out; omega
                  · have h1 := HGV.out.1; have h2 := HZ0L.out; omega
                  · have h1 := HGV.out.1; have h2 := HOWL.out gv hf; omega) (fun j y hj => by
                  rw [List.getElem?_drop] at hj
                  exact (HBA.out.cell (p := ⟨gv, 12 + j, none⟩) (Nat.lt_of_lt_of_le HGV.out.2.1 HSZ6.out)).trans (HC6.out _ _ hj)) (by rw [HXL.out]; exact hown) hgr (by simpa using hvb))
              clear hown hgr hvb hi1 hi2 hi3 hi4 HS7 HS6 hnew hsel1 h12a h12b h12c hvl4
              have HREG8 := Lib.hid (reg_step HREG.out.1 HS8.out.st HREG.out.2)
              have HGIV : Hid (Calls Tryd.prog 45 #[.pointer (some ⟨w.heap.size, 0, none⟩), .int .i64 1, .pointer (some ⟨g, 0, none⟩), .int .i64 hd, .int .i64 0] w8 fun e w' => ∃ F2, e = .returned (.bool (rgive s'.p.b.rg.took m' hd 0).1) ∧ RamIs w' g (rgive s'.p.b.rg.took m' hd 0).2 F2 ∧ (∀ k, F2 k → F8 k ∨ w8.heap.size ≤ k) ∧ KX (fun k => F8 k ∨ k = w.heap.size) w8 w' ∧ w'.heap[w.heap.size]? = some (.cells ((s'.setR true s'.p.b.rg.took).gave true (rgive s'.p.b.rg.took m' hd 0).1).c 75 (0, 0))) := Lib.hid (nic_give (s'.setR true s'.p.b.rg.took) true (NS.setR_wf HWF.out (Rg.took_wf (VQ.rg_wf HWF.out.hb))) hd 0 (took_ok HOKP.out.1) HOKP.out.2 (by omega) HS8.out.ram HREG8.out.1 HREG8.out.2 HS8.out.row HS8.out.nb.1)
              have HSTP := Lib.hid (sendF_step kk s' m' acc HX.out HXW.out HOD.out)
              rw [← HBS.out] at HSTP
              generalize rgive s'.p.b.rg.took m' hd 0 = rg at HGIV HSTP
              obtain ⟨ok, mg⟩ := rg
              dsimp only at HGIV HSTP
              cases ok with
              | true =>
                go_wp2_with fail
                refine (HGIV.out).mono ?_
                rintro e w9 ⟨F9, rfl, q1, q2, q3, q4⟩
                have HS9 := Lib.hid (HS8.out.give q1 q2 q3 q4)
                clear q1 q2 q3 q4 HGIV HS8
                go_wp2_with fail
                go_roundw
                case rel => exact ⟨k + 1, _, mg, F9, _, _, by go_num, by omega, by rw [List.length_append, HAK.out]; rfl, NS.gave_wf (NS.setR_wf HWF.out (Rg.took_wf (VQ.rg_wf HWF.out.hb))), HS9.out, by rw [show 4 - (k + 1) = kk by have := HKK.out; omega]; have h := HRR.out; rw [HKK.out, HSTP.out, if_pos trivial] at h; exact h⟩
                case measure => simp [intOf]; omega
              | false =>
                go_wp2_with fail
                refine (HGIV.out).mono ?_
                rintro e w9 ⟨F9, rfl, q1, q2, q3, q4⟩
                have HS9 := Lib.hid (HS8.out.give q1 q2 q3 q4)
                clear q1 q2 q3 q4 HGIV HS8
                have HRES := Lib.hid (show ((s'.setR true s'.p.b.rg.took).gave true false, mg, acc ++ [bs.drop 12]) = R by have h := HRR.out; rw [HKK.out, HSTP.out, if_neg (by simp)] at h; exact h)
                have HSO := Lib.hid (NS.c_one ((s'.setR true s'.p.b.rg.took).gave true false))
                go_wp2_with (first | go_skip | (refine wpList_load_row rfl 75 _ rfl w.heap.size rfl 75 ((s'.setR true s'.p.b.rg.took).gave true false : NS).c (0, 0) _ HS9.out.row Tryd.underlying75 rfl (nic_size _) ?_) | (refine wpList_store_to rfl 75 _ _ rfl (w.heap.size + 1) ((s'.setR true s'.p.b.rg.took).gave true false : NS).c rfl rfl 75 NS.zero.c HS9.out.zrow (nic_size _) rfl HSO.out ?_))
                intro wz hx hk
                have HFN := Lib.hid (HS9.out.fin hx.out)
                have HKZ := Lib.hid hk
                clear hx hk
                go_wp2_with fail
                exact bodyPost_ret (v := .tuple #[.agg ((s'.setR true s'.p.b.rg.took).gave true false : NS).c, .slice av' (vs.length + 1) cv']) (results_cell_tmp Tryd.results18 _ _ (w.heap.size + 1) 75 ((s'.setR true s'.p.b.rg.took).gave true false : NS).c (0, 0) _ rfl HKZ.out Tryd.underlying75 rfl (nic_size _)) rfl ⟨_, _, _, by rw [← HRES.out], by rw [← HRES.out]; exact HFN.out.1, HFN.out.2.1, HFN.out.2.2.1, by rw [← HRES.out]; exact HFN.out.2.2.2.1, HFN.out.2.2.2.2.1, by rw [← HRES.out]; exact HFN.out.2.2.2.2.2⟩
    · obtain rfl : k = 4 := by omega
      clear hlt hk4
      have HRES := Lib.hid (show (s', m', acc) = R by have h := HRR.out; rw [show 4 - 4 = 0 from rfl] at h; exact h)
      have HSO := Lib.hid (NS.c_one (s'))
      go_wp2_with (first | go_skip | (refine wpList_load_row rfl 75 _ rfl w.heap.size rfl 75 (s' : NS).c (0, 0) _ HS.out.row Tryd.underlying75 rfl (nic_size _) ?_) | (refine wpList_store_to rfl 75 _ _ rfl (w.heap.size + 1) (s' : NS).c rfl rfl 75 NS.zero.c HS.out.zrow (nic_size _) rfl HSO.out ?_))
      intro wz hx hk
      have HFN := Lib.hid (HS.out.fin hx.out)
      have HKZ := Lib.hid hk
      clear hx hk
      go_wp2_with fail
      exact bodyPost_ret (v := .tuple #[.agg (s' : NS).c, .slice av (vs.length) cv]) (results_cell_tmp Tryd.results18 _ _ (w.heap.size + 1) 75 (s' : NS).c (0, 0) _ rfl HKZ.out Tryd.underlying75 rfl (nic_size _)) rfl ⟨_, _, _, by rw [← HRES.out], by rw [← HRES.out]; exact HFN.out.1, HFN.out.2.1, HFN.out.2.2.1, by rw [← HRES.out]; exact HFN.out.2.2.2.1, HFN.out.2.2.2.2.1, by rw [← HRES.out]; exact HFN.out.2.2.2.2.2⟩
end Go.Proofs.YtcmbnkmbaghkdaaDoor
