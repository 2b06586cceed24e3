/-
nic.Send of a state that sends nothing, and of every state; nic's lose; walked.
Condition: the table of regions of package bus reads as its text lays it.
-/
import Derived.Test.YtcbjlpkkebcmjaaDoorNicSend
namespace Go.Proofs.YtcbjlpkkebcmjaaDoor
open Go.RowKit
set_option linter.unusedVariables false

set_option maxRecDepth 100000 in
set_option maxHeartbeats 4000000 in
theorem nic_Send_no {g : Nat} {m : Mm} {F : Nat → Prop} {w : World} (s : NS) (hs : s.p.wf) (hno : ¬ (s.bell = true ∧ s.works true)) (h : RamIs w g m F) :
    Calls Tryd.prog 36 #[.agg s.c, .pointer (some ⟨g, 0, none⟩)] w (SendPost w g F (s, m, [])) := by
  obtain ⟨k0, k1, hb0⟩ := two_new w (.cells s.c 87) (.cells NS.zero.c 87)
  have HWK := Lib.hid (fun W => nic_works s true hs.hst g W)
  have HSO := Lib.hid s.c_one
  have HS0 : Hid (SendSt w ((w.alloc (.cells s.c 87)).alloc (.cells NS.zero.c 87)) g w.heap.size m F F s (.slice none 0 0) [] []) := Lib.hid
    ⟨h.below hb0, MemStep.of_below hb0, k0, k1, ⟨fun hf => absurd (h.lt _ hf) (Nat.lt_irrefl _), fun hf => by have := h.lt _ hf; omega⟩, World.ownsRow_nil _ _ _ _, fun b hb => by simp [Value.ownBlock] at hb, rfl, fun k x hk => by simp at hk, Nat.le_refl _⟩
  by_cases hb : s.bell = true
  · have hwf : decide (s.works true) = false := decide_eq_false (fun hw => hno ⟨hb, hw⟩)
    have hc21 := (cell_of_row _ _ 21 _ _ _ k0).trans (show s.c[21]? = some (.bool true) by rw [← hb]; rfl)
    rw [hwf] at HWK
    clear h k0 k1 hb0 hs hno hb hwf
    go_enter Tryd.func36, Tryd.ntmps36
    go_upto_region 1 with fail
    change Code.wp _ _ _ _ ((w.alloc (.cells s.c 87)).alloc (.cells NS.zero.c 87))
    generalize ((w.alloc (.cells s.c 87)).alloc (.cells NS.zero.c 87)) = w1 at hc21 HS0 ⊢
    go_wp2_with (first | go_skip | (refine load_rowW rfl 87 _ rfl w.heap.size rfl 87 s.c (0, 0) _ HS0.out.row Tryd.underlying87 rfl (nic_size _) ?_))
    refine (HWK.out _).mono ?_
    rintro e w2 ⟨rfl, hb⟩
    have HS2 := Lib.hid (HS0.out.below hb)
    clear hb HS0 hc21 HWK
    go_wp2_with (first | go_skip | (refine wpList_load_row rfl 87 _ rfl w.heap.size rfl 87 s.c (0, 0) _ HS2.out.row Tryd.underlying87 rfl (nic_size _) ?_) | (refine wpList_store_to rfl 87 _ _ rfl (w.heap.size + 1) s.c rfl rfl 87 NS.zero.c HS2.out.zrow (nic_size _) rfl HSO.out ?_))
    intro wz hx hk
    have HFN := Lib.hid (HS2.out.fin hx.out)
    have HKZ := Lib.hid hk
    clear hx hk
    go_wp2_with fail
    exact bodyPost_ret (v := .tuple #[.agg s.c, .slice none 0 0]) (results_cell_tmp Tryd.results36 _ _ (w.heap.size + 1) 87 s.c (0, 0) _ rfl HKZ.out Tryd.underlying87 rfl (nic_size _)) rfl ⟨_, _, _, rfl, HFN.out.1, HFN.out.2.1, HFN.out.2.2.1, HFN.out.2.2.2.1, HFN.out.2.2.2.2.1, HFN.out.2.2.2.2.2⟩
  · have hc21 := (cell_of_row _ _ 21 _ _ _ k0).trans (show s.c[21]? = some (.bool false) by rw [← (show s.bell = false by simpa using hb)]; rfl)
    clear h k0 k1 hb0 hs hno hb HWK
    go_enter Tryd.func36, Tryd.ntmps36
    go_upto_region 1 with fail
    change Code.wp _ _ _ _ ((w.alloc (.cells s.c 87)).alloc (.cells NS.zero.c 87))
    generalize ((w.alloc (.cells s.c 87)).alloc (.cells NS.zero.c 87)) = w1 at hc21 HS0 ⊢
    go_wp2_with (first | go_skip | (refine wpList_load_row rfl 87 _ rfl w.heap.size rfl 87 s.c (0, 0) _ HS0.out.row Tryd.underlying87 rfl (nic_size _) ?_) | (refine wpList_store_to rfl 87 _ _ rfl (w.heap.size + 1) s.c rfl rfl 87 NS.zero.c HS0.out.zrow (nic_size _) rfl HSO.out ?_))
    intro wz hx hk
    have HFN := Lib.hid (HS0.out.fin hx.out)
    have HKZ := Lib.hid hk
    clear hx hk
    go_wp2_with fail
    exact bodyPost_ret (v := .tuple #[.agg s.c, .slice none 0 0]) (results_cell_tmp Tryd.results36 _ _ (w.heap.size + 1) 87 s.c (0, 0) _ rfl HKZ.out Tryd.underlying87 rfl (nic_size _)) rfl ⟨_, _, _, rfl, HFN.out.1, HFN.out.2.1, HFN.out.2.2.1, HFN.out.2.2.2.1, HFN.out.2.2.2.2.1, HFN.out.2.2.2.2.2⟩
theorem nic_Send {g : Nat} {m : Mm} {F : Nat → Prop} {w : World} (s : NS) (hs : s.p.wf) (h : RamIs w g m F) (hr : RegAt w) (hrf : ¬ F 0) :
    Calls Tryd.prog 36 #[.agg s.c, .pointer (some ⟨g, 0, none⟩)] w (SendPost w g F (nsend s m)) := by
  by_cases hc : s.bell = true ∧ s.works true
  · rw [show nsend s m = sendF 4 s m [] from if_pos hc]
    exact nic_Send_go s hs _ rfl hc.1 hc.2 h hr hrf
  · rw [show nsend s m = (s, m, []) from if_neg hc]
    exact nic_Send_no s hs hc h
/-- A frame lost. -/
def NS.lose (s : NS) : NS := { s with lost := (s.lost + 1) % 4294967296 }
theorem put_lost (s : NS) (x : Nat) : s.c.setIfInBounds 22 (.int .u32 (x : Nat)) = ({ s with lost := x } : NS).c := rfl
set_option maxRecDepth 100000 in
set_option maxHeartbeats 4000000 in
theorem nic_lose (s : NS) (hl : s.lost < 4294967296) (w : World) :
    Calls Tryd.prog 97 #[.agg s.c] w fun e w' => e = .returned (.tuple #[.agg s.lose.c, .bool false, .nilIface]) ∧ Below w.heap.size w w' := by
  obtain ⟨k0, k1, hb0⟩ := two_new w (.cells s.c 87) (.cells NS.zero.c 87)
  have K0 := Lib.hid k0
  have K1 := Lib.hid k1
  have HB := Lib.hid hb0
  have HSO := Lib.hid s.lose.c_one
  have c22 := (cell_of_row _ _ 22 _ _ _ k0).trans (rfl : _ = some (.int .u32 s.lost : Value))
  have f22 := frozen_of_row _ _ 22 _ _ k0
  have HV : Hid (((s.lost : Int) + 1) % 4294967296 = (((s.lost + 1) % 4294967296 : Nat) : Int)) := Lib.hid (by omega)
  clear k0 k1 hb0 hl
  go_enter Tryd.func97, Tryd.ntmps97
  go_upto_region 1 with fail
  change Code.wp _ _ _ _ ((w.alloc (.cells s.c 87)).alloc (.cells NS.zero.c 87))
  generalize ((w.alloc (.cells s.c 87)).alloc (.cells NS.zero.c 87)) = w1 at c22 f22 K0 K1 HB ⊢
  go_upto_region 2 with fail
  rw [HV.out]
  have HS2 : Hid ((w1.setCell ⟨w.heap.size, 22, none⟩ (.int .u32 ((s.lost + 1) % 4294967296 : Nat))).heap[w.heap.size]? = some (.cells s.lose.c 87 (0, 0))) := Lib.hid ((set_cells K0.out).trans (by rw [put_lost]; rfl))
  have HZ2 : Hid ((w1.setCell ⟨w.heap.size, 22, none⟩ (.int .u32 ((s.lost + 1) % 4294967296 : Nat))).heap[w.heap.size + 1]? = some (.cells NS.zero.c 87 (0, 0))) := Lib.hid ((heap_cell_other (by show w.heap.size + 1 ≠ w.heap.size; omega)).trans K1.out)
  have HB2 := Lib.hid (HB.out.setCell (p := ⟨w.heap.size, 22, none⟩) (Nat.le_refl _) (.int .u32 ((s.lost + 1) % 4294967296 : Nat)))
  generalize (w1.setCell ⟨w.heap.size, 22, none⟩ (.int .u32 ((s.lost + 1) % 4294967296 : Nat))) = w2 at HS2 HZ2 HB2 ⊢
  clear c22 f22 K0 K1 HB
  go_wp2_with (first | go_skip | (refine wpList_load_row rfl 87 _ rfl w.heap.size rfl 87 s.lose.c (0, 0) _ HS2.out Tryd.underlying87 rfl (nic_size _) ?_) | (refine wpList_store_to rfl 87 _ _ rfl (w.heap.size + 1) s.lose.c rfl rfl 87 NS.zero.c HZ2.out (nic_size _) rfl HSO.out ?_))
  intro wz hx hk
  have HBZ := Lib.hid (HB2.out.trans (hx.out.below (B := w.heap.size) (fun k hk e => by omega) HB2.out.size))
  have HKZ := Lib.hid hk
  clear hx hk
  go_wp2_with fail
  exact bodyPost_ret (v := .tuple #[.agg s.lose.c, .bool false, .nilIface]) (results_cell_tmp2 Tryd.results97 _ _ (w.heap.size + 1) 87 s.lose.c (0, 0) _ rfl HKZ.out Tryd.underlying87 rfl (nic_size _)) rfl ⟨rfl, HBZ.out⟩
end Go.Proofs.YtcbjlpkkebcmjaaDoor
