/-
nic.Send of a state that sends nothing, and of every state, walked.
Condition: the table of regions of package bus reads as its text lays it.
-/
import Derived.Test.YtcmbnkmbaghkdaaDoorNicSend
namespace Go.Proofs.YtcmbnkmbaghkdaaDoor
open Go.RowKit
set_option linter.unusedVariables false

set_option maxRecDepth 100000 in
set_option maxHeartbeats 4000000 in
theorem nic_Send_no {g : Nat} {m : Mm} {F : Nat → Prop} {w : World} (s : NS) (hs : s.p.wf) (hno : ¬ (s.bell = true ∧ s.works true)) (h : RamIs w g m F) :
    Calls Tryd.prog 18 #[.agg s.c, .pointer (some ⟨g, 0, none⟩)] w (SendPost w g F (s, m, [])) := by
  obtain ⟨k0, k1, hb0⟩ := two_new w (.cells s.c 75) (.cells NS.zero.c 75)
  have HWK := Lib.hid (fun W => nic_works s true hs.hst g W)
  have HSO := Lib.hid s.c_one
  have HS0 : Hid (SendSt w ((w.alloc (.cells s.c 75)).alloc (.cells NS.zero.c 75)) g w.heap.size m F F s (.slice none 0 0) [] []) := Lib.hid
    ⟨h.below hb0, MemStep.of_below hb0, k0, k1, ⟨fun hf => absurd (h.lt _ hf) (Nat.lt_irrefl _), fun hf => by have := h.lt _ hf; omega⟩, World.ownsRow_nil _ _ _ _, fun b hb => by simp [Value.ownBlock] at hb, rfl, fun k x hk => by simp at hk, Nat.le_refl _⟩
  by_cases hb : s.bell = true
  · have hwf : decide (s.works true) = false := decide_eq_false (fun hw => hno ⟨hb, hw⟩)
    have hc21 := (cell_of_row _ _ 21 _ _ _ k0).trans (show s.c[21]? = some (.bool true) by rw [← hb]; rfl)
    rw [hwf] at HWK
    clear h k0 k1 hb0 hs hno hb hwf
    go_enter Tryd.func18, Tryd.ntmps18
    go_upto_region 1 with fail
    change Code.wp _ _ _ _ ((w.alloc (.cells s.c 75)).alloc (.cells NS.zero.c 75))
    generalize ((w.alloc (.cells s.c 75)).alloc (.cells NS.zero.c 75)) = w1 at hc21 HS0 ⊢
    go_wp2_with (first | go_skip | (refine load_rowW rfl 75 _ rfl w.heap.size rfl 75 s.c (0, 0) _ HS0.out.row Tryd.underlying75 rfl (nic_size _) ?_))
    refine (HWK.out _).mono ?_
    rintro e w2 ⟨rfl, hb⟩
    have HS2 := Lib.hid (HS0.out.below hb)
    clear hb HS0 hc21 HWK
    go_wp2_with (first | go_skip | (refine wpList_load_row rfl 75 _ rfl w.heap.size rfl 75 s.c (0, 0) _ HS2.out.row Tryd.underlying75 rfl (nic_size _) ?_) | (refine wpList_store_to rfl 75 _ _ rfl (w.heap.size + 1) s.c rfl rfl 75 NS.zero.c HS2.out.zrow (nic_size _) rfl HSO.out ?_))
    intro wz hx hk
    have HFN := Lib.hid (HS2.out.fin hx.out)
    have HKZ := Lib.hid hk
    clear hx hk
    go_wp2_with fail
    exact bodyPost_ret (v := .tuple #[.agg s.c, .slice none 0 0]) (results_cell_tmp Tryd.results18 _ _ (w.heap.size + 1) 75 s.c (0, 0) _ rfl HKZ.out Tryd.underlying75 rfl (nic_size _)) rfl ⟨_, _, _, rfl, HFN.out.1, HFN.out.2.1, HFN.out.2.2.1, HFN.out.2.2.2.1, HFN.out.2.2.2.2.1, HFN.out.2.2.2.2.2⟩
  · have hc21 := (cell_of_row _ _ 21 _ _ _ k0).trans (show s.c[21]? = some (.bool false) by rw [← (show s.bell = false by simpa using hb)]; rfl)
    clear h k0 k1 hb0 hs hno hb HWK
    go_enter Tryd.func18, Tryd.ntmps18
    go_upto_region 1 with fail
    change Code.wp _ _ _ _ ((w.alloc (.cells s.c 75)).alloc (.cells NS.zero.c 75))
    generalize ((w.alloc (.cells s.c 75)).alloc (.cells NS.zero.c 75)) = w1 at hc21 HS0 ⊢
    go_wp2_with (first | go_skip | (refine wpList_load_row rfl 75 _ rfl w.heap.size rfl 75 s.c (0, 0) _ HS0.out.row Tryd.underlying75 rfl (nic_size _) ?_) | (refine wpList_store_to rfl 75 _ _ rfl (w.heap.size + 1) s.c rfl rfl 75 NS.zero.c HS0.out.zrow (nic_size _) rfl HSO.out ?_))
    intro wz hx hk
    have HFN := Lib.hid (HS0.out.fin hx.out)
    have HKZ := Lib.hid hk
    clear hx hk
    go_wp2_with fail
    exact bodyPost_ret (v := .tuple #[.agg s.c, .slice none 0 0]) (results_cell_tmp Tryd.results18 _ _ (w.heap.size + 1) 75 s.c (0, 0) _ rfl HKZ.out Tryd.underlying75 rfl (nic_size _)) rfl ⟨_, _, _, rfl, HFN.out.1, HFN.out.2.1, HFN.out.2.2.1, HFN.out.2.2.2.1, HFN.out.2.2.2.2.1, HFN.out.2.2.2.2.2⟩
theorem nic_Send {g : Nat} {m : Mm} {F : Nat → Prop} {w : World} (s : NS) (hs : s.p.wf) (h : RamIs w g m F) (hr : RegAt w) (hrf : ¬ F 0) :
    Calls Tryd.prog 18 #[.agg s.c, .pointer (some ⟨g, 0, none⟩)] w (SendPost w g F (nsend s m)) := by
  by_cases hc : s.bell = true ∧ s.works true
  · rw [show nsend s m = sendF 4 s m [] from if_pos hc]
    exact nic_Send_go s hs _ rfl hc.1 hc.2 h hr hrf
  · rw [show nsend s m = (s, m, []) from if_neg hc]
    exact nic_Send_no s hs hc h
end Go.Proofs.YtcmbnkmbaghkdaaDoor
