/-
pinnacelaw16.giveNic, walked: a state of the reference is the program's, cell by cell.
No condition.
-/
import Derived.Test.YtcmbnkmbaghkdaaDoorGive16
import Derived.Test.YtcmbnkmbaghkdaaDoorNicSend
import Derived.Test.YtcmbnkmbaghkdaaDoorYieldsBuild
namespace Go.Proofs.YtcmbnkmbaghkdaaDoor
open Go.RowKit
set_option linter.unusedVariables false

theorem port_sizeL (p : VS) : (Tryd.prog.info? 57).map (·.size) = some p.c.toList.length := by
  show _ = some 21
  kernel_rfl
theorem nic_built (s : NS) : s.p.c ++ #[.bool s.bell, .int .u32 s.lost] = s.c := rfl
set_option maxRecDepth 100000 in
set_option maxHeartbeats 4000000 in
theorem give_nic (s : NS) (w : World) : Calls Tryd.prog 19 #[.agg s.c] w fun e w' => e = .returned (.agg s.c) ∧ Below w.heap.size w w' := by
  obtain ⟨k0, k1, hb0⟩ := two_new w (.cells s.c 59) (.cells NS.zero.c 75)
  have K0 := Lib.hid k0
  have K1 := Lib.hid k1
  have HB := Lib.hid hb0
  have HO := Lib.hid s.c_one
  have HP : Hid (∀ W, Calls Tryd.prog 46 #[.agg s.p.c.toList.toArray] W fun e w' => e = .returned (.agg s.p.c) ∧ Below W.heap.size W w') := Lib.hid (fun W => by rw [Array.toArray_toList]; exact give_port s.p W)
  have HRP := Lib.hid (NS.range_p k0)
  clear k0 k1 hb0
  go_enter Tryd.func19, Tryd.ntmps19
  go_upto_region 1 with fail
  change Code.wp _ _ _ _ ((w.alloc (.cells s.c 59)).alloc (.cells NS.zero.c 75))
  generalize ((w.alloc (.cells s.c 59)).alloc (.cells NS.zero.c 75)) = w1 at K0 K1 HB HRP ⊢
  refine wp_region_held_drew (S := fun W => W.heap[w.heap.size]? = some (.cells s.c 59 (0, 0))) (by kernel_rfl) K0.out (fun hH0 => ?_)
  refine wpAnyH_take (i := 0) (v := ?v0) rfl (by kernel_rfl) (by kernel_rfl) (by kernel_rfl) (fun _ _ _ h => h) (Or.inl ⟨by rfl, ?hy0⟩) (by assumption) ?rest0
  case hy0 => (intro W hSw; go_simp; first | done | with_reducible rfl)
  simp only [Act.put, List.getElem_toArray, List.getElem_cons_zero, List.setIfInBounds_toArray, List.set_cons_zero, List.set_cons_succ]
  refine wpAnyH_take (i := 1) rfl (by kernel_rfl) (by kernel_rfl) (by kernel_rfl) (fun _ _ _ h => h) (yieldsIf_load_mid (by rfl) 57 _ rfl w.heap.size 0 rfl s.p.c.toList _ (fun W hSw => NS.range_p hSw) Tryd.underlying57 rfl ?hi1) (by assumption) ?rest1
  case hi1 => exact port_sizeL _
  simp only [Act.put, List.getElem_toArray, List.getElem_cons_zero, List.getElem_cons_succ, List.setIfInBounds_toArray, List.set_cons_zero, List.set_cons_succ]
  refine wpAnyH_take (i := 3) (v := ?v3) rfl (by kernel_rfl) (by kernel_rfl) (by kernel_rfl) (fun _ _ _ h => h) (Or.inl ⟨by rfl, ?hy3⟩) (by assumption) ?rest3
  case hy3 => (intro W hSw; go_simp; first | done | with_reducible rfl)
  simp only [Act.put, List.getElem_toArray, List.getElem_cons_zero, List.getElem_cons_succ, List.setIfInBounds_toArray, List.set_cons_zero, List.set_cons_succ]
  refine wpAnyH_take (i := 4) (v := ?v4) rfl (by kernel_rfl) (by kernel_rfl) (by kernel_rfl) (fun _ _ _ h => h) (Or.inl ⟨by rfl, ?hy4⟩) (by assumption) ?rest4
  case hy4 => (intro W hSw; have cj := (cell_of_row _ _ 21 _ _ _ hSw).trans (rfl : _ = some (.bool s.bell : Value)); go_simp; first | done | with_reducible rfl)
  simp only [Act.put, List.getElem_toArray, List.getElem_cons_zero, List.getElem_cons_succ, List.setIfInBounds_toArray, List.set_cons_zero, List.set_cons_succ]
  refine wpAnyH_take (i := 5) (v := ?v5) rfl (by kernel_rfl) (by kernel_rfl) (by kernel_rfl) (fun _ _ _ h => h) (Or.inl ⟨by rfl, ?hy5⟩) (by assumption) ?rest5
  case hy5 => (intro W hSw; go_simp; first | done | with_reducible rfl)
  simp only [Act.put, List.getElem_toArray, List.getElem_cons_zero, List.getElem_cons_succ, List.setIfInBounds_toArray, List.set_cons_zero, List.set_cons_succ]
  refine wpAnyH_take (i := 6) (v := ?v6) rfl (by kernel_rfl) (by kernel_rfl) (by kernel_rfl) (fun _ _ _ h => h) (Or.inl ⟨by rfl, ?hy6⟩) (by assumption) ?rest6
  case hy6 => (intro W hSw; have cj := (cell_of_row _ _ 22 _ _ _ hSw).trans (rfl : _ = some (.int .u32 s.lost : Value)); go_simp; first | done | with_reducible rfl)
  simp only [Act.put, List.getElem_toArray, List.getElem_cons_zero, List.getElem_cons_succ, List.setIfInBounds_toArray, List.set_cons_zero, List.set_cons_succ]
  refine wpAnyH_ready (rs := [2]) (by kernel_rfl) (by simp) ?_
  refine AllReadyH.cons (o := _) rfl (fun K hK => ?_) (AllReadyH.nil)
  simp only [List.getElem_toArray, List.getElem_cons_zero, List.getElem_cons_succ]
  go_simp
  refine (HP.out _).mono ?_
  rintro e w2 ⟨rfl, hb⟩
  have K2 := Lib.hid (keepB (a := w1.drew) K0.out hb)
  have K3 := Lib.hid (keepB (a := w1.drew) K1.out hb)
  have HB2 := Lib.hid (HB.out.drew.trans (hb.mono HB.out.size))
  refine hK.out _ _ K2.out (fun hH1 => ?_)
  clear hK K hH0 hb
  try simp only [Act.put, List.setIfInBounds_toArray, List.set_cons_zero, List.set_cons_succ]
  refine wpAnyH_take (i := 7) rfl (by kernel_rfl) (by kernel_rfl) (by kernel_rfl) (fun _ _ _ h => h) (yieldsIf_build (by rfl) 75 _ rfl s.c (by kernel_rfl)) (by assumption) ?rest7
  simp only [Act.put, List.getElem_toArray, List.getElem_cons_zero, List.getElem_cons_succ, List.setIfInBounds_toArray, List.set_cons_zero, List.set_cons_succ]
  refine wpAnyH_ready (rs := [8]) (by kernel_rfl) (by simp) ?_
  refine AllReadyH.cons (o := _) rfl (fun K hK => ?_) (AllReadyH.nil)
  simp only [List.getElem_toArray, List.getElem_cons_zero, List.getElem_cons_succ]
  refine wp_store_row 75 _ _ rfl (w.heap.size + 1) s.c rfl rfl 75 NS.zero.c K3.out (nic_size _) rfl HO.out ?_
  have HX := Lib.hid ((KX.refl (fun k => k = w.heap.size + 1) w2).setRow (g := w.heap.size + 1) (.inl rfl) s.c)
  have K4 := Lib.hid (setRow_heap w2 (w.heap.size + 1) _ s.c _ _ K3.out)
  generalize w2.setRow (w.heap.size + 1) s.c = w5 at HX K4
  refine hK.out _ _ (HX.out.heap K2.out (by omega)) (fun hH2 => ?_)
  clear hK K hH1
  try simp only [Act.put]
  refine wpAnyH_done (by kernel_rfl) ?_ _
  clear hH2
  have HB5 := Lib.hid (HB2.out.trans (HX.out.below (B := w.heap.size) (fun k hk e => by omega) HB2.out.size))
  go_wp2_with fail
  exact bodyPost_ret (v := .agg s.c) (results_cell_row rfl _ _ (w.heap.size + 1) 75 s.c (0, 0) _ rfl K4.out Tryd.underlying75 rfl (nic_size _)) rfl ⟨rfl, HB5.out⟩
end Go.Proofs.YtcmbnkmbaghkdaaDoor
