/-
pinnacelaw14.sure, walked: it answers true.
No condition.
-/
import Derived.Test.YtcbjlpkkebcmjaaDoorVioWrAll
import Derived.Test.YtcbjlpkkebcmjaaDoorVioOk
import Derived.Test.YtcbjlpkkebcmjaaDoorGive
import Derived.Deep.RegionHeld3
import Derived.Deep.WholeRow
namespace Go.Proofs.YtcbjlpkkebcmjaaDoor
open Go.RowKit

def sureA (k : Nat) : Nat := if k = 0 then 112 else if k = 1 then 36 else if k = 2 then 32 else 112
def sureB (k : Nat) : Nat := if k = 0 then 3 else if k = 1 then 1 else if k = 2 then 1 else if k = 3 then 11 else 15
def sureS : Nat → VS
  | 0 => VS.zero
  | k + 1 => (sureS k).write (sureA k) (sureB k)
def sureL : Array Value := #[.int .u32 112, .int .u32 3, .int .u32 36, .int .u32 1, .int .u32 32, .int .u32 1, .int .u32 112, .int .u32 11, .int .u32 112, .int .u32 15]
theorem vs_wf_zero : VS.zero.wf := ⟨by decide, by decide, by decide, by decide, by decide, by decide, by decide, ⟨by decide, by decide, by decide, by decide, by decide, by decide, by decide⟩, ⟨by decide, by decide, by decide, by decide, by decide, by decide, by decide⟩⟩
def sureT (a b : Nat) (d1 : Nat) : VS := ⟨a, 0, b, 0, 0, 0, d1, ⟨false, 0, 0, 0, 0, 0, 0⟩, ⟨false, 0, 0, 0, 0, 0, 0⟩⟩
theorem sureT_wf (a b d1 : Nat) (ha : a < 4294967296) (hb : b < 4294967296) (hd : d1 < 4294967296) : (sureT a b d1).wf :=
  ⟨ha, vs_wf_zero.hfs, hb, vs_wf_zero.hse, vs_wf_zero.hirq, vs_wf_zero.hd0, hd, vs_wf_zero.ha, vs_wf_zero.hb⟩
theorem sureS_1 : sureS 1 = sureT 3 0 0 := rfl
theorem sureS_2 : sureS 2 = sureT 3 1 0 := rfl
theorem sureS_3 : sureS 3 = sureT 3 1 1 := rfl
theorem sureS_4 : sureS 4 = sureT 11 1 1 := rfl
theorem sureS_5 : sureS 5 = sureT 15 1 1 := rfl
theorem sure5 : (sureS 5).live ∧ (sureS 5).wf := by
  rw [sureS_5]; exact ⟨by decide +kernel, sureT_wf _ _ _ (by decide) (by decide) (by decide)⟩
theorem sure_vio (k : Nat) (hk : k < 5) : vioV (sureS k) (sureA k) (sureB k) = .tuple #[(sureS (k + 1)).v, .int .i64 (-1), .nilIface] ∧ (sureS k).live = False ∧ (sureS k).wf := by
  have key : ∀ s : VS, ∀ a b : Nat, badN s a = 0 → s.told a b = -1 → vioV s a b = .tuple #[(s.write a b).v, .int .i64 (-1), .nilIface] := fun s a b h1 h2 => by
    unfold vioV; rw [if_pos h1, h2]
  have : k = 0 ∨ k = 1 ∨ k = 2 ∨ k = 3 ∨ k = 4 := by omega
  rcases this with rfl | rfl | rfl | rfl | rfl
  · exact ⟨key _ _ _ (by decide +kernel) (by decide +kernel), eq_false (by decide +kernel), vs_wf_zero⟩
  · exact ⟨key _ _ _ (by decide +kernel) (by decide +kernel), eq_false (by decide +kernel), by rw [sureS_1]; exact sureT_wf _ _ _ (by decide) (by decide) (by decide)⟩
  · exact ⟨key _ _ _ (by decide +kernel) (by decide +kernel), eq_false (by decide +kernel), by rw [sureS_2]; exact sureT_wf _ _ _ (by decide) (by decide) (by decide)⟩
  · exact ⟨key _ _ _ (by decide +kernel) (by decide +kernel), eq_false (by decide +kernel), by rw [sureS_3]; exact sureT_wf _ _ _ (by decide) (by decide) (by decide)⟩
  · exact ⟨key _ _ _ (by decide +kernel) (by decide +kernel), eq_false (by decide +kernel), by rw [sureS_4]; exact sureT_wf _ _ _ (by decide) (by decide) (by decide)⟩

theorem sureB_lt (k : Nat) : sureB k < 4294967296 := by
  unfold sureB; repeat' split
  all_goals omega
theorem row_range {w : World} {g : Nat} {c : Array Value} {t : TypeId} {fr : Nat × Nat} (h : w.heap[g]? = some (.cells c t fr)) : w.rangeAt g 0 c.toList := fun j v hv => by
  rw [Nat.zero_add, cell_of_row _ _ j _ _ _ h]; simpa using hv
theorem row_keep {w : World} {b b' : Nat} {cs : Array Value} (h : b' ≠ b) : (w.setRow b cs).heap[b']? = w.heap[b']? := by
  simp only [World.setRow, Array.getElem?_modify]
  rw [if_neg (fun e => h e.symm)]
theorem heap_alloc_keep {w : World} {g : Nat} {x o : Obj} (h : w.heap[g]? = some x) : (w.alloc o).heap[g]? = some x :=
  (heap_alloc_old w o (Array.getElem?_eq_some_iff.1 h).1).trans h

set_option maxRecDepth 100000 in
set_option maxHeartbeats 4000000 in
theorem law14_sure (w : World) :
    Calls Tryd.prog 34 #[] w fun e w' => e = .returned (.bool true) ∧ Below w.heap.size w w' := by
  go_enter Tryd.func34, Tryd.ntmps34
  have HI' := Lib.hid (show (Tryd.prog.info? 63).map (·.size) = some VS.zero.c.size by kernel_rfl)
  have HO := Lib.hid (VS.zero.c_one)
  have HB := Lib.hid (show (w.alloc (.cells VS.zero.c 63)).heap[w.heap.size]? = some (.cells VS.zero.c 63 (0, 0)) from heap_alloc_new _ _)
  go_wp2_with (refine wpList_store_row rfl 63 _ _ rfl w.heap.size VS.zero.c rfl rfl 63 VS.zero.c HB.out HI'.out rfl HO.out ?_)
  have HL0 := Lib.hid (setRow_heap _ _ _ VS.zero.c _ _ HB.out)
  generalize hw1 : (w.alloc (.cells VS.zero.c 63)).setRow w.heap.size VS.zero.c = w1 at HL0
  have hw1s : w1.heap.size = w.heap.size + 1 := by rw [← hw1]; simp [World.setRow]
  have HB1 : Below w.heap.size w w1 := by rw [← hw1]; exact below_setRow ((Below.refl _ _).alloc (Nat.le_refl _) _) (Nat.le_refl _) _
  go_loopw [3] (fun i wr => ∃ k : Nat, k ≤ 5 ∧ i = .int .i64 k ∧ wr.heap[w.heap.size]? = some (.cells (sureS k).c 63 (0, 0)) ∧ wr.heap[w.heap.size + 1]? = some (.cells sureL 49 (0, 0)) ∧ Below w.heap.size w wr) (fun i _ => 5 - (intOf i).toNat)
  case atStart =>
    have e2 := heap_alloc_old w1 (.cells sureL 49) (r := w.heap.size) (by rw [hw1s]; omega)
    have e3 := heap_alloc_new w1 (.cells sureL 49)
    rw [hw1s] at e3
    have e4 := HB1.alloc (by rw [hw1s]; omega) (.cells sureL 49)
    have e2' := e2.trans HL0.out
    rw [← hw1] at e2' e3 e4
    exact ⟨0, by omega, rfl, e2', e3, e4⟩
  case round =>
    obtain ⟨k, hk5, rfl, hrc, hrl, hbl⟩ := hrel
    by_cases hk : k = 5
    · subst hk
      have HV := Lib.hid (fun W => vs_Live (sureS 5) sure5.2.hst W)
      rw [decide_eq_true sure5.1] at HV
      have hsz1 : (sureS 5).c.size = 21 := rfl
      simp only [VS.v] at HV
      obtain ⟨c, hc⟩ : ∃ c, c = (sureS 5).c := ⟨_, rfl⟩
      rw [← hc] at HV hrc hsz1
      have HA := Lib.hid hrc
      have HBL := Lib.hid hbl
      have HIC := Lib.hid (show (Tryd.prog.info? 63).map (·.size) = some c.size by rw [hsz1]; kernel_rfl)
      clear hc hrc hbl HB HI' HO HL0 hw1s hw1
      go_wp2_with (refine wpList_load_row rfl 63 _ rfl w.heap.size rfl 63 c (0, 0) _ HA.out Tryd.underlying63 rfl HIC.out ?_)
      refine (HV.out _).mono ?_
      rintro e w5 ⟨rfl, hb5⟩
      go_wp2_with fail
      go_ret
      exact ⟨rfl, HBL.out.trans (hb5.mono HBL.out.size)⟩
    · obtain ⟨hV1, hV2, hV3⟩ := sure_vio k (by omega)
      have HW := Lib.hid (fun W => vs_Write (sureS k) (sureA k) (sureB k) hV3 (sureB_lt k) W)
      have HV := Lib.hid (fun W => vs_Live (sureS k) hV3.hst W)
      rw [decide_eq_false (by simp [hV2])] at HV
      rw [hV1] at HW
      have ha : sureL[k * 2]? = some (.int .u32 (sureA k : Nat)) := by
        have : k = 0 ∨ k = 1 ∨ k = 2 ∨ k = 3 ∨ k = 4 := by omega
        rcases this with rfl | rfl | rfl | rfl | rfl <;> rfl
      have hb : sureL[k * 2 + 1]? = some (.int .u32 (sureB k : Nat)) := by
        have : k = 0 ∨ k = 1 ∨ k = 2 ∨ k = 3 ∨ k = 4 := by omega
        rcases this with rfl | rfl | rfl | rfl | rfl <;> rfl
      have hone := (sureS (k + 1)).c_one
      have hsz : (sureS (k + 1)).c.size = 21 := rfl
      have hsz1 : (sureS k).c.size = 21 := rfl
      simp only [VS.v] at HW HV
      clear hV1 hV2 hV3
      generalize sureA k = a at HW ha
      generalize sureB k = b at HW hb
      obtain ⟨c, hc⟩ : ∃ c, c = (sureS k).c := ⟨_, rfl⟩
      obtain ⟨d, hd⟩ : ∃ d, d = (sureS (k + 1)).c := ⟨_, rfl⟩
      rw [← hc] at HW HV hrc hsz1
      rw [← hd] at HW hone hsz
      have HD := Lib.hid hd
      clear hc hd HB HI' HO HL0 hw1s hw1
      have c0 := (cell_of_row _ _ (k * 2) _ _ _ hrl).trans ha
      have c1 := (cell_of_row _ _ (k * 2 + 1) _ _ _ hrl).trans hb
      have hk0 : (0 : Int) ≤ ↑k := by omega
      have hk5' : (↑k : Int) < 5 := by omega
      go_wp2_with fail
      have hmk : ∀ W : World, W.heap[w.heap.size]? = some (.cells c 63 (0, 0)) → W.heap[w.heap.size + 1]? = some (.cells sureL 49 (0, 0)) → Below w.heap.size w W →
         (W.cell? ⟨w.heap.size + 1, k * 2, none⟩ = some (.int .u32 a) ∧ W.cell? ⟨w.heap.size + 1, k * 2 + 1, none⟩ = some (.int .u32 b)
           ∧ W.heap[w.heap.size]? = some (.cells c 63 (0, 0)) ∧ W.heap[w.heap.size + 1]? = some (.cells sureL 49 (0, 0)) ∧ Below w.heap.size w W) := fun W h1 h2 h3 => ⟨(cell_of_row _ _ _ _ _ _ h2).trans ha, (cell_of_row _ _ _ _ _ _ h2).trans hb, h1, h2, h3⟩
      have HMK := Lib.hid hmk
      clear hmk
      have HID := Lib.hid (show (Tryd.prog.info? 63).map (·.size) = some d.size by rw [hsz]; kernel_rfl)
      have HZD : Hid (VS.zero.c.size = d.size) := Lib.hid (by rw [hsz]; rfl)
      have HOD := Lib.hid hone
      have HIC := Lib.hid (show (Tryd.prog.info? 63).map (·.size) = some c.toList.length by rw [show c.toList.length = 21 by simpa using hsz1]; kernel_rfl)
      refine wp_region_held_drew (S := (fun W => W.cell? ⟨w.heap.size + 1, k * 2, none⟩ = some (.int .u32 a) ∧ W.cell? ⟨w.heap.size + 1, k * 2 + 1, none⟩ = some (.int .u32 b)
           ∧ W.heap[w.heap.size]? = some (.cells c 63 (0, 0)) ∧ W.heap[w.heap.size + 1]? = some (.cells sureL 49 (0, 0)) ∧ Below w.heap.size w W)) (by kernel_rfl) (HMK.out _ hrc hrl hbl.drew) (fun hHeld => ?_)
      refine wpAnyH_take (i := 1) (v := ?v1) rfl (by kernel_rfl) (by kernel_rfl) (by kernel_rfl) (fun _ _ _ h => h) (Or.inl ⟨by rfl, ?hy1⟩) (by assumption) ?rest1
      case hy1 => (intro W hSw; (try dsimp only at hSw); go_simp; first | done | with_reducible rfl)
      simp only [Act.put, List.getElem_toArray, List.getElem_cons_zero, List.getElem_cons_succ, List.setIfInBounds_toArray, List.set_cons_zero, List.set_cons_succ]
      refine wpAnyH_take (i := 2) (v := ?v2) rfl (by kernel_rfl) (by kernel_rfl) (by kernel_rfl) (fun _ _ _ h => h) (Or.inl ⟨by rfl, ?hy2⟩) (by assumption) ?rest2
      case hy2 => (intro W hSw; (try dsimp only at hSw); go_simp; first | done | with_reducible rfl)
      simp only [Act.put, List.getElem_toArray, List.getElem_cons_zero, List.getElem_cons_succ, List.setIfInBounds_toArray, List.set_cons_zero, List.set_cons_succ]
      refine wpAnyH_take (i := 3) (v := ?v3) rfl (by kernel_rfl) (by kernel_rfl) (by kernel_rfl) (fun _ _ _ h => h) (Or.inl ⟨by rfl, ?hy3⟩) (by assumption) ?rest3
      case hy3 => (intro W hSw; (try dsimp only at hSw); go_simp; first | done | with_reducible rfl)
      simp only [Act.put, List.getElem_toArray, List.getElem_cons_zero, List.getElem_cons_succ, List.setIfInBounds_toArray, List.set_cons_zero, List.set_cons_succ]
      refine wpAnyH_take (i := 4) (v := ?v4) rfl (by kernel_rfl) (by kernel_rfl) (by kernel_rfl) (fun _ _ _ h => h) (Or.inl ⟨by rfl, ?hy4⟩) (by assumption) ?rest4
      case hy4 => (intro W hSw; (try dsimp only at hSw); go_simp; first | done | with_reducible rfl)
      simp only [Act.put, List.getElem_toArray, List.getElem_cons_zero, List.getElem_cons_succ, List.setIfInBounds_toArray, List.set_cons_zero, List.set_cons_succ]
      refine wpAnyH_take (i := 6) (v := ?v6) rfl (by kernel_rfl) (by kernel_rfl) (by kernel_rfl) (fun _ _ _ h => h) (Or.inl ⟨by rfl, ?hy6⟩) (by assumption) ?rest6
      case hy6 => (intro W hSw; (try dsimp only at hSw); go_simp; first | done | with_reducible rfl)
      simp only [Act.put, List.getElem_toArray, List.getElem_cons_zero, List.getElem_cons_succ, List.setIfInBounds_toArray, List.set_cons_zero, List.set_cons_succ]
      refine wpAnyH_take (i := 7) (v := ?v7) rfl (by kernel_rfl) (by kernel_rfl) (by kernel_rfl) (fun _ _ _ h => h) (Or.inl ⟨by rfl, ?hy7⟩) (by assumption) ?rest7
      case hy7 => (intro W hSw; (try dsimp only at hSw); go_simp; first | done | with_reducible rfl)
      simp only [Act.put, List.getElem_toArray, List.getElem_cons_zero, List.getElem_cons_succ, List.setIfInBounds_toArray, List.set_cons_zero, List.set_cons_succ]
      refine wpAnyH_take (i := 8) (v := ?v8) rfl (by kernel_rfl) (by kernel_rfl) (by kernel_rfl) (fun _ _ _ h => h) (Or.inl ⟨by rfl, ?hy8⟩) (by assumption) ?rest8
      case hy8 => (intro W hSw; (try dsimp only at hSw); go_simp; first | done | with_reducible rfl)
      simp only [Act.put, List.getElem_toArray, List.getElem_cons_zero, List.getElem_cons_succ, List.setIfInBounds_toArray, List.set_cons_zero, List.set_cons_succ]
      refine wpAnyH_take (i := 9) (v := ?v9) rfl (by kernel_rfl) (by kernel_rfl) (by kernel_rfl) (fun _ _ _ h => h) (Or.inl ⟨by rfl, ?hy9⟩) (by assumption) ?rest9
      case hy9 => (intro W hSw; (try dsimp only at hSw); go_simp; first | done | with_reducible rfl)
      simp only [Act.put, List.getElem_toArray, List.getElem_cons_zero, List.getElem_cons_succ, List.setIfInBounds_toArray, List.set_cons_zero, List.set_cons_succ]
      refine wpAnyH_take (i := 5) (v := ?v5) rfl (by kernel_rfl) (by kernel_rfl) (by kernel_rfl) (fun _ _ _ h => h) (Or.inl ⟨by rfl, ?hy5⟩) (by assumption) ?rest5
      case hy5 => (intro W hSw; (try dsimp only at hSw); go_simp; first | done | with_reducible rfl)
      simp only [Act.put, List.getElem_toArray, List.getElem_cons_zero, List.getElem_cons_succ, List.setIfInBounds_toArray, List.set_cons_zero, List.set_cons_succ]
      refine wpAnyH_take (i := 10) (v := ?v10) rfl (by kernel_rfl) (by kernel_rfl) (by kernel_rfl) (fun _ _ _ h => h) (Or.inl ⟨by rfl, ?hy10⟩) (by assumption) ?rest10
      case hy10 => (intro W hSw; (try dsimp only at hSw); go_simp; first | done | with_reducible rfl)
      simp only [Act.put, List.getElem_toArray, List.getElem_cons_zero, List.getElem_cons_succ, List.setIfInBounds_toArray, List.set_cons_zero, List.set_cons_succ]
      refine wpAnyH_take (i := 0) rfl (by kernel_rfl) (by kernel_rfl) (by kernel_rfl) (fun _ _ _ h => h) (yieldsIf_load_mid (by rfl) 63 _ rfl (w.heap.size) 0 rfl _ _ (fun W hSw => row_range hSw.2.2.1) Tryd.underlying63 rfl ?hi0) (by assumption) ?rest0
      case hi0 => exact HIC.out
      simp only [Act.put, List.getElem_toArray, List.getElem_cons_zero, List.setIfInBounds_toArray, List.set_cons_zero, List.set_cons_succ]
      refine wpAnyH_ready (rs := [11, 16]) (by kernel_rfl) (by simp) ?_
      refine AllReadyH.cons (o := _) rfl (fun K hK => ?_) (AllReadyH.cons (o := _) rfl (fun K hK => ?_) (AllReadyH.nil))
      · simp only [List.getElem_toArray, List.getElem_cons_zero, List.getElem_cons_succ]
        go_simp
        refine (HW.out _).mono ?_
        rintro e w' ⟨rfl, hb'⟩
        refine hK.out _ _ (HMK.out _ (below_cells hHeld.2.2.1 hb') (below_cells hHeld.2.2.2.1 hb') (hHeld.2.2.2.2.trans (hb'.mono hHeld.2.2.2.2.size))) (fun hHeld' => ?_)
        clear hK K hHeld
        refine wpAnyH_take (i := 12) (v := ?v12) rfl (by kernel_rfl) (by kernel_rfl) (by kernel_rfl) (fun _ _ _ h => h) (Or.inl ⟨by rfl, ?hy12⟩) (by assumption) ?rest12
        case hy12 => (intro W hSw; (try dsimp only at hSw); go_simp; first | done | with_reducible rfl)
        simp only [Act.put, List.getElem_toArray, List.getElem_cons_zero, List.getElem_cons_succ, List.setIfInBounds_toArray, List.set_cons_zero, List.set_cons_succ]
        refine wpAnyH_take (i := 13) (v := ?v13) rfl (by kernel_rfl) (by kernel_rfl) (by kernel_rfl) (fun _ _ _ h => h) (Or.inl ⟨by rfl, ?hy13⟩) (by assumption) ?rest13
        case hy13 => (intro W hSw; (try dsimp only at hSw); go_simp; first | done | with_reducible rfl)
        simp only [Act.put, List.getElem_toArray, List.getElem_cons_zero, List.getElem_cons_succ, List.setIfInBounds_toArray, List.set_cons_zero, List.set_cons_succ]
        refine wpAnyH_take (i := 14) (v := ?v14) rfl (by kernel_rfl) (by kernel_rfl) (by kernel_rfl) (fun _ _ _ h => h) (Or.inl ⟨by rfl, ?hy14⟩) (by assumption) ?rest14
        case hy14 => (intro W hSw; (try dsimp only at hSw); go_simp; first | done | with_reducible rfl)
        simp only [Act.put, List.getElem_toArray, List.getElem_cons_zero, List.getElem_cons_succ, List.setIfInBounds_toArray, List.set_cons_zero, List.set_cons_succ]
        refine wpAnyH_take (i := 15) (v := ?v15) rfl (by kernel_rfl) (by kernel_rfl) (by kernel_rfl) (fun _ _ _ h => h) (Or.inl ⟨by rfl, ?hy15⟩) (by assumption) ?rest15
        case hy15 => (intro W hSw; (try dsimp only at hSw); go_simp; first | done | with_reducible rfl)
        simp only [Act.put, List.getElem_toArray, List.getElem_cons_zero, List.getElem_cons_succ, List.setIfInBounds_toArray, List.set_cons_zero, List.set_cons_succ]
        have hlt := (Array.getElem?_eq_some_iff.1 hHeld'.2.2.2.1).1
        refine wpAnyH_ready (rs := [16]) (by kernel_rfl) (by simp) ?_
        refine AllReadyH.cons (o := _) rfl (fun K hK => ?_) (AllReadyH.nil)
        simp only [List.getElem_toArray, List.getElem_cons_zero, List.getElem_cons_succ]
        go_simp
        refine hK.out _ _ (HMK.out _ (heap_alloc_keep hHeld'.2.2.1) (heap_alloc_keep hHeld'.2.2.2.1) (hHeld'.2.2.2.2.alloc hHeld'.2.2.2.2.size _)) (fun hHeld'' => ?_)
        clear hK K hHeld'
        refine wpAnyH_ready (rs := [17]) (by kernel_rfl) (by simp) ?_
        refine AllReadyH.cons (o := _) rfl (fun K hK => ?_) (AllReadyH.nil)
        simp only [List.getElem_toArray, List.getElem_cons_zero, List.getElem_cons_succ]
        rw [if_pos (by rfl)]
        refine wp_store_row 63 _ _ rfl (w'.heap.size) d rfl rfl 63 VS.zero.c (heap_alloc_new _ _) HID.out HZD.out HOD.out ?_
        refine hK.out _ _ (HMK.out _ ((row_keep (by omega)).trans hHeld''.2.2.1) ((row_keep (by omega)).trans hHeld''.2.2.2.1) (below_setRow hHeld''.2.2.2.2 (by omega) _)) (fun hHeldS => ?_)
        clear hK K hHeld''
        simp only [Act.put]
        refine wpAnyH_take (i := 18) (v := ?v18) rfl (by kernel_rfl) (by kernel_rfl) (by kernel_rfl) (fun _ _ _ h => h) (Or.inl ⟨by rfl, ?hy18⟩) (by assumption) ?rest18
        case hy18 => (intro W hSw; (try dsimp only at hSw); go_simp; first | done | with_reducible rfl)
        simp only [Act.put, List.getElem_toArray, List.getElem_cons_zero, List.getElem_cons_succ, List.setIfInBounds_toArray, List.set_cons_zero, List.set_cons_succ]
        refine wpAnyH_take (i := 19) (v := ?v19) rfl (by kernel_rfl) (by kernel_rfl) (by kernel_rfl) (fun _ _ _ h => h) (Or.inl ⟨by rfl, ?hy19⟩) (by assumption) ?rest19
        case hy19 => (intro W hSw; (try dsimp only at hSw); go_simp; first | done | with_reducible rfl)
        simp only [Act.put, List.getElem_toArray, List.getElem_cons_zero, List.getElem_cons_succ, List.setIfInBounds_toArray, List.set_cons_zero, List.set_cons_succ]
        refine wpAnyH_done (by kernel_rfl) ?_ _
        have HA4 := Lib.hid hHeldS.2.2.1
        have HL4 := Lib.hid hHeldS.2.2.2.1
        have HB4 := Lib.hid hHeldS.2.2.2.2
        have HD4 := Lib.hid (show ((w'.alloc (.cells #[Value.int IntKind.u32 0, Value.int IntKind.u32 0, Value.int IntKind.u32 0, Value.int IntKind.u32 0, Value.int IntKind.u32 0, Value.int IntKind.u32 0, Value.int IntKind.u32 0, Value.bool false, Value.int IntKind.i64 0, Value.int IntKind.u32 0, Value.int IntKind.u32 0, Value.int IntKind.u32 0, Value.int IntKind.u16 0, Value.int IntKind.u16 0, Value.bool false, Value.int IntKind.i64 0, Value.int IntKind.u32 0, Value.int IntKind.u32 0, Value.int IntKind.u32 0, Value.int IntKind.u16 0, Value.int IntKind.u16 0] 63)).setRow w'.heap.size d).heap[w'.heap.size]? = some (.cells d 63 (0, 0)) from setRow_heap _ _ _ d _ _ (heap_alloc_new w' (.cells VS.zero.c 63)))
        have hne : w'.heap.size ≠ w.heap.size := by omega
        generalize (w'.alloc (.cells #[Value.int IntKind.u32 0, Value.int IntKind.u32 0, Value.int IntKind.u32 0, Value.int IntKind.u32 0, Value.int IntKind.u32 0, Value.int IntKind.u32 0, Value.int IntKind.u32 0, Value.bool false, Value.int IntKind.i64 0, Value.int IntKind.u32 0, Value.int IntKind.u32 0, Value.int IntKind.u32 0, Value.int IntKind.u16 0, Value.int IntKind.u16 0, Value.bool false, Value.int IntKind.i64 0, Value.int IntKind.u32 0, Value.int IntKind.u32 0, Value.int IntKind.u32 0, Value.int IntKind.u16 0, Value.int IntKind.u16 0] 63)).setRow w'.heap.size d = w4 at HA4 HL4 HB4 HD4 ⊢
        generalize w'.heap.size = b4 at HD4 hne ⊢
        have HIC1 := Lib.hid (show (Tryd.prog.info? 63).map (·.size) = some c.size by rw [hsz1]; kernel_rfl)
        have HCD : Hid (c.size = d.size) := Lib.hid (by rw [hsz, hsz1])
        clear hHeldS
        go_wp2_with (first | (refine load_rowW rfl 63 _ rfl w.heap.size rfl 63 c (0, 0) _ HA4.out Tryd.underlying63 rfl HIC1.out ?_))
        refine (HV.out _).mono ?_
        rintro e w5 ⟨rfl, hb5⟩
        have HA5 := Lib.hid (below_cells HA4.out hb5)
        have HL5 := Lib.hid (below_cells HL4.out hb5)
        have HD5 := Lib.hid (below_cells HD4.out hb5)
        have HB5 := Lib.hid (HB4.out.trans (hb5.mono HB4.out.size))
        clear hb5
        go_wp2_with (first | (refine wpList_load_row rfl 63 _ rfl b4 rfl 63 d (0, 0) _ HD5.out Tryd.underlying63 rfl HID.out ?_) | (refine wpList_store_row rfl 63 _ _ rfl w.heap.size d rfl rfl 63 c HA5.out HID.out HCD.out HOD.out ?_))
        go_roundw
        case rel => exact ⟨k + 1, by omega, rfl, by rw [← HD.out]; exact setRow_heap _ _ _ _ _ _ HA5.out, (row_keep (by omega)).trans HL5.out, below_setRow HB5.out (Nat.le_refl _) _⟩
        case measure => simp [intOf]; omega
      · have hlt : w.heap.size + 1 < wr.heap.size := (Array.getElem?_eq_some_iff.1 hHeld.2.2.2.1).1
        simp only [List.getElem_toArray, List.getElem_cons_zero, List.getElem_cons_succ]
        go_simp
        refine hK.out _ _ (HMK.out _ (heap_alloc_keep hHeld.2.2.1) (heap_alloc_keep hHeld.2.2.2.1) (hHeld.2.2.2.2.alloc hHeld.2.2.2.2.size _)) (fun hHeld'' => ?_)
        clear hK K hHeld
        refine wpAnyH_ready (rs := [11]) (by kernel_rfl) (by simp) ?_
        refine AllReadyH.cons (o := _) rfl (fun K hK => ?_) (AllReadyH.nil)
        simp only [List.getElem_toArray, List.getElem_cons_zero, List.getElem_cons_succ]
        go_simp
        refine (HW.out _).mono ?_
        rintro e w' ⟨rfl, hb'⟩
        refine hK.out _ _ (HMK.out _ (below_cells hHeld''.2.2.1 hb') (below_cells hHeld''.2.2.2.1 hb') (hHeld''.2.2.2.2.trans (hb'.mono hHeld''.2.2.2.2.size))) (fun hHeld' => ?_)
        clear hK K hHeld''
        refine wpAnyH_take (i := 12) (v := ?v12b) rfl (by kernel_rfl) (by kernel_rfl) (by kernel_rfl) (fun _ _ _ h => h) (Or.inl ⟨by rfl, ?hy12b⟩) (by assumption) ?rest12b
        case hy12b => (intro W hSw; (try dsimp only at hSw); go_simp; first | done | with_reducible rfl)
        simp only [Act.put, List.getElem_toArray, List.getElem_cons_zero, List.getElem_cons_succ, List.setIfInBounds_toArray, List.set_cons_zero, List.set_cons_succ]
        refine wpAnyH_take (i := 13) (v := ?v13b) rfl (by kernel_rfl) (by kernel_rfl) (by kernel_rfl) (fun _ _ _ h => h) (Or.inl ⟨by rfl, ?hy13b⟩) (by assumption) ?rest13b
        case hy13b => (intro W hSw; (try dsimp only at hSw); go_simp; first | done | with_reducible rfl)
        simp only [Act.put, List.getElem_toArray, List.getElem_cons_zero, List.getElem_cons_succ, List.setIfInBounds_toArray, List.set_cons_zero, List.set_cons_succ]
        refine wpAnyH_take (i := 14) (v := ?v14b) rfl (by kernel_rfl) (by kernel_rfl) (by kernel_rfl) (fun _ _ _ h => h) (Or.inl ⟨by rfl, ?hy14b⟩) (by assumption) ?rest14b
        case hy14b => (intro W hSw; (try dsimp only at hSw); go_simp; first | done | with_reducible rfl)
        simp only [Act.put, List.getElem_toArray, List.getElem_cons_zero, List.getElem_cons_succ, List.setIfInBounds_toArray, List.set_cons_zero, List.set_cons_succ]
        refine wpAnyH_take (i := 15) (v := ?v15b) rfl (by kernel_rfl) (by kernel_rfl) (by kernel_rfl) (fun _ _ _ h => h) (Or.inl ⟨by rfl, ?hy15b⟩) (by assumption) ?rest15b
        case hy15b => (intro W hSw; (try dsimp only at hSw); go_simp; first | done | with_reducible rfl)
        simp only [Act.put, List.getElem_toArray, List.getElem_cons_zero, List.getElem_cons_succ, List.setIfInBounds_toArray, List.set_cons_zero, List.set_cons_succ]
        refine wpAnyH_ready (rs := [17]) (by kernel_rfl) (by simp) ?_
        refine AllReadyH.cons (o := _) rfl (fun K hK => ?_) (AllReadyH.nil)
        simp only [List.getElem_toArray, List.getElem_cons_zero, List.getElem_cons_succ]
        rw [if_pos (by rfl)]
        refine wp_store_row 63 _ _ rfl (wr.heap.size) d rfl rfl 63 VS.zero.c (below_cells (heap_alloc_new wr.drew _) hb') HID.out HZD.out HOD.out ?_
        refine hK.out _ _ (HMK.out _ ((row_keep (by omega)).trans hHeld'.2.2.1) ((row_keep (by omega)).trans hHeld'.2.2.2.1) (below_setRow hHeld'.2.2.2.2 (by omega) _)) (fun hHeldS => ?_)
        clear hK K hHeld'
        simp only [Act.put]
        refine wpAnyH_take (i := 18) (v := ?v18b) rfl (by kernel_rfl) (by kernel_rfl) (by kernel_rfl) (fun _ _ _ h => h) (Or.inl ⟨by rfl, ?hy18b⟩) (by assumption) ?rest18b
        case hy18b => (intro W hSw; (try dsimp only at hSw); go_simp; first | done | with_reducible rfl)
        simp only [Act.put, List.getElem_toArray, List.getElem_cons_zero, List.getElem_cons_succ, List.setIfInBounds_toArray, List.set_cons_zero, List.set_cons_succ]
        refine wpAnyH_take (i := 19) (v := ?v19b) rfl (by kernel_rfl) (by kernel_rfl) (by kernel_rfl) (fun _ _ _ h => h) (Or.inl ⟨by rfl, ?hy19b⟩) (by assumption) ?rest19b
        case hy19b => (intro W hSw; (try dsimp only at hSw); go_simp; first | done | with_reducible rfl)
        simp only [Act.put, List.getElem_toArray, List.getElem_cons_zero, List.getElem_cons_succ, List.setIfInBounds_toArray, List.set_cons_zero, List.set_cons_succ]
        refine wpAnyH_done (by kernel_rfl) ?_ _
        have HA4 := Lib.hid hHeldS.2.2.1
        have HL4 := Lib.hid hHeldS.2.2.2.1
        have HB4 := Lib.hid hHeldS.2.2.2.2
        have HD4 := Lib.hid (show ((w').setRow wr.heap.size d).heap[wr.heap.size]? = some (.cells d 63 (0, 0)) from setRow_heap _ _ _ d _ _ (below_cells (heap_alloc_new wr.drew _) hb'))
        have hne : wr.heap.size ≠ w.heap.size := by omega
        generalize (w').setRow wr.heap.size d = w4 at HA4 HL4 HB4 HD4 ⊢
        generalize wr.heap.size = b4 at HD4 hne ⊢
        have HIC1 := Lib.hid (show (Tryd.prog.info? 63).map (·.size) = some c.size by rw [hsz1]; kernel_rfl)
        have HCD : Hid (c.size = d.size) := Lib.hid (by rw [hsz, hsz1])
        clear hHeldS
        go_wp2_with (first | (refine load_rowW rfl 63 _ rfl w.heap.size rfl 63 c (0, 0) _ HA4.out Tryd.underlying63 rfl HIC1.out ?_))
        refine (HV.out _).mono ?_
        rintro e w5 ⟨rfl, hb5⟩
        have HA5 := Lib.hid (below_cells HA4.out hb5)
        have HL5 := Lib.hid (below_cells HL4.out hb5)
        have HD5 := Lib.hid (below_cells HD4.out hb5)
        have HB5 := Lib.hid (HB4.out.trans (hb5.mono HB4.out.size))
        clear hb5
        go_wp2_with (first | (refine wpList_load_row rfl 63 _ rfl b4 rfl 63 d (0, 0) _ HD5.out Tryd.underlying63 rfl HID.out ?_) | (refine wpList_store_row rfl 63 _ _ rfl w.heap.size d rfl rfl 63 c HA5.out HID.out HCD.out HOD.out ?_))
        go_roundw
        case rel => exact ⟨k + 1, by omega, rfl, by rw [← HD.out]; exact setRow_heap _ _ _ _ _ _ HA5.out, (row_keep (by omega)).trans HL5.out, below_setRow HB5.out (Nat.le_refl _) _⟩
        case measure => simp [intOf]; omega
end Go.Proofs.YtcbjlpkkebcmjaaDoor
