/-
pinnacelaw06.ints, walked.
No condition.
-/
import Derived.Test.YtcakcfeipfjmpaaDoorMemDirty
import Derived.Deep.RegionHeld
namespace Go.Proofs.YtcakcfeipfjmpaaDoor
open Go.RowKit

set_option maxRecDepth 100000 in
set_option maxHeartbeats 4000000 in
theorem ints_ok (ao bo : Option Addr) (la ca lb cb : Nat) (xs ys : List Int) (w : World) (h : IntsIn w ao xs) (k : IntsIn w bo ys) (hla : la = xs.length) (hlb : lb = ys.length) (hl : la ≤ 67108864) (hl2 : lb ≤ 67108864) :
    Calls Tryd.prog 78 #[.slice ao la ca, .slice bo lb cb] w fun e w' => e = .returned (.bool (decide (xs = ys))) ∧ Below w.heap.size w w' := by
  have HX := Lib.hid h
  have HY := Lib.hid k
  have HLA := Lib.hid hla
  have HLB := Lib.hid hlb
  have hn0 : (0 : Int) ≤ (la : Int) := by omega
  have hn1 : (la : Int) ≤ 67108864 := by omega
  clear h k
  by_cases hne : la = lb
  · subst hne
    clear hla hlb hl2
    go_enter Tryd.func78, Tryd.ntmps78
    go_wp2_with fail
    go_loopw [5] (fun i wr => ∃ j : Nat, j ≤ la ∧ i = .int .i64 j ∧ (∀ i, i < j → xs[i]? = ys[i]?) ∧ Below w.heap.size w wr) (fun i _ => la - (intOf i).toNat)
    case atStart => exact ⟨0, by omega, rfl, fun i hi => absurd hi (by omega), Below.refl _ _⟩
    case round =>
      obtain ⟨j, hj, rfl, heq, hb⟩ := hrel
      have HEQ := Lib.hid heq
      have HB := Lib.hid hb
      clear heq hb
      by_cases hlt : j < la
      · have hji : (j : Int) < (la : Int) := by omega
        have hj0 : (0 : Int) ≤ (j : Int) := by omega
        obtain ⟨x, hx⟩ : ∃ x, xs[j]? = some x := ⟨_, List.getElem?_eq_getElem (by have := HLA.out; omega)⟩
        obtain ⟨y, hy⟩ : ∃ y, ys[j]? = some y := ⟨_, List.getElem?_eq_getElem (by have := HLB.out; omega)⟩
        obtain ⟨ba, oa, rfl, hla2, hca⟩ := HX.out j x hx
        obtain ⟨bb, ob, rfl, hlb2, hcb⟩ := HY.out j y hy
        have HCA := Lib.hid (fun W (hW : Below w.heap.size w W) => (hW.cell (p := ⟨ba, oa + j, none⟩) hla2).trans hca)
        have HCB := Lib.hid (fun W (hW : Below w.heap.size w W) => (hW.cell (p := ⟨bb, ob + j, none⟩) hlb2).trans hcb)
        have HXY := Lib.hid (And.intro hx hy)
        clear hla2 hca hlb2 hcb hx hy
        go_upto_region 6 with fail
        refine wp_region_held_drew (S := fun W => Below w.heap.size w W) (by kernel_rfl) (HB.out.drew) (fun hH0 => ?_)
        refine wpAnyH_take (i := 0) (v := ?v0) rfl (by kernel_rfl) (by kernel_rfl) (by kernel_rfl) (fun _ _ _ h => h) (Or.inl ⟨by rfl, ?hy0⟩) (by assumption) ?rest0
        case hy0 => (intro W hSw; go_simp; first | done | with_reducible rfl)
        simp only [Act.put, List.getElem_toArray, List.getElem_cons_zero, List.setIfInBounds_toArray, List.set_cons_zero, List.set_cons_succ]
        refine wpAnyH_take (i := 1) (v := ?v1) rfl (by kernel_rfl) (by kernel_rfl) (by kernel_rfl) (fun _ _ _ h => h) (Or.inl ⟨by rfl, ?hy1⟩) (by assumption) ?rest1
        case hy1 => (intro W hSw; go_simp; first | done | with_reducible rfl)
        simp only [Act.put, List.getElem_toArray, List.getElem_cons_zero, List.getElem_cons_succ, List.setIfInBounds_toArray, List.set_cons_zero, List.set_cons_succ]
        refine wpAnyH_take (i := 2) (v := ?v2) rfl (by kernel_rfl) (by kernel_rfl) (by kernel_rfl) (fun _ _ _ h => h) (Or.inl ⟨by rfl, ?hy2⟩) (by assumption) ?rest2
        case hy2 => (intro W hSw; go_simp; first | done | with_reducible rfl)
        simp only [Act.put, List.getElem_toArray, List.getElem_cons_zero, List.getElem_cons_succ, List.setIfInBounds_toArray, List.set_cons_zero, List.set_cons_succ]
        refine wpAnyH_take (i := 3) (v := ?v3) rfl (by kernel_rfl) (by kernel_rfl) (by kernel_rfl) (fun _ _ _ h => h) (Or.inl ⟨by rfl, ?hy3⟩) (by assumption) ?rest3
        case hy3 => (intro W hSw; have cj := HCA.out W hSw; go_simp; first | done | with_reducible rfl)
        simp only [Act.put, List.getElem_toArray, List.getElem_cons_zero, List.getElem_cons_succ, List.setIfInBounds_toArray, List.set_cons_zero, List.set_cons_succ]
        refine wpAnyH_take (i := 4) (v := ?v4) rfl (by kernel_rfl) (by kernel_rfl) (by kernel_rfl) (fun _ _ _ h => h) (Or.inl ⟨by rfl, ?hy4⟩) (by assumption) ?rest4
        case hy4 => (intro W hSw; go_simp; first | done | with_reducible rfl)
        simp only [Act.put, List.getElem_toArray, List.getElem_cons_zero, List.getElem_cons_succ, List.setIfInBounds_toArray, List.set_cons_zero, List.set_cons_succ]
        refine wpAnyH_take (i := 5) (v := ?v5) rfl (by kernel_rfl) (by kernel_rfl) (by kernel_rfl) (fun _ _ _ h => h) (Or.inl ⟨by rfl, ?hy5⟩) (by assumption) ?rest5
        case hy5 => (intro W hSw; go_simp; first | done | with_reducible rfl)
        simp only [Act.put, List.getElem_toArray, List.getElem_cons_zero, List.getElem_cons_succ, List.setIfInBounds_toArray, List.set_cons_zero, List.set_cons_succ]
        refine wpAnyH_take (i := 6) (v := ?v6) rfl (by kernel_rfl) (by kernel_rfl) (by kernel_rfl) (fun _ _ _ h => h) (Or.inl ⟨by rfl, ?hy6⟩) (by assumption) ?rest6
        case hy6 => (intro W hSw; go_simp; first | done | with_reducible rfl)
        simp only [Act.put, List.getElem_toArray, List.getElem_cons_zero, List.getElem_cons_succ, List.setIfInBounds_toArray, List.set_cons_zero, List.set_cons_succ]
        refine wpAnyH_take (i := 7) (v := ?v7) rfl (by kernel_rfl) (by kernel_rfl) (by kernel_rfl) (fun _ _ _ h => h) (Or.inl ⟨by rfl, ?hy7⟩) (by assumption) ?rest7
        case hy7 => (intro W hSw; have cj := HCB.out W hSw; go_simp; first | done | with_reducible rfl)
        simp only [Act.put, List.getElem_toArray, List.getElem_cons_zero, List.getElem_cons_succ, List.setIfInBounds_toArray, List.set_cons_zero, List.set_cons_succ]
        refine wpAnyH_take (i := 8) (v := ?v8) rfl (by kernel_rfl) (by kernel_rfl) (by kernel_rfl) (fun _ _ _ h => h) (Or.inl ⟨by rfl, ?hy8⟩) (by assumption) ?rest8
        case hy8 => (intro W hSw; go_simp; first | done | with_reducible rfl)
        simp only [Act.put, List.getElem_toArray, List.getElem_cons_zero, List.getElem_cons_succ, List.setIfInBounds_toArray, List.set_cons_zero, List.set_cons_succ]
        refine wpAnyH_done (by kernel_rfl) ?_ _
        by_cases hxy : x = y
        · have b1 : (x != y) = false := by simp [hxy]
          have HN : Hid (∀ i, i < j + 1 → xs[i]? = ys[i]?) := Lib.hid (fun i hi => by
            by_cases e : i = j
            · rw [e, HXY.out.1, HXY.out.2, hxy]
            · exact HEQ.out i (by omega))
          clear hxy
          go_wp2_with fail
          go_roundw
          case rel => exact ⟨j + 1, by omega, by go_num, HN.out, HB.out.drew⟩
          case measure => simp [intOf]; omega
        · have b1 : (x != y) = true := by simp [hxy]
          have HNE : Hid (xs ≠ ys) := Lib.hid (fun e => hxy (by
            have h1 := HXY.out.1
            rw [e, HXY.out.2] at h1
            exact (Option.some.inj h1).symm))
          clear hxy
          go_wp2_with fail
          go_ret
          exact ⟨by rw [decide_eq_false HNE.out]; rfl, HB.out.drew⟩
      · obtain rfl : la = j := by omega
        have HE : Hid (xs = ys) := Lib.hid (List.ext_getElem? (fun i => by
          by_cases hi : i < la
          · exact HEQ.out i hi
          · rw [List.getElem?_eq_none (by have := HLA.out; omega), List.getElem?_eq_none (by have := HLB.out; omega)]))
        go_wp2_with fail
        go_ret
        exact ⟨by rw [decide_eq_true HE.out]; rfl, HB.out⟩
  · have HNE : Hid (xs ≠ ys) := Lib.hid (fun e => hne (by rw [hla, hlb, e]))
    have b1 : ((la : Int) != (lb : Int)) = true := by simp; omega
    clear hne hla hlb
    go_enter Tryd.func78, Tryd.ntmps78
    go_wp2_with fail
    go_ret
    exact ⟨by rw [decide_eq_false HNE.out]; rfl, Below.refl _ _⟩
end Go.Proofs.YtcakcfeipfjmpaaDoor
