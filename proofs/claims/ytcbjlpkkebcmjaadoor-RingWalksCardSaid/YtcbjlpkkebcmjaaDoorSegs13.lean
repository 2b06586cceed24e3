/-
pinnacelaw13.segs, walked: the same parts are the same.
No condition.
-/
import Derived.Test.YtcbjlpkkebcmjaaDoorG6
import Derived.Deep.QuietTactic
import Derived.BigQuiet
namespace Go.Proofs.YtcbjlpkkebcmjaaDoor
open Go.RowKit
set_option linter.unusedVariables false

set_option maxRecDepth 100000 in
set_option maxHeartbeats 8000000 in
theorem law_segs (ao bo : Option Addr) (l : List Sg) (ca cb : Nat) (w : World) (ha : SegsAt w ao l (fun _ => False)) (hb : SegsAt w bo l (fun _ => False)) (hlen : l.length ≤ 4096) :
    Calls Tryd.prog 48 #[.slice ao l.length ca, .slice bo l.length cb] w fun e w' => e = .returned (.bool true) ∧ Below w.heap.size w w' := by
  have HA := Lib.hid ha
  have HBB := Lib.hid hb
  have hl1 : (l.length : Int) ≤ 4096 := by omega
  have hl0 : (0 : Int) ≤ (l.length : Int) := by omega
  obtain ⟨L, hL⟩ : ∃ L, L = l.length := ⟨_, rfl⟩
  have HL := Lib.hid hL
  rw [← hL] at hl0 hl1 ⊢
  clear hL ha hb hlen
  go_enter Tryd.func48, Tryd.ntmps48
  go_wp2_with fail
  go_loopw [5] (fun i wr => ∃ c : Nat, c ≤ L ∧ i = .int .i64 c ∧ Below w.heap.size w wr) (fun i _ => L - (intOf i).toNat)
  case atStart => exact ⟨0, by omega, rfl, Below.refl _ _⟩
  case round =>
    obtain ⟨c, hc, rfl, hbw⟩ := hrel
    have HW := Lib.hid hbw
    clear hbw
    have hc0 : (0 : Int) ≤ (c : Int) := by omega
    have hcL : (c : Int) ≤ (L : Int) := by omega
    by_cases hlt : c < L
    · have hlt' : (c : Int) < (L : Int) := by omega
      obtain ⟨s, hs⟩ : ∃ s, l[c]? = some s := ⟨l[c]'(by have := HL.out; omega), List.getElem?_eq_getElem (by have := HL.out; omega)⟩
      obtain ⟨b, o, rfl, hb1, _, hcell⟩ := (HA.out.below HW.out) (fun e => by rw [e] at hs; simp at hs)
      obtain ⟨b', o', rfl, hb2, _, hcell'⟩ := (HBB.out.below HW.out) (fun e => by rw [e] at hs; simp at hs)
      have c0 := (hcell c s 0 hs (by omega)).trans (rfl : _ = some (.int .u32 s.at_ : Value))
      have c1 := (hcell c s 1 hs (by omega)).trans (rfl : _ = some (.int .i64 s.n : Value))
      have c2 := (hcell c s 2 hs (by omega)).trans (rfl : _ = some (.bool s.wr : Value))
      have d0 := (hcell' c s 0 hs (by omega)).trans (rfl : _ = some (.int .u32 s.at_ : Value))
      have d1 := (hcell' c s 1 hs (by omega)).trans (rfl : _ = some (.int .i64 s.n : Value))
      have d2 := (hcell' c s 2 hs (by omega)).trans (rfl : _ = some (.bool s.wr : Value))
      rw [Nat.add_zero] at c0 d0
      clear hcell hcell' hb1 hb2 hs hlt
      go_wp2_with fail
      go_quiet (fail)
      go_wp2_with fail
      go_roundw
      case rel => exact ⟨c + 1, by omega, by go_num, below_drewN HW.out _⟩
      case measure => simp [intOf]; omega
    · obtain rfl : c = L := by omega
      go_wp2_with fail
      go_ret
      exact ⟨rfl, HW.out⟩
end Go.Proofs.YtcbjlpkkebcmjaaDoor
