/-
pinnaceref07.Check, walked: it answers as the program's does.
No condition.
-/
import Derived.Test.YtcmbnkmbaghkdaaDoorBusPush
import Derived.Test.YtcmbnkmbaghkdaaDoorRef7May
namespace Go.Proofs.YtcmbnkmbaghkdaaDoor
open Go.RowKit

set_option maxRecDepth 100000 in
set_option maxHeartbeats 1000000 in
theorem ref_check (ao : Option Addr) (l : List Pst) (cap : Nat) (w : World) (hp : PostsAt w ao l) (hwf : ∀ (k : Nat) (p : Pst), l[k]? = some p → p.wf) (h8 : l.length ≤ 8) (q : Int) (hq : q = if (∀ (k : Nat) (p : Pst), l[k]? = some p → p.may) then 0 else 1) :
    Calls Tryd.prog 16 #[.agg #[.slice ao l.length cap]] w fun e w' => e = .returned (.int .i64 q) ∧ Below w.heap.size w w' := by
  have HB0 := Lib.hid ((Below.refl w.heap.size w).alloc (Nat.le_refl _) (.cells #[.slice ao l.length cap] 24))
  have HK0 := Lib.hid (heap_alloc_new w (.cells #[.slice ao l.length cap] 24))
  have HP := Lib.hid hp
  have HW := Lib.hid hwf
  have HQ := Lib.hid hq
  have h8i : ¬ (8 : Int) < (l.length : Int) := by omega
  clear hp hwf hq
  obtain ⟨n, hn⟩ : ∃ n, n = l.length := ⟨_, rfl⟩
  have HN := Lib.hid hn
  rw [← hn] at HB0 HK0 h8 h8i ⊢
  clear hn
  go_enter Tryd.func16, Tryd.ntmps16
  go_wp2_with fail
  go_loopw [3] (fun i wr => ∃ k : Nat, k ≤ n ∧ i = .int .i64 k ∧ (∀ (j : Nat) (p : Pst), j < k → l[j]? = some p → p.may) ∧ wr.heap[w.heap.size]? = some (.cells #[.slice ao n cap] 24 (0, 0)) ∧ Below w.heap.size w wr) (fun i _ => n - (intOf i).toNat)
  case atStart => exact ⟨0, by omega, rfl, fun j p hj => absurd hj (by omega), HK0.out, HB0.out⟩
  case round =>
    obtain ⟨k, hk, rfl, hj, hr, hb⟩ := hrel
    have HJ := Lib.hid hj
    have HR := Lib.hid hr
    have HB := Lib.hid hb
    have s0 := (cell_of_row _ _ 0 _ _ _ HR.out).trans (rfl : _ = some (Value.slice ao n cap))
    clear hj hr hb
    by_cases hlt : k < n
    · have hk0 : (0 : Int) ≤ ↑k := by omega
      have hk8 : (↑k : Int) < ↑n := by omega
      obtain ⟨p, hpk⟩ : ∃ p, l[k]? = some p := ⟨l[k]'(by have := HN.out; omega), List.getElem?_eq_getElem (by have := HN.out; omega)⟩
      obtain ⟨b, o, rfl, _, c0, c1, c2, c3⟩ := (HP.out.below HB.out) k p hpk
      have HO := Lib.hid (fun W => ref7_May p (HW.out k p hpk) W)
      have HPK := Lib.hid hpk
      unfold Pst.v Pst.c at HO
      clear hpk
      by_cases hmay : p.may
      · rw [decide_eq_true hmay] at HO
        have HMY := Lib.hid hmay
        clear hmay
        go_wp2_with fail
        refine (HO.out _).mono ?_
        rintro e w' ⟨rfl, hb⟩
        go_wp2_with fail
        go_roundw
        case rel =>
          refine ⟨k + 1, by omega, by go_num, fun j q hj hq => ?_, keepB HR.out hb, HB.out.trans (hb.mono HB.out.size)⟩
          rcases Nat.lt_or_eq_of_le (Nat.lt_succ_iff.1 hj) with h | rfl
          · exact HJ.out j q h hq
          · obtain rfl : p = q := Option.some.inj (HPK.out.symm.trans hq)
            exact HMY.out
        case measure => simp [intOf]; omega
      · rw [decide_eq_false hmay] at HO
        have HE : Hid (q = 1) := Lib.hid (HQ.out.trans (if_neg fun h => hmay (h k p HPK.out)))
        clear hmay
        go_wp2_with fail
        refine (HO.out _).mono ?_
        rintro e w' ⟨rfl, hb⟩
        go_wp2_with fail
        go_ret
        exact ⟨by have h := HE.out; subst h; rfl, HB.out.trans (hb.mono HB.out.size)⟩
    · have HE : Hid (q = 0) := Lib.hid (HQ.out.trans (if_pos fun j p hj => HJ.out j p (by have := (List.getElem?_eq_some_iff.1 hj).1; have := HN.out; omega) hj))
      have hk8 : ¬ (↑k : Int) < ↑n := by omega
      go_wp2_with fail
      go_ret
      exact ⟨by have h := HE.out; subst h; rfl, HB.out⟩

set_option maxRecDepth 100000 in
theorem ref_check_many (ao : Option Addr) (n cap : Nat) (w : World) (h8 : 8 < n) :
    Calls Tryd.prog 16 #[.agg #[.slice ao n cap]] w fun e w' => e = .returned (.int .i64 1) ∧ Below w.heap.size w w' := by
  have h8i : (8 : Int) < (n : Int) := by omega
  go_enter Tryd.func16, Tryd.ntmps16
  go_wp2_with fail
  go_ret
  exact ⟨rfl, (Below.refl _ _).alloc (Nat.le_refl _) _⟩
theorem ref7_Check (ao : Option Addr) (l : List Pst) (cap : Nat) (w : World) (hp : PostsAt w ao l) (hwf : ∀ (k : Nat) (p : Pst), l[k]? = some p → p.wf) :
    Calls Tryd.prog 16 #[.agg #[.slice ao l.length cap]] w fun e w' => e = .returned (.int .i64 ((if queueOk l then 0 else 1 : Nat) : Int)) ∧ Below w.heap.size w w' := by
  by_cases h8 : 8 < l.length
  · rw [if_neg (fun h : queueOk l => by have := h.1; omega)]
    exact ref_check_many ao _ cap w h8
  · refine ref_check ao l cap w hp hwf (by omega) _ ?_
    by_cases hm : ∀ (k : Nat) (p : Pst), l[k]? = some p → p.may
    · rw [if_pos (show queueOk l from ⟨by omega, hm⟩), if_pos hm]; rfl
    · rw [if_neg (fun h : queueOk l => hm h.2), if_neg hm]; rfl
end Go.Proofs.YtcmbnkmbaghkdaaDoor
