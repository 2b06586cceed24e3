/-
bus.Check, walked, with the search of Go's library that it uses: a queue that may be.
Condition: the package's table of regions reads as its text lays it.
-/
import Derived.Test.YtcmbnkmbaghkdaaDoorPost
namespace Go.Proofs.YtcmbnkmbaghkdaaDoor
open Go.RowKit

/-- The writes that lie in a slice. -/
def PostsAt (w : World) (ao : Option Addr) (l : List Pst) : Prop := ∀ (k : Nat) (p : Pst), l[k]? = some p → ∃ (b o : Nat), ao = some ⟨b, o, none⟩ ∧ b < w.heap.size ∧
  w.cell? ⟨b, o + k * 4, none⟩ = some (.int .i64 p.dev) ∧ w.cell? ⟨b, o + k * 4 + 1, none⟩ = some (.int .u32 p.at_) ∧ w.cell? ⟨b, o + k * 4 + 2, none⟩ = some (.int .i64 p.n) ∧ w.cell? ⟨b, o + k * 4 + 3, none⟩ = some (.int .u32 p.val)
theorem PostsAt.below {w w' : World} {ao : Option Addr} {l : List Pst} (h : PostsAt w ao l) (hb : Below w.heap.size w w') : PostsAt w' ao l := fun k p hk => by
  obtain ⟨b, o, h1, h2, c0, c1, c2, c3⟩ := h k p hk
  exact ⟨b, o, h1, Nat.lt_of_lt_of_le h2 hb.size, (hb.cell (p := ⟨b, o + k * 4, none⟩) h2).trans c0, (hb.cell (p := ⟨b, o + k * 4 + 1, none⟩) h2).trans c1, (hb.cell (p := ⟨b, o + k * 4 + 2, none⟩) h2).trans c2, (hb.cell (p := ⟨b, o + k * 4 + 3, none⟩) h2).trans c3⟩
def queueOk (l : List Pst) : Prop := l.length ≤ 8 ∧ ∀ (k : Nat) (p : Pst), l[k]? = some p → p.may

set_option maxRecDepth 100000 in
theorem bus_odd (p : Pst) (w : World) (hr : RegAt w) :
    Calls Tryd.prog 36 #[.agg #[.int .i64 p.dev, .int .u32 p.at_, .int .i64 p.n, .int .u32 p.val]] w fun e w' => e = .returned (.bool (!decide p.may)) ∧ Below w.heap.size w w' := by
  have hb0 : Below w.heap.size w (w.alloc (.cells #[.int .i64 p.dev, .int .u32 p.at_, .int .i64 p.n, .int .u32 p.val] 37)) := (Below.refl _ _).alloc (Nat.le_refl _) _
  have HM := Lib.hid (post_may p _ (hr.below hb0))
  unfold Pst.v Pst.c at HM
  have HB := Lib.hid hb0
  clear hb0 hr
  generalize decide p.may = q at HM ⊢
  go_enter Tryd.func36, Tryd.ntmps36
  go_wp2_with fail
  refine (HM.out).mono ?_
  rintro e w' ⟨rfl, hb⟩
  go_wp2_with fail
  go_ret
  exact ⟨rfl, HB.out.trans (hb.mono HB.out.size)⟩

set_option maxRecDepth 100000 in
set_option maxHeartbeats 1000000 in
theorem pidx_none (ao : Option Addr) (l : List Pst) (cap : Nat) (w : World) (hp : PostsAt w ao l) (hl : l.length < 4611686018427387904) (hr : RegAt w) (hm : ∀ (k : Nat) (p : Pst), l[k]? = some p → p.may) :
    Calls Tryd.prog 75 #[.slice ao l.length cap, .func (.func 36) #[] #[]] w fun e w' => e = .returned (.int .i64 (-1)) ∧ Below w.heap.size w w' := by
  have HP := Lib.hid hp
  have HR := Lib.hid hr
  have HM := Lib.hid hm
  clear hp hr hm
  obtain ⟨n, hn⟩ : ∃ n, n = l.length := ⟨_, rfl⟩
  rw [← hn]
  rw [← hn] at hl
  have HN := Lib.hid hn
  clear hn
  go_enter Tryd.func75, Tryd.ntmps75
  go_wp2_with fail
  go_loopw [8] (fun i wr => ∃ k : Nat, k ≤ n ∧ i = .int .i64 k ∧ Below w.heap.size w wr) (fun i _ => n - (intOf i).toNat)
  case atStart => exact ⟨0, by omega, rfl, Below.refl _ _⟩
  case round =>
    obtain ⟨k, hk, rfl, hb⟩ := hrel
    have HB := Lib.hid hb
    clear hb
    by_cases hlt : k < n
    · have hk0 : (0 : Int) ≤ ↑k := by omega
      have hk8 : (↑k : Int) < ↑n := by omega
      obtain ⟨p, hpk⟩ : ∃ p, l[k]? = some p := ⟨l[k]'(by have := HN.out; omega), List.getElem?_eq_getElem (by have := HN.out; omega)⟩
      obtain ⟨b, o, rfl, _, c0, c1, c2, c3⟩ := (HP.out.below HB.out) k p hpk
      have HO := Lib.hid (fun W hW => bus_odd p W hW)
      rw [decide_eq_true (HM.out k p hpk)] at HO
      clear hpk
      go_wp2_with fail
      refine (HO.out _ (HR.out.below HB.out)).mono ?_
      rintro e w' ⟨rfl, hb⟩
      go_wp2_with fail
      go_roundw
      case rel => exact ⟨k + 1, by omega, by go_num, HB.out.trans (hb.mono HB.out.size)⟩
      case measure => simp [intOf]; omega
    · have hk8 : ¬ (↑k : Int) < ↑n := by omega
      go_wp2_with fail
      go_ret
      exact ⟨rfl, HB.out⟩

set_option maxRecDepth 100000 in
set_option maxHeartbeats 1000000 in
theorem pidx_some (ao : Option Addr) (l : List Pst) (cap : Nat) (w : World) (hp : PostsAt w ao l) (hl : l.length < 4611686018427387904) (hr : RegAt w) (hm : ∃ (k : Nat) (p : Pst), l[k]? = some p ∧ ¬ p.may) :
    Calls Tryd.prog 75 #[.slice ao l.length cap, .func (.func 36) #[] #[]] w fun e w' => (∃ j : Nat, e = .returned (.int .i64 j)) ∧ Below w.heap.size w w' := by
  have HP := Lib.hid hp
  have HR := Lib.hid hr
  have HM := Lib.hid hm
  clear hp hr hm
  obtain ⟨n, hn⟩ : ∃ n, n = l.length := ⟨_, rfl⟩
  rw [← hn]
  rw [← hn] at hl
  have HN := Lib.hid hn
  clear hn
  go_enter Tryd.func75, Tryd.ntmps75
  go_wp2_with fail
  go_loopw [8] (fun i wr => ∃ k : Nat, k ≤ n ∧ i = .int .i64 k ∧ (∀ (j : Nat) (p : Pst), j < k → l[j]? = some p → p.may) ∧ Below w.heap.size w wr) (fun i _ => n - (intOf i).toNat)
  case atStart => exact ⟨0, by omega, rfl, fun j p hj => absurd hj (by omega), Below.refl _ _⟩
  case round =>
    obtain ⟨k, hk, rfl, hj, hb⟩ := hrel
    have HB := Lib.hid hb
    have HJ := Lib.hid hj
    clear hb hj
    by_cases hlt : k < n
    · have hk0 : (0 : Int) ≤ ↑k := by omega
      have hk8 : (↑k : Int) < ↑n := by omega
      obtain ⟨p, hpk⟩ : ∃ p, l[k]? = some p := ⟨l[k]'(by have := HN.out; omega), List.getElem?_eq_getElem (by have := HN.out; omega)⟩
      obtain ⟨b, o, rfl, _, c0, c1, c2, c3⟩ := (HP.out.below HB.out) k p hpk
      have HO := Lib.hid (fun W hW => bus_odd p W hW)
      have HPK := Lib.hid hpk
      clear hpk
      by_cases hmay : p.may
      · rw [decide_eq_true hmay] at HO
        have HMY := Lib.hid hmay
        clear hmay
        go_wp2_with fail
        refine (HO.out _ (HR.out.below HB.out)).mono ?_
        rintro e w' ⟨rfl, hb⟩
        go_wp2_with fail
        go_roundw
        case rel =>
          refine ⟨k + 1, by omega, by go_num, fun j q hj hq => ?_, HB.out.trans (hb.mono HB.out.size)⟩
          rcases Nat.lt_or_eq_of_le (Nat.lt_succ_iff.1 hj) with h | rfl
          · exact HJ.out j q h hq
          · obtain rfl : p = q := Option.some.inj (HPK.out.symm.trans hq)
            exact HMY.out
        case measure => simp [intOf]; omega
      · rw [decide_eq_false hmay] at HO
        clear hmay
        go_wp2_with fail
        refine (HO.out _ (HR.out.below HB.out)).mono ?_
        rintro e w' ⟨rfl, hb⟩
        go_wp2_with fail
        go_ret
        exact ⟨⟨k, rfl⟩, HB.out.trans (hb.mono HB.out.size)⟩
    · obtain ⟨j, p, hjp, hnp⟩ := HM.out
      have hj : j < l.length := (List.getElem?_eq_some_iff.1 hjp).1
      exact absurd (HJ.out j p (by have := HN.out; omega) hjp) hnp

theorem pcontains (ao : Option Addr) (l : List Pst) (cap : Nat) (w : World) (hp : PostsAt w ao l) (hl : l.length < 4611686018427387904) (hr : RegAt w) (q : Bool) (hq : q = true ↔ ∃ (k : Nat) (p : Pst), l[k]? = some p ∧ ¬ p.may) :
    Calls Tryd.prog 37 #[.slice ao l.length cap, .func (.func 36) #[] #[]] w fun e w' => e = .returned (.bool q) ∧ Below w.heap.size w w' := by
  cases q with
  | true =>
    have HI := Lib.hid (pidx_some ao l cap w hp hl hr (hq.1 rfl))
    clear hp hr hq hl
    generalize l.length = n at HI ⊢
    go_enter Tryd.func37, Tryd.ntmps37
    go_wp2_with fail
    refine (HI.out).mono ?_
    rintro e w' ⟨⟨j, rfl⟩, hb⟩
    have hj : (0 : Int) ≤ (j : Int) := by omega
    go_wp2_with fail
    go_ret
    exact ⟨rfl, hb⟩
  | false =>
    have HI := Lib.hid (pidx_none ao l cap w hp hl hr (fun k p hk => by
      by_cases h : p.may
      · exact h
      · exact absurd (hq.2 ⟨k, p, hk, h⟩) (by simp)))
    clear hp hr hq hl
    generalize l.length = n at HI ⊢
    go_enter Tryd.func37, Tryd.ntmps37
    go_wp2_with fail
    refine (HI.out).mono ?_
    rintro e w' ⟨rfl, hb⟩
    go_wp2_with fail
    go_ret
    exact ⟨rfl, hb⟩

instance (l : List Pst) : Decidable (∀ (k : Nat) (p : Pst), l[k]? = some p → p.may) :=
  decidable_of_iff (∀ p ∈ l, p.may) ⟨fun h _ _ hk => h _ (List.mem_of_getElem? hk), fun h p hp => by
    obtain ⟨k, hk⟩ := List.getElem?_of_mem hp
    exact h k p hk⟩
instance (l : List Pst) : Decidable (queueOk l) := by unfold queueOk; infer_instance

set_option maxRecDepth 100000 in
set_option maxHeartbeats 1000000 in
theorem bus_Check (ao : Option Addr) (l : List Pst) (cap : Nat) (w : World) (hp : PostsAt w ao l) (hl : l.length < 4611686018427387904) (hr : RegAt w) :
    Calls Tryd.prog 15 #[.agg #[.slice ao l.length cap]] w fun e w' => e = .returned (errV (if queueOk l then 0 else 1)) ∧ Below w.heap.size w w' := by
  have hb0 : Below w.heap.size w (w.alloc (.cells #[.slice ao l.length cap] 31)) := (Below.refl _ _).alloc (Nat.le_refl _) _
  by_cases h8 : 8 < l.length
  · rw [if_neg (fun h : queueOk l => by have := h.1; omega)]
    have HB := Lib.hid hb0
    have h8i : (8 : Int) < (l.length : Int) := by omega
    clear hb0 hp hr hl h8
    generalize l.length = n at h8i HB ⊢
    go_enter Tryd.func15, Tryd.ntmps15
    go_wp2_with fail
    go_ret
    exact ⟨rfl, HB.out⟩
  · have h8i : ¬ (8 : Int) < (l.length : Int) := by omega
    by_cases hm : ∀ (k : Nat) (p : Pst), l[k]? = some p → p.may
    · rw [if_pos (show queueOk l from ⟨by omega, hm⟩)]
      have HC := Lib.hid (pcontains ao l cap _ (hp.below hb0) hl (hr.below hb0) false ⟨fun h => by simp at h, fun ⟨k, p, hk, hn⟩ => absurd (hm k p hk) hn⟩)
      have HB := Lib.hid hb0
      clear hb0 hp hr hl h8 hm
      generalize l.length = n at h8i HB HC ⊢
      go_enter Tryd.func15, Tryd.ntmps15
      go_wp2_with fail
      refine (HC.out).mono ?_
      rintro e w' ⟨rfl, hb⟩
      go_wp2_with fail
      go_ret
      exact ⟨rfl, HB.out.trans (hb.mono HB.out.size)⟩
    · rw [if_neg (fun h : queueOk l => hm h.2)]
      have HC := Lib.hid (pcontains ao l cap _ (hp.below hb0) hl (hr.below hb0) true ⟨fun _ => by
        apply Classical.byContradiction
        intro hno
        exact hm fun k p hk => Classical.byContradiction fun hn => hno ⟨k, p, hk, hn⟩, fun _ => rfl⟩)
      have HB := Lib.hid hb0
      clear hb0 hp hr hl h8 hm
      generalize l.length = n at h8i HB HC ⊢
      go_enter Tryd.func15, Tryd.ntmps15
      go_wp2_with fail
      refine (HC.out).mono ?_
      rintro e w' ⟨rfl, hb⟩
      go_wp2_with fail
      go_ret
      exact ⟨rfl, HB.out.trans (hb.mono HB.out.size)⟩
end Go.Proofs.YtcmbnkmbaghkdaaDoor
