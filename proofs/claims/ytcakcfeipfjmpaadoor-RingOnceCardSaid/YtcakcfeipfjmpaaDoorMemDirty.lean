/-
(*mem.Ram).Dirty, Writes, walked; pinnacelaw06.ints.
No condition.
-/
import Derived.Test.YtcakcfeipfjmpaaDoorRowAt
import Derived.Test.YtcakcfeipfjmpaaDoorMemNew
import Derived.Maps.AppendAt
namespace Go.Proofs.YtcakcfeipfjmpaaDoor
open Go.RowKit
set_option linter.unusedVariables false

def dirtyL (d : Nat → Bool) (j : Nat) : List Nat := (List.range j).filter d
theorem dirtyL_succ (d : Nat → Bool) (j : Nat) : dirtyL d (j + 1) = if d j = true then dirtyL d j ++ [j] else dirtyL d j := by
  unfold dirtyL
  rw [List.range_succ, List.filter_append]
  cases h : d j <;> simp [h]
theorem dirtyL_len (d : Nat → Bool) (j : Nat) : (dirtyL d j).length ≤ j := by
  unfold dirtyL
  exact Nat.le_trans (List.length_filter_le _ _) (by simp)
def ivs (l : List Nat) : List Value := l.map (fun i : Nat => Value.int .i64 (i : Int))
theorem ivs_snoc (l : List Nat) (j : Nat) : ivs l ++ [.int .i64 (j : Int)] = ivs (l ++ [j]) := by simp [ivs]
theorem ivs_len (l : List Nat) : (ivs l).length = l.length := by simp [ivs]
set_option maxRecDepth 100000 in
set_option maxHeartbeats 1600000 in
theorem mem_Dirty_ok {g : Nat} {m : Mm} {F : Nat → Prop} {w : World} (h : RamIs w g m F) :
    Calls Tryd.prog 33 #[.pointer (some ⟨g, 0, none⟩)] w fun e w' => ∃ v, e = .returned v ∧ w'.ownsRow w.heap.size 3 1 v (dirtyL m.d m.n).length (ivs (dirtyL m.d m.n)) ∧ Below w.heap.size w w' := by
  obtain ⟨gp, gd, pg, bl, ha, hfoot, hlt⟩ := h
  have c1 := ha.c1
  have HQ : Hid (∀ W, Below w.heap.size w W → ∀ j, j < m.n → W.cell? ⟨gd, j, none⟩ = some (.int .i64 (bit01 (m.d j)))) := Lib.hid (fun W hW j hj => (hW.cell (p := ⟨gd, j, none⟩) (ha.lt (.inr (.inr (.inl rfl))))).trans (ha.qcell hj))
  have hn2 := ha.n2
  obtain ⟨i0, hi0, hz0, hz1, hz2⟩ := info_of info_int
  have HI0 := Lib.hid (And.intro hi0 (And.intro hz0 (And.intro hz1 hz2)))
  clear ha hfoot hlt hi0 hz0 hz1 hz2
  have hn0 : (0 : Int) ≤ (m.n : Int) := by omega
  have hn1 : (m.n : Int) ≤ 16384 := by omega
  generalize hN : m.n = N at *
  clear hN
  generalize m.d = d at *
  go_enter Tryd.func33, Tryd.ntmps33
  go_wp2_with fail
  clear c1
  go_loopw [3, 13] (fun x i wr => ∃ j : Nat, j ≤ N ∧ i = .int .i64 j ∧ wr.ownsRow w.heap.size 3 1 x (dirtyL d j).length (ivs (dirtyL d j)) ∧ Below w.heap.size w wr) (fun _ i _ => N - (intOf i).toNat)
  case atStart => exact ⟨0, by omega, rfl, (World.ownsRow_nil w _ _ _ : w.ownsRow w.heap.size 3 1 _ 0 []), Below.refl _ _⟩
  case round =>
    obtain ⟨j, hj, rfl, hown, hb⟩ := hrel
    have HO := Lib.hid hown
    have HB := Lib.hid hb
    clear hown hb
    by_cases hlt : j < N
    · have hji : (j : Int) < (N : Int) := by omega
      have hj0 : (0 : Int) ≤ (j : Int) := by omega
      have c2 := HQ.out _ HB.out j hlt
      have hlen := dirtyL_len d j
      have HS := Lib.hid (dirtyL_succ d j)
      cases hd : d j
      · rw [hd] at c2 HS
        simp only [bit01, Bool.false_eq_true, if_false] at c2 HS
        clear hd hlen
        go_wp2_with fail
        go_roundw
        case rel => exact ⟨j + 1, by omega, by go_num, by rw [HS.out]; exact HO.out, HB.out⟩
        case measure => simp [intOf]; omega
      · rw [hd] at c2 HS
        simp only [bit01, if_true] at c2 HS
        clear hd
        have HAL := Lib.hid (HO.out.alloc (.cells #[.int .i64 (j : Int)] 3))
        have HBA := Lib.hid (HB.out.alloc HB.out.size (.cells #[.int .i64 (j : Int)] 3))
        have HSZ := Lib.hid HB.out.size
        go_wp2_with (refine wpList_append_own_at (w := wr.alloc (.cells #[.int .i64 (j : Int)] 3)) rfl _ _ 50 rfl w.heap.size 3 i0 _ 1 8 Tryd.underlying50 HI0.out.1 HI0.out.2.1 HI0.out.2.2.1 HI0.out.2.2.2 rfl (by omega) _ _ (ivs (dirtyL d j)) rfl HAL.out ⟨wr.heap.size, 0, none⟩ 1 1 [.int .i64 (j : Int)] rfl rfl ?hc ?h1 (by simp only [maxLen]; omega) (by omega) ?hb ?hK)
        case hc => exact cell_one_new _ _ _
        case h1 => intro u hu; rw [List.mem_singleton.1 hu]; rfl
        case hb => exact HBA.out.size
        intro v' w6 hown hgr _ hvb
        have HB6 := Lib.hid (HBA.out.grown hgr HBA.out.size (fun k hk => (HAL.out.lt k hk).1))
        have HO6 := Lib.hid hown
        clear hown hgr hvb HAL HBA hlen
        go_wp2_with fail
        go_roundw
        case rel => exact ⟨j + 1, by omega, by go_num, by rw [HS.out, List.length_append, List.length_singleton, ← ivs_snoc]; exact HO6.out, HB6.out⟩
        case measure => simp [intOf]; omega
    · obtain rfl : N = j := by omega
      go_wp2_with fail
      go_ret
      exact ⟨_, rfl, HO.out, HB.out⟩
theorem mem_Dirty_nil (w : World) : Calls Tryd.prog 33 #[.pointer none] w fun e w' => e = .returned (.slice none 0 0) ∧ w = w' := by
  go_enter Tryd.func33, Tryd.ntmps33
  go_wp2_with fail
  go_ret
  exact ⟨rfl, rfl⟩
/-- A slice's ints, wherever they lie. -/
def IntsIn (w : World) (ao : Option Addr) (xs : List Int) : Prop := ∀ j x, xs[j]? = some x → ∃ b o, ao = some ⟨b, o, none⟩ ∧ b < w.heap.size ∧ w.cell? ⟨b, o + j, none⟩ = some (.int .i64 x)
theorem IntsIn.below {w W : World} {ao : Option Addr} {xs : List Int} (h : IntsIn w ao xs) (hb : Below w.heap.size w W) : IntsIn W ao xs := fun j x hj => by
  obtain ⟨b, o, e, hl, hc⟩ := h j x hj
  exact ⟨b, o, e, Nat.lt_of_lt_of_le hl hb.size, (hb.cell (p := ⟨b, o + j, none⟩) hl).trans hc⟩
theorem IntsIn.of_owns {w : World} {base n : Nat} {v : Value} {l : List Nat} (h : w.ownsRow base 3 1 v n (ivs l)) : ∃ ao c, v = .slice ao n c ∧ l.length = n ∧ IntsIn w ao (l.map (fun i : Nat => (i : Int))) := by
  have hl : l.length = n := by have := h.1; rw [ivs_len, Nat.mul_one] at this; exact this
  rcases h.2 with ⟨rfl, rfl⟩ | ⟨g, cap, cur, rfl, hg, hh, hc, _⟩
  · obtain rfl := List.eq_nil_of_length_eq_zero hl
    exact ⟨none, 0, rfl, rfl, fun j x hj => by simp at hj⟩
  · refine ⟨some ⟨g, 0, none⟩, cap, rfl, hl, fun j x hj => ⟨g, 0, rfl, lt_heap hh, ?_⟩⟩
    have hj' : j < n := by have := (List.getElem?_eq_some_iff.1 hj).1; rw [List.length_map] at this; omega
    rw [Nat.zero_add, h.cellAt j (by omega)]
    simp only [ivs, List.getElem?_map] at hj ⊢
    cases hq : l[j]? with
    | none => rw [hq] at hj; cases hj
    | some q => rw [hq] at hj; obtain rfl := Option.some.inj hj; rfl
end Go.Proofs.YtcakcfeipfjmpaaDoor
