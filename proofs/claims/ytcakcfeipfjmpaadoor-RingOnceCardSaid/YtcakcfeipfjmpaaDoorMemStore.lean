/-
Store of package mem, walked: a number stored, or the error.
No condition.
-/
import Derived.Test.YtcakcfeipfjmpaaDoorMemOwn
namespace Go.Proofs.YtcakcfeipfjmpaaDoor
open Go.RowKit

set_option maxRecDepth 100000 in
theorem counter_add (a : Addr) (x : Int) (w : World) (h : w.cell? a = some (.int .i64 x)) (hz : w.frozen? a = false) :
    Calls Tryd.prog 70 #[.pointer (some a), .int .i64 1] w fun e w' => e = .returned (.int .i64 (wrap64 (x + 1))) ∧ w' = w.setCell a (.int .i64 (wrap64 (x + 1))) := by
  have hadd := run_call_add (P := Tryd.prog) Tryd.func94 (by kernel_rfl) (by kernel_rfl) (by kernel_rfl) .i64 (by kernel_rfl) (y := 1) (s := wrap64 (x + 1)) h hz (by simp [go_sem, wrap64, IntKind.wrap_i64])
  go_enter Tryd.func70, Tryd.ntmps70
  go_wp2
  go_ret
  exact ⟨rfl, rfl⟩
/-- The bytes of a number, the lowest first. -/
def leB (k v : Nat) : List UInt8 := (List.range k).map fun i => UInt8.ofNat (v / 256 ^ i % 256)
/-- Bytes laid at a place. -/
def putL (f : Nat → UInt8) (a : Nat) (l : List UInt8) : Nat → UInt8 := fun j => if a ≤ j then (l[j - a]?).getD (f j) else f j
def Mm.store (m : Mm) (a k v : Nat) : Mm := { m with f := putL m.f a (leB k v), d := updD m.d (a / 4096), wr := wrap64 (m.wr + 1) }
theorem leB_length (k v : Nat) : (leB k v).length = k := by simp [leB]
theorem putL_nil (f : Nat → UInt8) (a : Nat) : putL f a [] = f := by funext j; unfold putL; split <;> simp
theorem putL_snoc (f : Nat → UInt8) (a : Nat) (l : List UInt8) (x : UInt8) : putL f a (l ++ [x]) = updF (putL f a l) (a + l.length) x := by
  funext j
  show (if a ≤ j then ((l ++ [x])[j - a]?).getD (f j) else f j) = if j = a + l.length then x else if a ≤ j then (l[j - a]?).getD (f j) else f j
  by_cases h : a ≤ j
  · rw [if_pos h, if_pos h]
    by_cases e : j = a + l.length
    · rw [if_pos e, e]
      simp
    · rw [if_neg e]
      rcases Nat.lt_or_ge (j - a) l.length with hl | hl
      · rw [List.getElem?_append_left hl]
      · rw [List.getElem?_append_right hl, List.getElem?_eq_none (l := l) hl, List.getElem?_eq_none (by simp; omega)]
  · rw [if_neg h, if_neg h, if_neg (by omega)]
theorem RamAt.bcell {W : World} {g gp gd : Nat} {pg : Nat → Option Nat} {bl : Option Nat} {m : Mm} (h : RamAt W g gp gd pg bl m) {i k j : Nat} (hi : i < m.n) (hk : pg i = some k) (hj : j < 4096) : W.cell? ⟨k, j, none⟩ = some (B8 (m.f (4096 * i + j))) := by
  obtain ⟨c, hc, _, h2⟩ := h.pb i k hi hk
  exact (cell_of_row _ _ j _ _ _ hc).trans (h2 j hj)
theorem RamAt.bfz {W : World} {g gp gd : Nat} {pg : Nat → Option Nat} {bl : Option Nat} {m : Mm} (h : RamAt W g gp gd pg bl m) {i k : Nat} (hi : i < m.n) (hk : pg i = some k) (j : Nat) : W.frozen? ⟨k, j, none⟩ = false := by
  obtain ⟨c, hc, _, h2⟩ := h.pb i k hi hk
  exact frozen_of_row _ _ j _ _ hc
theorem leB_take_succ (k v i : Nat) (h : i < k) : (leB k v).take (i + 1) = (leB k v).take i ++ [UInt8.ofNat (v / 256 ^ i % 256)] := by
  rw [List.take_succ_eq_append_getElem (by rw [leB_length]; exact h)]
  simp [leB]

theorem byte_val (v j : Nat) : Value.int .u8 ((v : Int) / 2 ^ (8 * j) % 256) = B8 (UInt8.ofNat (v / 256 ^ j % 256)) := by
  unfold B8
  congr 1
  have e : (2 : Int) ^ (8 * j) = ((256 ^ j : Nat) : Int) := by rw [Int.natCast_pow, Int.pow_mul]; rfl
  rw [e, UInt8.toNat_ofNat']
  have e2 : v / 256 ^ j % 256 % 2 ^ 8 = v / 256 ^ j % 256 := by omega
  rw [e2, Int.natCast_emod, Int.natCast_ediv]
  rfl
set_option maxRecDepth 100000 in
set_option maxHeartbeats 1600000 in
theorem mem_Store_ok {g : Nat} {m : Mm} {F : Nat → Prop} {w : World} (h : RamIs w g m F) (a k v : Nat) (ha : a < 4294967296) (hk : okN k) (hs : a + k ≤ 4096 * m.n) (hr : a % k = 0) :
    Calls Tryd.prog 21 #[.pointer (some ⟨g, 0, none⟩), .int .u32 a, .int .i64 k, .int .u32 v] w fun e w' => ∃ F', e = .returned .nilIface ∧ RamIs w' g (m.store a k v) F' ∧ MemStep F F' w w' := by
  have HC := Lib.hid (mem_check_ok h a k ha hk hs hr)
  have hpp : a % 4096 + k ≤ 4096 := by
    rcases hk with rfl | rfl | rfl <;> omega
  have hk1 : 1 ≤ k := by rcases hk with rfl | rfl | rfl <;> omega
  have hi : a / 4096 < m.n := by omega
  have HO := Lib.hid (mem_own h (a / 4096) hi)
  have hk8 : k ≤ 4 := by rcases hk with rfl | rfl | rfl <;> omega
  have hm1 : 4096 * (a / 4096) + a % 4096 = a := by omega
  have HM1 := Lib.hid hm1
  have HR := Lib.hid (And.intro hr hk)
  clear h hm1 hr hk hs
  go_enter Tryd.func21, Tryd.ntmps21
  go_wp2_with fail
  refine (HC.out).mono ?_
  rintro e w' ⟨rfl, rfl⟩
  go_wp2_with fail
  refine (HO.out).mono ?_
  rintro e w1 ⟨gp, gd, pg, bl, kb, ckb, F', rfl, hckb, hra, hpg, hf, hl, hst⟩
  have H1 := Lib.hid hra
  have HPG := Lib.hid hpg
  have HF := Lib.hid hf
  have HST := Lib.hid hst
  have HL := Lib.hid hl
  clear hra hpg hf hl hst
  go_wp2_with fail
  go_loopw [25] (fun i wr => ∃ j : Nat, j ≤ k ∧ i = .int .i64 j ∧ RamAt wr g gp gd pg bl { m with d := updD m.d (a / 4096), f := putL m.f a ((leB k v).take j) } ∧ MemStep F F' w wr ∧ w1.heap.size ≤ wr.heap.size) (fun i _ => k - (intOf i).toNat)
  case atStart => exact ⟨0, by omega, rfl, by rw [List.take_zero, putL_nil]; exact H1.out, HST.out, Nat.le_refl _⟩
  case round =>
    obtain ⟨j, hj, rfl, hra, hst, hsz⟩ := hrel
    have HA := Lib.hid hra
    have HS := Lib.hid hst
    have HSZ := Lib.hid hsz
    clear hra hst hsz
    by_cases hlt : j < k
    · have hj0 : (0 : Int) ≤ (j : Int) := by omega
      have hjk : (j : Int) < (k : Int) := by omega
      have hc := HA.out.bcell hi HPG.out (show a % 4096 + j < 4096 by omega)
      have hz := HA.out.bfz hi HPG.out (a % 4096 + j)
      have hfk : F' kb := HF.out _ (.inr (.inr (.inr (.inr ⟨_, hi, HPG.out⟩))))
      have HN := Lib.hid (And.intro (HA.out.poke (j := a % 4096 + j) hi HPG.out (by omega) (UInt8.ofNat (v / 256 ^ j % 256))) (HS.out.trans (F'' := F') ⟨(KX.refl F' wr).setCell (p := ⟨kb, a % 4096 + j, none⟩) (.inl hfk) (B8 (UInt8.ofNat (v / 256 ^ j % 256))), fun _ h => .inl h⟩))
      have HB := Lib.hid (byte_val v j)
      clear hfk
      go_wp2_with fail
      go_roundw
      case rel =>
        rw [HB.out]
        refine ⟨j + 1, by omega, by go_num, ?_, HN.out.2, by simpa [World.setCell] using HSZ.out⟩
        rw [leB_take_succ k v j hlt, putL_snoc]
        have h1 := HN.out.1
        have e : 4096 * (a / 4096) + (a % 4096 + j) = a + ((leB k v).take j).length := by simp [leB_length]; have := HM1.out; omega
        rw [e] at h1
        exact h1
      case measure => simp [intOf]; omega
    · obtain rfl : k = j := by omega
      have c2 := HA.out.c2
      have f2 := HA.out.fz 2
      have HCT := Lib.hid (counter_add ⟨g, 2, none⟩ _ wr c2 f2)
      have hg : F' g := HF.out _ (.inl rfl)
      have HN := Lib.hid (And.intro (HA.out.count (wrap64 (m.wr + 1))) (HS.out.trans (F'' := F') ⟨(KX.refl F' wr).setCell (p := ⟨g, 2, none⟩) (.inl hg) (.int .i64 (wrap64 (m.wr + 1))), fun _ h => .inl h⟩))
      clear hg c2 f2
      go_wp2_with fail
      refine (HCT.out).mono ?_
      rintro e w' ⟨rfl, rfl⟩
      go_wp2_with fail
      go_ret
      refine ⟨F', rfl, ?_, HN.out.2⟩
      have h1 := HN.out.1
      rw [List.take_of_length_le (by rw [leB_length]; exact Nat.le_refl _)] at h1
      exact ⟨gp, gd, pg, bl, h1, HF.out, fun k hk => by simpa [World.setCell] using Nat.lt_of_lt_of_le (HL.out k hk) HSZ.out⟩
end Go.Proofs.YtcakcfeipfjmpaaDoor
