/-
pinnacelaw06.sure, walked: it answers true.
No condition.
-/
import Derived.Test.YtcakcfeipfjmpaaDoorInts06
import Derived.Test.YtcakcfeipfjmpaaDoorMemLoad
import Derived.Test.YtcakcfeipfjmpaaDoorLawBase
namespace Go.Proofs.YtcakcfeipfjmpaaDoor
open Go.RowKit

def sureM6 : Mm := (Mm.new 2).store 4096 4 7
theorem sureM6_n : sureM6.n = 2 := rfl
theorem sureM6_v : gp sureM6.f 4096 4 = 7 := by decide +kernel
theorem sureM6_d : dirtyL sureM6.d sureM6.n = [1] := by decide +kernel
theorem load_at {g : Nat} {m : Mm} {F : Nat → Prop} {w : World} (h : RamIs w g m F) (a k : Nat) (ai ki : Int) (ea : ai = a) (ek : ki = k) (ha : a < 4294967296) (hk : okN k) (hs : a + k ≤ 4096 * m.n) (hr : a % k = 0) :
    Calls Tryd.prog 24 #[.pointer (some ⟨g, 0, none⟩), .int .u32 ai, .int .i64 ki] w fun e w' => ∃ F', e = .returned (.tuple #[.int .u32 (gp m.f a k : Nat), .nilIface]) ∧ RamIs w' g m F' ∧ MemStep F F' w w' := by
  subst ea ek
  exact mem_Load_ok h a k ha hk hs hr
set_option maxRecDepth 100000 in
set_option maxHeartbeats 4000000 in
theorem sure06_ok (w : World) : Calls Tryd.prog 36 #[] w fun e w' => e = .returned (.bool true) ∧ Below w.heap.size w w' := by
  have HN := Lib.hid (new_at 2 2 rfl w (by omega) (by omega))
  go_enter Tryd.func36, Tryd.ntmps36
  go_wp2_with fail
  refine (HN.out).mono ?_
  rintro e w1 ⟨g, F1, rfl, h1, h2, h3⟩
  have L1 := Lib.hid (LawMem.mk h1 h2 h3)
  clear h1 h2 h3 HN
  have HST := Lib.hid (store_at L1.out.ram 4096 4 7 4096 4 7 rfl rfl rfl (by omega) (.inr (.inr rfl)) (by show 4096 + 4 ≤ 4096 * 2; omega) (by omega))
  have hen := err_nil_eql
  go_wp2_with fail
  refine (HST.out).mono ?_
  rintro e w2 ⟨F2, rfl, h1, h2⟩
  have L2 : Hid (LawMem w w2 g sureM6 F2) := Lib.hid (L1.out.step h1 h2)
  clear h1 h2 HST L1
  have HLD := Lib.hid (load_at L2.out.ram 4096 4 4096 4 rfl rfl (by omega) (.inr (.inr rfl)) (by rw [sureM6_n]; omega) (by omega))
  rw [sureM6_v] at HLD
  go_wp2_with fail
  refine (HLD.out).mono ?_
  rintro e w3 ⟨F3, rfl, h1, h2⟩
  have L3 := Lib.hid (L2.out.step h1 h2)
  clear h1 h2 HLD L2
  have HD := Lib.hid (mem_Dirty_ok L3.out.ram)
  rw [sureM6_d] at HD
  go_wp2_with fail
  refine (HD.out).mono ?_
  rintro e w4 ⟨v, rfl, hown, hb⟩
  obtain ⟨ao, c, rfl, hl, hin⟩ := IntsIn.of_owns hown
  have L4 := Lib.hid (L3.out.below hb)
  have HAL := Lib.hid ((Below.refl w4.heap.size w4).alloc (Nat.le_refl _) (.cells #[.int .i64 1] 3))
  have HIN := Lib.hid (hin.below HAL.out)
  have HNEW : Hid (IntsIn (w4.alloc (.cells #[.int .i64 1] 3)) (some ⟨w4.heap.size, 0, none⟩) [1]) := Lib.hid (fun j x hj => by
    have hk := heap_alloc_new w4 (.cells #[.int .i64 1] 3)
    match j, hj with
    | 0, hj => exact ⟨w4.heap.size, 0, rfl, lt_heap hk, (cell_of_row _ _ 0 _ _ _ hk).trans (by simpa using hj)⟩
    | j + 1, hj => simp at hj)
  have HI := Lib.hid (ints_ok ao (some ⟨w4.heap.size, 0, none⟩) 1 c 1 1 [1] [1] _ HIN.out HNEW.out rfl rfl (by omega) (by omega))
  have L5 := Lib.hid (L4.out.below HAL.out)
  clear hown hb hl hin HAL HD L3 L4
  go_wp2_with fail
  refine (HI.out).mono ?_
  rintro e w5 ⟨rfl, hb⟩
  have HB := Lib.hid (L5.out.fr.trans (hb.mono L5.out.fr.size))
  clear hb HI
  go_wp2_with fail
  go_ret
  exact ⟨rfl, HB.out⟩
end Go.Proofs.YtcakcfeipfjmpaaDoor
