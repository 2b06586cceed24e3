/-
pinnacelaw06.MemNew, walked: it answers true.
Condition: errors.errorType reads as its text lays it.
-/
import Derived.Test.YtcakcfeipfjmpaaDoorMemNil
import Derived.Test.YtcakcfeipfjmpaaDoorSure06
import Derived.Test.YtcakcfeipfjmpaaDoorNum06
namespace Go.Proofs.YtcakcfeipfjmpaaDoor
open Go.RowKit

theorem dirtyL_none (j : Nat) : dirtyL (fun _ => false) j = [] := by
  unfold dirtyL
  exact List.filter_eq_nil_iff.2 (fun _ _ h => by cases h)

set_option maxRecDepth 100000 in
set_option maxHeartbeats 8000000 in
theorem memnew_few (n : Int) (h : n < 1) (w : World) (he : ErrAt w) : Calls Tryd.prog 7 #[.int .i64 n] w fun e w' => e = .returned (.bool true) ∧ Below w.heap.size w w' := by
  have HE := Lib.hid he
  clear he
  have HNM := Lib.hid (fun W (h : ErrAt W) => num06_errno 1 W h)
  have HSU := Lib.hid sure06_ok
  have hen := err_nil_eql
  have b1 : decide (n < 1) = true := decide_eq_true h
  have HNW := Lib.hid (fun W => mem_New_few n W h)
  clear h
  go_enter Tryd.func7, Tryd.ntmps7
  go_wp2_with fail
  refine (mem_Load_nil w).mono ?_
  rintro e w' ⟨rfl, rfl⟩
  go_wp2_with fail
  refine (mem_Read_nil w).mono ?_
  rintro e w' ⟨rfl, rfl⟩
  go_wp2_with fail
  refine (mem_Page_nil w).mono ?_
  rintro e w' ⟨rfl, rfl⟩
  go_wp2_with fail
  refine (mem_Digest_nil w).mono ?_
  rintro e w' ⟨rfl, rfl⟩
  have HB0 := Lib.hid (Below.refl w.heap.size w)
  go_wp2_with fail
  refine (HNM.out w (HE.out.below HB0.out)).mono ?_
  rintro e w1 ⟨rfl, hb⟩
  have HB1 := Lib.hid (HB0.out.trans (hb.mono HB0.out.size))
  clear hb HB0
  go_wp2_with fail
  refine (HNM.out w1 (HE.out.below HB1.out)).mono ?_
  rintro e w2 ⟨rfl, hb⟩
  have HB2 := Lib.hid (HB1.out.trans (hb.mono HB1.out.size))
  clear hb HB1
  go_wp2_with fail
  refine (HNM.out w2 (HE.out.below HB2.out)).mono ?_
  rintro e w3 ⟨rfl, hb⟩
  have HB3 := Lib.hid (HB2.out.trans (hb.mono HB2.out.size))
  clear hb HB2
  go_wp2_with fail
  refine (HNM.out w3 (HE.out.below HB3.out)).mono ?_
  rintro e w4 ⟨rfl, hb⟩
  have HB4 := Lib.hid (HB3.out.trans (hb.mono HB3.out.size))
  clear hb HB3
  go_wp2_with fail
  refine (mem_Store_nil w4).mono ?_
  rintro e w' ⟨rfl, rfl⟩
  go_wp2_with fail
  refine (HNM.out w4 (HE.out.below HB4.out)).mono ?_
  rintro e w5 ⟨rfl, hb⟩
  have HB5 := Lib.hid (HB4.out.trans (hb.mono HB4.out.size))
  clear hb HB4
  go_wp2_with fail
  refine (mem_Write_nil w5).mono ?_
  rintro e w' ⟨rfl, rfl⟩
  go_wp2_with fail
  refine (HNM.out w5 (HE.out.below HB5.out)).mono ?_
  rintro e w6 ⟨rfl, hb⟩
  have HB6 := Lib.hid (HB5.out.trans (hb.mono HB5.out.size))
  clear hb HB5
  go_wp2_with fail
  refine (mem_SetPage_nil w6).mono ?_
  rintro e w' ⟨rfl, rfl⟩
  go_wp2_with fail
  refine (HNM.out w6 (HE.out.below HB6.out)).mono ?_
  rintro e w7 ⟨rfl, hb⟩
  have HB7 := Lib.hid (HB6.out.trans (hb.mono HB6.out.size))
  clear hb HB6
  go_wp2_with fail
  refine (mem_Pages_nil w7).mono ?_
  rintro e w' ⟨rfl, rfl⟩
  go_wp2_with fail
  refine (mem_Writes_nil w7).mono ?_
  rintro e w' ⟨rfl, rfl⟩
  go_wp2_with fail
  refine (mem_Dirty_nil w7).mono ?_
  rintro e w' ⟨rfl, rfl⟩
  go_wp2_with fail
  refine (mem_Harvest_nil w7).mono ?_
  rintro e w' ⟨rfl, rfl⟩
  go_wp2_with fail
  refine (mem_Clone_nil0 w7).mono ?_
  rintro e w' ⟨rfl, rfl⟩
  go_wp2_with fail
  refine (mem_Same_nil w7).mono ?_
  rintro e w8 ⟨rfl, hb⟩
  have HB8 := Lib.hid (HB7.out.trans (hb.mono HB7.out.size))
  clear hb HB7
  go_wp2_with fail
  refine (HNW.out w8).mono ?_
  rintro e w' ⟨rfl, rfl⟩
  go_wp2_with fail
  refine (HNM.out w8 (HE.out.below HB8.out)).mono ?_
  rintro e w20 ⟨rfl, hb⟩
  have HB20 := Lib.hid (HB8.out.trans (hb.mono HB8.out.size))
  clear hb HB8
  go_wp2_with fail
  refine (HSU.out w20).mono ?_
  rintro e w21 ⟨rfl, hb⟩
  go_wp2_with fail
  go_ret
  exact ⟨rfl, HB20.out.trans (hb.mono HB20.out.size)⟩
set_option maxRecDepth 100000 in
set_option maxHeartbeats 8000000 in
theorem memnew_many (n : Int) (h : 16384 < n) (w : World) (he : ErrAt w) : Calls Tryd.prog 7 #[.int .i64 n] w fun e w' => e = .returned (.bool true) ∧ Below w.heap.size w w' := by
  have HE := Lib.hid he
  clear he
  have HNM := Lib.hid (fun W (h : ErrAt W) => num06_errno 1 W h)
  have HSU := Lib.hid sure06_ok
  have hen := err_nil_eql
  have b1 : decide (n < 1) = false := decide_eq_false (by omega)
  have b2 : decide (16384 < n) = true := decide_eq_true h
  have HNW := Lib.hid (fun W => mem_New_many n W h)
  clear h
  go_enter Tryd.func7, Tryd.ntmps7
  go_wp2_with fail
  refine (mem_Load_nil w).mono ?_
  rintro e w' ⟨rfl, rfl⟩
  go_wp2_with fail
  refine (mem_Read_nil w).mono ?_
  rintro e w' ⟨rfl, rfl⟩
  go_wp2_with fail
  refine (mem_Page_nil w).mono ?_
  rintro e w' ⟨rfl, rfl⟩
  go_wp2_with fail
  refine (mem_Digest_nil w).mono ?_
  rintro e w' ⟨rfl, rfl⟩
  have HB0 := Lib.hid (Below.refl w.heap.size w)
  go_wp2_with fail
  refine (HNM.out w (HE.out.below HB0.out)).mono ?_
  rintro e w1 ⟨rfl, hb⟩
  have HB1 := Lib.hid (HB0.out.trans (hb.mono HB0.out.size))
  clear hb HB0
  go_wp2_with fail
  refine (HNM.out w1 (HE.out.below HB1.out)).mono ?_
  rintro e w2 ⟨rfl, hb⟩
  have HB2 := Lib.hid (HB1.out.trans (hb.mono HB1.out.size))
  clear hb HB1
  go_wp2_with fail
  refine (HNM.out w2 (HE.out.below HB2.out)).mono ?_
  rintro e w3 ⟨rfl, hb⟩
  have HB3 := Lib.hid (HB2.out.trans (hb.mono HB2.out.size))
  clear hb HB2
  go_wp2_with fail
  refine (HNM.out w3 (HE.out.below HB3.out)).mono ?_
  rintro e w4 ⟨rfl, hb⟩
  have HB4 := Lib.hid (HB3.out.trans (hb.mono HB3.out.size))
  clear hb HB3
  go_wp2_with fail
  refine (mem_Store_nil w4).mono ?_
  rintro e w' ⟨rfl, rfl⟩
  go_wp2_with fail
  refine (HNM.out w4 (HE.out.below HB4.out)).mono ?_
  rintro e w5 ⟨rfl, hb⟩
  have HB5 := Lib.hid (HB4.out.trans (hb.mono HB4.out.size))
  clear hb HB4
  go_wp2_with fail
  refine (mem_Write_nil w5).mono ?_
  rintro e w' ⟨rfl, rfl⟩
  go_wp2_with fail
  refine (HNM.out w5 (HE.out.below HB5.out)).mono ?_
  rintro e w6 ⟨rfl, hb⟩
  have HB6 := Lib.hid (HB5.out.trans (hb.mono HB5.out.size))
  clear hb HB5
  go_wp2_with fail
  refine (mem_SetPage_nil w6).mono ?_
  rintro e w' ⟨rfl, rfl⟩
  go_wp2_with fail
  refine (HNM.out w6 (HE.out.below HB6.out)).mono ?_
  rintro e w7 ⟨rfl, hb⟩
  have HB7 := Lib.hid (HB6.out.trans (hb.mono HB6.out.size))
  clear hb HB6
  go_wp2_with fail
  refine (mem_Pages_nil w7).mono ?_
  rintro e w' ⟨rfl, rfl⟩
  go_wp2_with fail
  refine (mem_Writes_nil w7).mono ?_
  rintro e w' ⟨rfl, rfl⟩
  go_wp2_with fail
  refine (mem_Dirty_nil w7).mono ?_
  rintro e w' ⟨rfl, rfl⟩
  go_wp2_with fail
  refine (mem_Harvest_nil w7).mono ?_
  rintro e w' ⟨rfl, rfl⟩
  go_wp2_with fail
  refine (mem_Clone_nil0 w7).mono ?_
  rintro e w' ⟨rfl, rfl⟩
  go_wp2_with fail
  refine (mem_Same_nil w7).mono ?_
  rintro e w8 ⟨rfl, hb⟩
  have HB8 := Lib.hid (HB7.out.trans (hb.mono HB7.out.size))
  clear hb HB7
  go_wp2_with fail
  refine (HNW.out w8).mono ?_
  rintro e w' ⟨rfl, rfl⟩
  go_wp2_with fail
  refine (HNM.out w8 (HE.out.below HB8.out)).mono ?_
  rintro e w20 ⟨rfl, hb⟩
  have HB20 := Lib.hid (HB8.out.trans (hb.mono HB8.out.size))
  clear hb HB8
  go_wp2_with fail
  refine (HSU.out w20).mono ?_
  rintro e w21 ⟨rfl, hb⟩
  go_wp2_with fail
  go_ret
  exact ⟨rfl, HB20.out.trans (hb.mono HB20.out.size)⟩
set_option maxRecDepth 100000 in
set_option maxHeartbeats 8000000 in
theorem memnew_ok (n : Int) (N : Nat) (hN : n = N) (h1 : 1 ≤ N) (h2 : N ≤ 16384) (w : World) (he : ErrAt w) : Calls Tryd.prog 7 #[.int .i64 n] w fun e w' => e = .returned (.bool true) ∧ Below w.heap.size w w' := by
  have HE := Lib.hid he
  clear he
  have HNM := Lib.hid (fun W (h : ErrAt W) => num06_errno 1 W h)
  have HSU := Lib.hid sure06_ok
  have hen := err_nil_eql
  have b1 : decide (n < 1) = false := decide_eq_false (by omega)
  have b2 : decide (16384 < n) = false := decide_eq_false (by omega)
  have HNW := Lib.hid (fun W => new_at N n hN W h1 h2)
  have HN := Lib.hid hN
  clear h1 h2 hN
  go_enter Tryd.func7, Tryd.ntmps7
  go_wp2_with fail
  refine (mem_Load_nil w).mono ?_
  rintro e w' ⟨rfl, rfl⟩
  go_wp2_with fail
  refine (mem_Read_nil w).mono ?_
  rintro e w' ⟨rfl, rfl⟩
  go_wp2_with fail
  refine (mem_Page_nil w).mono ?_
  rintro e w' ⟨rfl, rfl⟩
  go_wp2_with fail
  refine (mem_Digest_nil w).mono ?_
  rintro e w' ⟨rfl, rfl⟩
  have HB0 := Lib.hid (Below.refl w.heap.size w)
  go_wp2_with fail
  refine (HNM.out w (HE.out.below HB0.out)).mono ?_
  rintro e w1 ⟨rfl, hb⟩
  have HB1 := Lib.hid (HB0.out.trans (hb.mono HB0.out.size))
  clear hb HB0
  go_wp2_with fail
  refine (HNM.out w1 (HE.out.below HB1.out)).mono ?_
  rintro e w2 ⟨rfl, hb⟩
  have HB2 := Lib.hid (HB1.out.trans (hb.mono HB1.out.size))
  clear hb HB1
  go_wp2_with fail
  refine (HNM.out w2 (HE.out.below HB2.out)).mono ?_
  rintro e w3 ⟨rfl, hb⟩
  have HB3 := Lib.hid (HB2.out.trans (hb.mono HB2.out.size))
  clear hb HB2
  go_wp2_with fail
  refine (HNM.out w3 (HE.out.below HB3.out)).mono ?_
  rintro e w4 ⟨rfl, hb⟩
  have HB4 := Lib.hid (HB3.out.trans (hb.mono HB3.out.size))
  clear hb HB3
  go_wp2_with fail
  refine (mem_Store_nil w4).mono ?_
  rintro e w' ⟨rfl, rfl⟩
  go_wp2_with fail
  refine (HNM.out w4 (HE.out.below HB4.out)).mono ?_
  rintro e w5 ⟨rfl, hb⟩
  have HB5 := Lib.hid (HB4.out.trans (hb.mono HB4.out.size))
  clear hb HB4
  go_wp2_with fail
  refine (mem_Write_nil w5).mono ?_
  rintro e w' ⟨rfl, rfl⟩
  go_wp2_with fail
  refine (HNM.out w5 (HE.out.below HB5.out)).mono ?_
  rintro e w6 ⟨rfl, hb⟩
  have HB6 := Lib.hid (HB5.out.trans (hb.mono HB5.out.size))
  clear hb HB5
  go_wp2_with fail
  refine (mem_SetPage_nil w6).mono ?_
  rintro e w' ⟨rfl, rfl⟩
  go_wp2_with fail
  refine (HNM.out w6 (HE.out.below HB6.out)).mono ?_
  rintro e w7 ⟨rfl, hb⟩
  have HB7 := Lib.hid (HB6.out.trans (hb.mono HB6.out.size))
  clear hb HB6
  go_wp2_with fail
  refine (mem_Pages_nil w7).mono ?_
  rintro e w' ⟨rfl, rfl⟩
  go_wp2_with fail
  refine (mem_Writes_nil w7).mono ?_
  rintro e w' ⟨rfl, rfl⟩
  go_wp2_with fail
  refine (mem_Dirty_nil w7).mono ?_
  rintro e w' ⟨rfl, rfl⟩
  go_wp2_with fail
  refine (mem_Harvest_nil w7).mono ?_
  rintro e w' ⟨rfl, rfl⟩
  go_wp2_with fail
  refine (mem_Clone_nil0 w7).mono ?_
  rintro e w' ⟨rfl, rfl⟩
  go_wp2_with fail
  refine (mem_Same_nil w7).mono ?_
  rintro e w8 ⟨rfl, hb⟩
  have HB8 := Lib.hid (HB7.out.trans (hb.mono HB7.out.size))
  clear hb HB7
  go_wp2_with fail
  refine (HNW.out w8).mono ?_
  rintro e w20 ⟨g, F1, rfl, h1, h2, h3⟩
  have L := Lib.hid (LawMem.mk (w0 := w) h1 (fun k hk => Nat.le_trans HB8.out.size (h2 k hk)) (HB8.out.trans (h3.mono HB8.out.size)))
  clear h1 h2 h3 HB8
  go_wp2_with fail
  refine (mem_Pages L.out.ram).mono ?_
  rintro e w' ⟨rfl, rfl⟩
  have b3 : (((Mm.new N).n : Int) == n) = true := by rw [HN.out]; exact beq_self_eq_true _
  have HD := Lib.hid (mem_Dirty_ok L.out.ram)
  rw [show (Mm.new N).d = (fun _ => false) from rfl, dirtyL_none] at HD
  go_wp2_with fail
  refine (HD.out).mono ?_
  rintro e w21 ⟨v, rfl, hown, hb⟩
  obtain ⟨ao, c, rfl, hl, hin⟩ := IntsIn.of_owns hown
  have L2 := Lib.hid (L.out.below hb)
  clear hown hl hin hb L HD
  go_wp2_with fail
  refine (mem_Writes_ok L2.out.ram ⟨by show (-9223372036854775808 : Int) ≤ 0; omega, by show (0 : Int) ≤ 9223372036854775807; omega⟩).mono ?_
  rintro e w' ⟨rfl, rfl⟩
  go_wp2_with fail
  refine (HSU.out w21).mono ?_
  rintro e w22 ⟨rfl, hb⟩
  go_wp2_with fail
  go_ret
  exact ⟨rfl, L2.out.fr.trans (hb.mono L2.out.fr.size)⟩
theorem law_MemNew (n : Int) (w : World) (he : ErrAt w) : Calls Tryd.prog 7 #[.int .i64 n] w fun e w' => e = .returned (.bool true) ∧ Below w.heap.size w w' := by
  by_cases h1 : n < 1
  · exact memnew_few n h1 w he
  · by_cases h2 : 16384 < n
    · exact memnew_many n h2 w he
    · exact memnew_ok n n.toNat (by omega) (by omega) (by omega) w he
end Go.Proofs.YtcakcfeipfjmpaaDoor
