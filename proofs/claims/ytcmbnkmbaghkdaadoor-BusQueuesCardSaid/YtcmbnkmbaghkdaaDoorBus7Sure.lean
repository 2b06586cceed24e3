/-
pinnacelaw07.sure, walked: it answers true.
Conditions: the table of regions of package bus and the errors' variable read as their texts lay them.
-/
import Derived.Test.YtcmbnkmbaghkdaaDoorBusFind
import Derived.Test.YtcmbnkmbaghkdaaDoorNum07
namespace Go.Proofs.YtcmbnkmbaghkdaaDoor
open Go.RowKit

theorem find_sure1 : findN 4096 268435461 1 = (3, 5, 0) := by decide +kernel
theorem find_sure2 : findN 4096 268435460 4 = (0, 0, 21) := by decide +kernel
set_option maxRecDepth 100000 in
set_option maxHeartbeats 1000000 in
theorem law7_sure (w : World) (hr : RegAt w) (he : ErrAt w) : Calls Tryd.prog 7 #[] w fun e w' => e = .returned (.bool true) ∧ Below w.heap.size w w' := by
  have H1 := Lib.hid (fun W h => bus_Find 4096 268435461 1 W (by omega) (by omega) h)
  have H2 := Lib.hid (fun W h => bus_Find 4096 268435460 4 W (by omega) (by omega) h)
  rw [find_sure1] at H1
  rw [find_sure2] at H2
  have HN := Lib.hid (fun W h => num07_errno 21 W h)
  have HR := Lib.hid hr
  have HE := Lib.hid he
  clear hr he
  go_enter Tryd.func7, Tryd.ntmps7
  go_wp2_with fail
  refine (H1.out _ HR.out).mono ?_
  rintro e w' ⟨rfl, hb⟩
  simp only [findV, errV]
  go_wp2_with fail
  refine (H2.out _ (HR.out.below hb)).mono ?_
  rintro e w'' ⟨rfl, hb2⟩
  simp only [findV, errV]
  have hb3 := hb.trans (hb2.mono hb.size)
  go_wp2_with fail
  refine (HN.out _ (HE.out.below hb3)).mono ?_
  rintro e w3 ⟨rfl, hb4⟩
  have hb5 := hb3.trans (hb4.mono hb3.size)
  go_wp2_with fail
  go_ret
  exact ⟨rfl, hb5⟩

end Go.Proofs.YtcmbnkmbaghkdaaDoor
