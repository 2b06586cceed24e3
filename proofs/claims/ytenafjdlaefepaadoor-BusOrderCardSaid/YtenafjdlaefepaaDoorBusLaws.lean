/-
pinnacelaw07's sure, BusBases, BusFinds, walked: they answer true.
Condition: the package's table of regions and the variable errors.errorType read as their texts lay them.
-/
import Derived.Test.YtenafjdlaefepaaDoorRef7
import Derived.Test.YtenafjdlaefepaaDoorNum07
namespace Go.Proofs.YtenafjdlaefepaaDoor
open Go.RowKit

theorem find_sure1 : findN 4096 268435461 1 = (3, 5, 0) := by decide +kernel
theorem find_sure2 : findN 4096 268435460 4 = (0, 0, 21) := by decide +kernel
set_option maxRecDepth 100000 in
set_option maxHeartbeats 1000000 in
theorem law7_sure (w : World) (hr : RegAt w) (he : ErrAt w) : Calls Tryd.prog 23 #[] w fun e w' => e = .returned (.bool true) ∧ Below w.heap.size w w' := by
  have H1 := Lib.hid (fun W h => bus_Find 4096 268435461 1 W (by omega) (by omega) h)
  have H2 := Lib.hid (fun W h => bus_Find 4096 268435460 4 W (by omega) (by omega) h)
  rw [find_sure1] at H1
  rw [find_sure2] at H2
  have HN := Lib.hid (fun W h => num07_errno 21 W h)
  have HR := Lib.hid hr
  have HE := Lib.hid he
  clear hr he
  go_enter Tryd.func23, Tryd.ntmps23
  go_wp2_with fail
  refine (H1.out _ HR.out).mono ?_
  rintro e w' ⟨rfl, hb⟩
  simp only [findV, errV]
  go_wp2_with fail
  refine (H2.out _ (HR.out.below hb)).mono ?_
  rintro e w'' ⟨rfl, hb2⟩
  simp only [findV, errV]
  have hb3 := hb.trans (hb2.mono hb.size)
  go_wp2_with fail
  refine (HN.out _ (HE.out.below hb3)).mono ?_
  rintro e w3 ⟨rfl, hb4⟩
  have hb5 := hb3.trans (hb4.mono hb3.size)
  go_wp2_with fail
  go_ret
  exact ⟨rfl, hb5⟩

set_option maxRecDepth 100000 in
set_option maxHeartbeats 1000000 in
theorem law_BusBases (dev : Int) (size : Nat) (hs : size < 4294967296) (w : World) (hr : RegAt w) (he : ErrAt w) :
    Calls Tryd.prog 7 #[.int .i64 dev, .int .u32 size] w fun e w' => e = .returned (.bool true) ∧ Below w.heap.size w w' := by
  have H1 := Lib.hid (bus_Base dev size w hs hr)
  have H2 := Lib.hid (fun W => ref7_Base dev size W)
  have H3 := Lib.hid (fun W h1 h2 => law7_sure W h1 h2)
  have HR := Lib.hid hr
  have HE := Lib.hid he
  clear hr he
  obtain ⟨a, ha⟩ : ∃ a, a = fromD dev.toNat := ⟨_, rfl⟩
  obtain ⟨b, hb⟩ : ∃ b, b = roomD size dev.toNat := ⟨_, rfl⟩
  rw [← ha, ← hb] at H1 H2
  clear ha hb
  go_enter Tryd.func7, Tryd.ntmps7
  go_wp2_with fail
  refine H1.out.mono ?_
  rintro e w' ⟨rfl, hb⟩
  go_wp2_with fail
  refine (H2.out _).mono ?_
  rintro e w'' ⟨rfl, rfl⟩
  go_wp2_with fail
  refine (H3.out _ (HR.out.below hb) (HE.out.below hb)).mono ?_
  rintro e w3 ⟨rfl, hb2⟩
  go_wp2_with fail
  go_ret
  exact ⟨rfl, hb.trans (hb2.mono hb.size)⟩

set_option maxRecDepth 100000 in
set_option maxHeartbeats 1000000 in
theorem law_BusFinds (size at_ : Nat) (n : Int) (hs : size < 4294967296) (ha : at_ < 4294967296) (w : World) (hr : RegAt w) (he : ErrAt w) :
    Calls Tryd.prog 6 #[.int .u32 size, .int .u32 at_, .int .i64 n] w fun e w' => e = .returned (.bool true) ∧ Below w.heap.size w w' := by
  have H1 := Lib.hid (bus_Find size at_ n w hs ha hr)
  have H2 := Lib.hid (fun W => ref7_Find size at_ n W hs ha)
  have H3 := Lib.hid (fun W h1 h2 => law7_sure W h1 h2)
  have HR := Lib.hid hr
  have HE := Lib.hid he
  clear hr he
  obtain ⟨q, hq⟩ : ∃ q, q = findN size at_ n := ⟨_, rfl⟩
  rw [← hq] at H1 H2
  clear hq
  obtain ⟨d, x, f⟩ := q
  have HN := Lib.hid (fun W h => num07_of f W h)
  simp only [findV, findVR] at H1 H2
  obtain ⟨ev, hev⟩ : ∃ ev, ev = errV f := ⟨_, rfl⟩
  rw [← hev] at H1 HN
  clear hev
  go_enter Tryd.func6, Tryd.ntmps6
  go_wp2_with fail
  refine H1.out.mono ?_
  rintro e w' ⟨rfl, hb⟩
  go_wp2_with fail
  refine (H2.out _).mono ?_
  rintro e w'' ⟨rfl, rfl⟩
  go_wp2_with fail
  refine (HN.out _ (HE.out.below hb)).mono ?_
  rintro e w3 ⟨rfl, hb4⟩
  have hb5 := hb.trans (hb4.mono hb.size)
  go_wp2_with fail
  refine (H3.out _ (HR.out.below hb5) (HE.out.below hb5)).mono ?_
  rintro e w4 ⟨rfl, hb2⟩
  go_wp2_with fail
  go_ret
  exact ⟨rfl, hb5.trans (hb2.mono hb5.size)⟩
end Go.Proofs.YtenafjdlaefepaaDoor
