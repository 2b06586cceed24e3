/-
sure of package pinnacelaw16, walked: it answers true.
Condition: the table of regions of package bus reads as its text lays it.
-/
import Derived.Test.YtcmbnkmbaghkdaaDoorLive16
import Derived.Test.YtcmbnkmbaghkdaaDoorBoth16
import Derived.Test.YtcmbnkmbaghkdaaDoorG5
namespace Go.Proofs.YtcmbnkmbaghkdaaDoor
open Go.RowKit
set_option linter.unusedVariables false

def sureL16 : List (Nat × Nat) := [(0, 2147484416), (8, 13), (256, 65536), (780, 7)]
def sureM16 : Mm := layL (sureL16.take 80)
theorem sureM16_send : (nsend (liveS true) sureM16).2.2 = [[7]] := by decide +kernel
theorem sureM16_irq : (nsend (liveS true) sureM16).1.p.irq = 1 := by decide +kernel
theorem liveS_wf (one : Bool) : (liveS one).p.wf := by
  cases one
  · exact ⟨by decide, by decide, by decide, by decide, by decide, by decide, by decide, ⟨by decide, by decide, by decide, by decide, by decide, by decide, by decide⟩, ⟨by decide, by decide, by decide, by decide, by decide, by decide, by decide⟩⟩
  · exact ⟨by decide, by decide, by decide, by decide, by decide, by decide, by decide, ⟨by decide, by decide, by decide, by decide, by decide, by decide, by decide⟩, ⟨by decide, by decide, by decide, by decide, by decide, by decide, by decide⟩⟩
set_option maxRecDepth 100000 in
set_option maxHeartbeats 8000000 in
theorem sure16_ok (w : World) (hr : RegAt w) : Calls Tryd.prog 22 #[] w fun e w' => e = .returned (.bool true) ∧ Below w.heap.size w w' := by
  have HR := Lib.hid hr
  clear hr
  have K0 := Lib.hid (heap_alloc_new w (.cells #[.int .u32 0, .int .u32 2147484416, .int .u32 8, .int .u32 13, .int .u32 256, .int .u32 65536, .int .u32 780, .int .u32 7] 49))
  have HB0 := Lib.hid ((Below.refl w.heap.size w).alloc (Nat.le_refl _) (.cells #[.int .u32 0, .int .u32 2147484416, .int .u32 8, .int .u32 13, .int .u32 256, .int .u32 65536, .int .u32 780, .int .u32 7] 49))
  go_enter Tryd.func22, Tryd.ntmps22
  go_wp2_with fail
  generalize w.alloc (.cells #[.int .u32 0, .int .u32 2147484416, .int .u32 8, .int .u32 13, .int .u32 256, .int .u32 65536, .int .u32 780, .int .u32 7] 49) = w1 at K0 HB0 ⊢
  have HBO := Lib.hid (both_ok (some ⟨w.heap.size, 0, none⟩) sureL16 4 w1 (pairs_of_row (b := w.heap.size) (l := sureL16) (t := 49) K0.out (fun k x hk => by
    match k, hk with
    | 0, hk => obtain rfl : (0, 2147484416) = x := by simpa [sureL16] using hk
               exact ⟨by decide, by decide⟩
    | 1, hk => obtain rfl : (8, 13) = x := by simpa [sureL16] using hk
               exact ⟨by decide, by decide⟩
    | 2, hk => obtain rfl : (256, 65536) = x := by simpa [sureL16] using hk
               exact ⟨by decide, by decide⟩
    | 3, hk => obtain rfl : (780, 7) = x := by simpa [sureL16] using hk
               exact ⟨by decide, by decide⟩
    | k + 4, hk => simp [sureL16] at hk)) (by decide))
  refine (HBO.out).mono ?_
  rintro e w2 ⟨g, F2, v, rfl, h1, h2⟩
  have L2 : Hid (LawMem w w2 g sureM16 F2) := Lib.hid (h1.back HB0.out)
  obtain ⟨C, rfl, hCs, hC1⟩ := h2.form
  have HCS := Lib.hid (And.intro hCs hC1)
  clear h1 h2 hCs hC1 HBO K0 HB0
  have K2 := Lib.hid (heap_alloc_new w2 (.cells #[.slice none 0 0, .slice none 0 0, .int .i64 0] 65))
  have L2a := Lib.hid (L2.out.below ((Below.refl w2.heap.size w2).alloc (Nat.le_refl _) (.cells #[.slice none 0 0, .slice none 0 0, .int .i64 0] 65)))
  have HX2 := Lib.hid (And.intro L2.out.fr.size (show ¬ F2 w2.heap.size from fun hf => absurd (L2.out.ram.lt _ hf) (Nat.lt_irrefl _)))
  go_wp2_with (refine wpList_store_to rfl 65 _ _ rfl w2.heap.size C rfl rfl 65 #[.slice none 0 0, .slice none 0 0, .int .i64 0] K2.out (by rw [HCS.out.1]; kernel_rfl) (by rw [HCS.out.1]; rfl) HCS.out.2 ?_)
  intro w3 hx hk
  have L3 := Lib.hid (L2a.out.own hx.out HX2.out.1 HX2.out.2)
  clear hx hk K2 L2a HX2 L2
  go_wp2_with fail
  refine (live16_1 _).mono ?_
  rintro e w4 ⟨rfl, hb⟩
  have L4 := Lib.hid (L3.out.below hb)
  clear hb L3
  have HSN := Lib.hid (nic_Send (liveS true) (liveS_wf true) L4.out.ram (L4.out.regs HR.out).1 (L4.out.regs HR.out).2)
  have HIRQ := Lib.hid sureM16_irq
  have HOUT := Lib.hid sureM16_send
  generalize nsend (liveS true) sureM16 = R at HSN HIRQ HOUT
  go_wp2_with fail
  refine (HSN.out).mono ?_
  rintro e w5 ⟨fv, vs, F5, rfl, h1, h2, h3, h4, h5, h6⟩
  have L5 := Lib.hid (L4.out.step h1 h2)
  have hv1 : vs.length = 1 := by rw [← h4, HOUT.out]; rfl
  obtain ⟨fg, cv, rfl, hfg, hcl⟩ : ∃ fg cv, fv = .slice (some ⟨fg, 0, none⟩) 1 cv ∧ fg < w5.heap.size ∧ w5.cell? ⟨fg, 0, none⟩ = vs[0]? := by
    rcases h3.2 with ⟨rfl, he⟩ | ⟨q, cap, cur, rfl, hg, hh, hc, _⟩
    · omega
    · refine ⟨q, cap, by rw [hv1], lt_heap hh, ?_⟩
      exact h3.cellAt 0 (by omega)
  obtain ⟨b, o, cp, hq1, hq2, hq3, hq4, hq5⟩ := h6 0 [7] (by rw [HOUT.out]; rfl)
  rw [hq1] at hcl
  have HBB : Hid (Below w5.heap.size w5 w5) := Lib.hid (Below.refl _ _)
  have K6 := Lib.hid (heap_alloc_new w5 (.cells #[.int .u32 0, .int .u32 0, .int .u32 0, .int .u32 0, .int .u32 0, .int .u32 0, .int .u32 0, .bool false, .int .i64 0, .int .u32 0, .int .u32 0, .int .u32 0, .int .u16 0, .int .u16 0, .bool false, .int .i64 0, .int .u32 0, .int .u32 0, .int .u32 0, .int .u16 0, .int .u16 0, .bool false, .int .u32 0] 75))
  have HB6 := Lib.hid ((Below.refl w5.heap.size w5).alloc (Nat.le_refl _) (.cells #[.int .u32 0, .int .u32 0, .int .u32 0, .int .u32 0, .int .u32 0, .int .u32 0, .int .u32 0, .bool false, .int .i64 0, .int .u32 0, .int .u32 0, .int .u32 0, .int .u16 0, .int .u16 0, .bool false, .int .i64 0, .int .u32 0, .int .u32 0, .int .u32 0, .int .u16 0, .int .u16 0, .bool false, .int .u32 0] 75))
  have HSO := Lib.hid (NS.c_one R.1)
  have HFA := Lib.hid (And.intro hfg hcl)
  have HFB := Lib.hid (And.intro hq3 hq5)
  have HCPL := Lib.hid hq2
  clear h1 h2 h3 h4 h5 h6 hfg hcl hq1 hq2 hq3 hq4 hq5 HSN L4 HBB
  go_wp2_with (first | go_skip | (refine wpList_store_to rfl 75 _ _ rfl w5.heap.size R.1.c rfl rfl 75 #[.int .u32 0, .int .u32 0, .int .u32 0, .int .u32 0, .int .u32 0, .int .u32 0, .int .u32 0, .bool false, .int .i64 0, .int .u32 0, .int .u32 0, .int .u32 0, .int .u16 0, .int .u16 0, .bool false, .int .i64 0, .int .u32 0, .int .u32 0, .int .u32 0, .int .u16 0, .int .u16 0, .bool false, .int .u32 0] K6.out (nic_size _) rfl HSO.out ?_))
  intro w6 hx hk
  have HB7 : Hid (Below w5.heap.size w5 w6) := Lib.hid (HB6.out.trans (hx.out.below (fun k hk e => by omega) (by simp)))
  have c4 := (cell_of_row _ _ 4 _ _ _ hk).trans (show R.1.c[4]? = some (.int .u32 1) by rw [show (1 : Int) = ((1 : Nat) : Int) from rfl, ← HIRQ.out]; rfl)
  have cf := (HB7.out.cell (p := ⟨fg, 0, none⟩) HFA.out.1).trans HFA.out.2
  have hba : BytesAt w6 (some ⟨b, o, none⟩) [7] (fun _ => False) := fun _ => ⟨b, o, rfl, Nat.lt_of_lt_of_le HFB.out.1 HB7.out.size, id, fun j y hj => (HB7.out.cell (p := ⟨b, o + j, none⟩) HFB.out.1).trans (HFB.out.2 j y hj)⟩
  have hstr := str_of_bytes (cap := cp) hba
  have HFR := Lib.hid (L5.out.below HB7.out).fr
  simp only [List.length_cons, List.length_nil] at hstr cf
  clear hx hk hba K6 HB6
  go_wp2_with fail
  go_ret
  exact ⟨rfl, HFR.out⟩
end Go.Proofs.YtcmbnkmbaghkdaaDoor
