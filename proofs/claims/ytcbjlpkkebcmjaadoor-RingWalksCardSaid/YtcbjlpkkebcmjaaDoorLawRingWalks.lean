/-
pinnacelaw13.RingWalks, walked: it answers true.
Condition: the table of regions of package bus, and the handle of error, read as their texts lay them.
-/
import Derived.Test.YtcbjlpkkebcmjaaDoorSure13
import Derived.Test.YtcbjlpkkebcmjaaDoorWalkAll
import Derived.Test.YtcbjlpkkebcmjaaDoorRef13G
import Derived.Test.YtcbjlpkkebcmjaaDoorSegs13
import Derived.Test.YtcbjlpkkebcmjaaDoorNum13
import Derived.Test.YtcbjlpkkebcmjaaDoorLawKitB
namespace Go.Proofs.YtcbjlpkkebcmjaaDoor
open Go.RowKit
set_option linter.unusedVariables false

theorem ref13_Gather_at {B : Nat} {v : Value} {m : Mm} {w : World} (h : RefAt w B v m) (ao : Option Addr) (l : List Sg) (cap : Nat) (hl : SegsAt w ao l (fun _ => False)) (hok : PartsOk m l) (hsum : sumN l ≤ 1048576) (hlen : l.length ≤ 256) :
    Calls Tryd.prog 45 #[v, .slice ao l.length cap] w (Bytes13Post w (gath m l)) := by
  obtain ⟨n1, n2, b1, c1, b2, c2, ⟨rfl, hcc⟩, hB1, hB2, h5, h6⟩ := h
  exact ref13_Gather m b1 c1 b2 m.n c2 m.wr ao l cap w h5 hcc n2 hl hok (fun s hs => Nat.le_trans (sumN_le hs) hsum) (by omega) (Nat.le_trans (gath_sum m l) (by omega))
theorem SegsAt.free {W : World} {ao : Option Addr} {l : List Sg} {F : Nat → Prop} (h : SegsAt W ao l F) : SegsAt W ao l (fun _ => False) := fun hne => by
  obtain ⟨b, o, h1, h2, _, h4⟩ := h hne
  exact ⟨b, o, h1, h2, id, h4⟩
theorem BytesAt.stepB {w W : World} {ao : Option Addr} {l : List UInt8} {F F' : Nat → Prop} (h : BytesAt w ao l F) (hs : MemStep F F' w W) : BytesAt W ao l F' := fun hne => by
  obtain ⟨b, o, h1, h2, h3, h4⟩ := h hne
  exact ⟨b, o, h1, Nat.lt_of_lt_of_le h2 hs.kx.size, hs.off h2 h3, fun j x hj => (hs.kx.cell (p := ⟨b, o + j, none⟩) h2 h3).trans (h4 j x hj)⟩
set_option maxRecDepth 100000 in
set_option maxHeartbeats 16000000 in
theorem law_RingWalks (q : Rg) (hq : q.wf) (pw : Option Addr) (lw : List (Nat × Nat)) (cw : Nat) (head : Int) (w : World) (HP : PairsL w pw lw) (hmax : lw.length ≤ maxLen) (hr : RegAt w) (he : ErrAt w) :
    Calls Tryd.prog 6 #[.agg q.c, .slice pw lw.length cw, .int .i64 head] w fun e w' => e = .returned (.bool true) ∧ Below w.heap.size w w' := by
  have HRG := Lib.hid hr
  have HER := Lib.hid he
  have K0 := Lib.hid (heap_alloc_new w (.cells q.c 52))
  have HB0 := Lib.hid ((Below.refl w.heap.size w).alloc (Nat.le_refl _) (.cells q.c 52))
  have HBT := Lib.hid (both_ok pw lw cw (w.alloc (.cells q.c 52)) (HP.below HB0.out) hmax)
  have HWA := Lib.hid (fun (g : Nat) (m : Mm) (F : Nat → Prop) (W : World) (h : RamIs W g m F) (hr : RegAt W) (hrf : ¬ F 0) => ring_Walk_all (w := W) q hq head h hr hrf)
  have HWR := Lib.hid (fun (B : Nat) (v : Value) (m : Mm) (W : World) (h : RefAt W B v m) => ref13_Walk_all (w := W) q hq head h)
  have HWL := Lib.hid (fun m => walkL_ok q m head)
  obtain ⟨c, hc⟩ : ∃ c, c = q.c := ⟨_, rfl⟩
  have HI0 : Hid ((Tryd.prog.info? 52).map (·.size) = some c.size) := Lib.hid (by rw [hc]; kernel_rfl)
  rw [← hc] at K0 HB0 HBT HWA HWR ⊢
  have hen := err_nil_eql
  clear hc hr HP hmax he hq
  go_enter Tryd.func6, Tryd.ntmps6
  go_upto_region 1 with fail
  change Code.wp _ _ _ _ (w.alloc (.cells c 52))
  generalize w.alloc (.cells c 52) = w1 at K0 HB0 HBT ⊢
  have HSZ1 := Lib.hid (lt_heap K0.out)
  go_wp2_with fail
  refine (HBT.out).mono ?_
  rintro e w2 ⟨g, F2, v, rfl, hlm, hrf⟩
  have L2 := Lib.hid (hlm.back HB0.out)
  have K2 := Lib.hid (keepB K0.out hlm.fr)
  have HLO : Hid (¬ F2 w.heap.size) := Lib.hid (fun hf => by have := hlm.lo _ hf; have := HSZ1.out; omega)
  have R2 := Lib.hid hrf
  obtain ⟨C, rfl, hCs, hC1⟩ := hrf.form
  have HCS := Lib.hid (And.intro hCs hC1)
  have HI1 : Hid ((Tryd.prog.info? 83).map (·.size) = some C.size) := Lib.hid (by rw [hCs]; kernel_rfl)
  clear hlm hrf hCs hC1 HBT K0 HB0
  generalize layL (lw.take 80) = m at L2 R2
  have K3 := Lib.hid (heap_alloc_new w2 (.cells #[.slice none 0 0, .slice none 0 0, .int .i64 0] 83))
  have HBA := Lib.hid ((Below.refl w2.heap.size w2).alloc (Nat.le_refl _) (.cells #[.slice none 0 0, .slice none 0 0, .int .i64 0] 83))
  have L3 := Lib.hid (L2.out.below HBA.out)
  have K4 := Lib.hid (keepB K2.out HBA.out)
  have HX3 := Lib.hid (And.intro L2.out.fr.size (And.intro (show ¬ F2 w2.heap.size from fun hf => absurd (L2.out.ram.lt _ hf) (Nat.lt_irrefl _)) (lt_heap K2.out)))
  have R3 : Hid (RefF (w2.alloc (.cells #[.slice none 0 0, .slice none 0 0, .int .i64 0] 83)) w1.heap.size (.agg C) m (fun k => F2 k ∨ k = w2.heap.size)) := Lib.hid (by
    obtain ⟨n1, n2, b1, c1, b2, c2, hv, h1, h2, h3, h4, h5, h6⟩ := R2.out
    exact ⟨n1, n2, b1, c1, b2, c2, hv, h1, h2, fun h => h.elim h3 (fun e => by have := h5.lt; omega), fun h => h.elim h4 (fun e => by have := h6.lt; omega), h5.below HBA.out, h6.below HBA.out⟩)
  clear L2 K2 HBA R2
  go_wp2_with (refine wpList_store_to rfl 83 _ _ rfl w2.heap.size C rfl rfl 83 #[.slice none 0 0, .slice none 0 0, .int .i64 0] K3.out (by rw [HCS.out.1]; kernel_rfl) (by rw [HCS.out.1]; rfl) HCS.out.2 ?_)
  intro w4 hx hk
  have L4 := Lib.hid (L3.out.own hx.out HX3.out.1 HX3.out.2.1)
  have K5 := Lib.hid (hx.out.heap K4.out (Nat.ne_of_lt HX3.out.2.2))
  have R4 : Hid (RefF w4 w1.heap.size (.agg C) m F2) := Lib.hid ((R3.out.kx hx.out (fun k hk => .inl (.inr hk))).weak (fun k h => .inl h))
  have KB := Lib.hid hk
  clear hx hk L3 K3 K4 R3
  generalize w2.heap.size = bR at HX3 KB ⊢
  have HW1 := Lib.hid (HWA.out _ _ _ _ L4.out.ram (L4.out.regs HRG.out).1 (L4.out.regs HRG.out).2)
  have HL := Lib.hid (HWL.out m)
  generalize hll : walkL q m head = l at HW1 HL
  generalize hnn : walkN q m head = N at HW1
  have HLE := Lib.hid (And.intro hll hnn)
  clear hll hnn HWL
  go_wp2_with (refine wpList_load_row rfl 52 _ rfl w.heap.size rfl 52 c (0, 0) _ K5.out Tryd.underlying52 rfl HI0.out ?_)
  refine (HW1.out).mono ?_
  rintro e w5 ⟨v5, F5, rfl, h1, h2, h3, h4⟩
  obtain ⟨ao, ca, rfl, hca, hln, hsg⟩ := SegsAt.of_owns (F := F5) h3 h4
  have L5 := Lib.hid (L4.out.step h1 h2)
  have R5 := Lib.hid (R4.out.step h2)
  have KB5 := Lib.hid (h2.heap KB.out HX3.out.2.1)
  have K6 := Lib.hid (h2.heap K5.out HLO.out)
  have S5 := Lib.hid hsg
  have HF5 := Lib.hid (And.intro (h2.off (lt_heap KB.out) HX3.out.2.1) (h2.off (lt_heap K5.out) HLO.out))
  clear h1 h2 h3 h4 hca hln hsg HW1 HWA L4 R4 KB K5 HLO HX3
  have HW2 := Lib.hid (HWR.out _ _ _ _ R5.out.ref)
  rw [HLE.out.1, HLE.out.2] at HW2
  go_wp2_with (first | (refine wpList_load_row rfl 52 _ rfl w.heap.size rfl 52 c (0, 0) _ K6.out Tryd.underlying52 rfl HI0.out ?_) | (refine wpList_load_row rfl 83 _ rfl bR rfl 83 C (0, 0) _ KB5.out Tryd.underlying83 rfl HI1.out ?_))
  refine (HW2.out).mono ?_
  rintro e w6 ⟨v6, rfl, hb, h3⟩
  obtain ⟨bo, cb, rfl, hcb, hln, hsg⟩ := SegsAt.of_owns13 (F := F5) h3 (fun b hb hf => by have := (ownsRow_lt h3 hb).1; have := L5.out.ram.lt _ hf; omega)
  have L6 := Lib.hid (L5.out.below hb)
  have R6 := Lib.hid (R5.out.below hb)
  have S6 := Lib.hid (S5.out.below hb)
  have T6 := Lib.hid hsg
  have KB6 := Lib.hid (keepB KB5.out hb)
  clear hb h3 hcb hln hsg HW2 HWR L5 R5 S5 KB5 K6
  have HG1 := Lib.hid (ring_Gather ao l ca L6.out.ram (L6.out.regs HRG.out).1 (L6.out.regs HRG.out).2 S6.out HL.out.1 (by have := HL.out.2.2; omega) (by have := gath_sum m l; have := HL.out.2.1; omega))
  go_wp2_with fail
  refine (HG1.out).mono ?_
  rintro e w7 ⟨v7, F7, rfl, h1, h2, h3, h4⟩
  obtain ⟨xo, cx, rfl, _, hxl, hxb⟩ := BytesAt.of_owns h3 h4
  have L7 := Lib.hid (L6.out.step h1 h2)
  have R7 := Lib.hid (R6.out.step h2)
  have S7 := Lib.hid (S6.out.step h2)
  have T7 := Lib.hid (T6.out.step h2)
  have KB7 := Lib.hid (h2.heap KB6.out HF5.out.1)
  have X7 := Lib.hid hxb
  clear h1 h2 h3 h4 hxl hxb HG1 L6 R6 S6 T6 KB6 HF5
  have HG2 := Lib.hid (ref13_Gather_at R7.out.ref bo l cb T7.out.free HL.out.1 HL.out.2.1 HL.out.2.2)
  go_wp2_with (refine wpList_load_row rfl 83 _ rfl bR rfl 83 C (0, 0) _ KB7.out Tryd.underlying83 rfl HI1.out ?_)
  refine (HG2.out).mono ?_
  rintro e w8 ⟨v8, rfl, hb, h3⟩
  obtain ⟨yo, cy, rfl, _, hyl, hyb⟩ := BytesAt.of_owns (F := F7) h3 (fun b hb hf => by have := (ownsRow_lt h3 hb).1; have := L7.out.ram.lt _ hf; omega)
  have L8 := Lib.hid (L7.out.below hb)
  have S8 := Lib.hid (S7.out.below hb)
  have T8 := Lib.hid (T7.out.below hb)
  have X8 := Lib.hid (X7.out.stepB (MemStep.of_below hb))
  have Y8 := Lib.hid hyb
  clear hb h3 hyl hyb HG2 L7 R7 S7 T7 X7 KB7
  have HRM := Lib.hid (ring_Room ao l ca w8 F7 S8.out (by have := HL.out.2.2; omega) (by have := (room_sum l).1; have := HL.out.2.1; omega) (by have := (room_sum l).2; have := HL.out.2.1; omega))
  go_wp2_with fail
  refine (HRM.out).mono ?_
  rintro e w9 ⟨rfl, hb⟩
  have L9 := Lib.hid (L8.out.below hb)
  have S9 := Lib.hid (S8.out.below hb)
  have T9 := Lib.hid (T8.out.below hb)
  have X9 := Lib.hid (X8.out.stepB (MemStep.of_below hb))
  have Y9 := Lib.hid (Y8.out.stepB (MemStep.of_below hb))
  clear hb HRM L8 S8 T8 X8 Y8
  have HRM2 := Lib.hid (ref13_Room bo l cb w9 F7 T9.out (by have := HL.out.2.2; omega) (by have := (room_sum l).1; have := HL.out.2.1; omega) (by have := (room_sum l).2; have := HL.out.2.1; omega))
  go_wp2_with fail
  refine (HRM2.out).mono ?_
  rintro e w' ⟨rfl, rfl⟩
  clear HRM2
  have HSG := Lib.hid (law_segs ao bo l ca cb w9 S9.out.free T9.out.free (by have := HL.out.2.2; omega))
  go_wp2_with fail
  refine (HSG.out).mono ?_
  rintro e w10 ⟨rfl, hb⟩
  have L10 := Lib.hid (L9.out.below hb)
  have X10 := Lib.hid (X9.out.stepB (MemStep.of_below hb))
  have Y10 := Lib.hid (Y9.out.stepB (MemStep.of_below hb))
  clear hb HSG L9 S9 T9 X9 Y9
  have HN1 := Lib.hid (num13_of N w10 (HER.out.below L10.out.fr))
  go_wp2_with fail
  refine (HN1.out).mono ?_
  rintro e w11 ⟨rfl, hb⟩
  have L11 := Lib.hid (L10.out.below hb)
  have X11 := Lib.hid (X10.out.stepB (MemStep.of_below hb))
  have Y11 := Lib.hid (Y10.out.stepB (MemStep.of_below hb))
  clear hb HN1 L10 X10 Y10
  have hs1 := str_of_bytes (cap := cx) X11.out
  have hs2 := str_of_bytes (cap := cy) Y11.out
  have HN2 := Lib.hid (num13_nil w11)
  go_wp2_with fail
  refine (HN2.out).mono ?_
  rintro e w12 ⟨rfl, hb⟩
  have L12 := Lib.hid (L11.out.below hb)
  clear hb HN2 L11 X11 Y11 hs1 hs2
  have HSU := Lib.hid (sure13_ok w12 (L12.out.regs HRG.out).1)
  go_wp2_with fail
  refine (HSU.out).mono ?_
  rintro e w13 ⟨rfl, hb⟩
  have HFR := Lib.hid (L12.out.below hb).fr
  go_wp2_with fail
  go_ret
  exact ⟨rfl, HFR.out⟩
end Go.Proofs.YtcbjlpkkebcmjaaDoor
