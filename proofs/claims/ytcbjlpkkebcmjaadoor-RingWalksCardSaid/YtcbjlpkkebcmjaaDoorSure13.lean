/-
sure of package pinnacelaw13, walked: it answers true.
Condition: the table of regions of package bus reads as its text lays it.
-/
import Derived.Test.YtcbjlpkkebcmjaaDoorSureDef13
import Derived.Test.YtcbjlpkkebcmjaaDoorG5
namespace Go.Proofs.YtcbjlpkkebcmjaaDoor
open Go.RowKit
set_option linter.unusedVariables false

set_option maxRecDepth 100000 in
set_option maxHeartbeats 8000000 in
theorem sure13_ok (w : World) (hr : RegAt w) : Calls Tryd.prog 50 #[] w fun e w' => e = .returned (.bool true) ∧ Below w.heap.size w w' := by
  have HR := Lib.hid hr
  clear hr
  have K0 := Lib.hid (heap_alloc_new w (.cells #[.int .u32 0, .int .u32 2147484416, .int .u32 8, .int .u32 5, .int .u32 256, .int .u32 65536, .int .u32 768, .int .u32 1684234849] 49))
  have HB0 := Lib.hid ((Below.refl w.heap.size w).alloc (Nat.le_refl _) (.cells #[.int .u32 0, .int .u32 2147484416, .int .u32 8, .int .u32 5, .int .u32 256, .int .u32 65536, .int .u32 768, .int .u32 1684234849] 49))
  go_enter Tryd.func50, Tryd.ntmps50
  go_wp2_with fail
  generalize w.alloc (.cells #[.int .u32 0, .int .u32 2147484416, .int .u32 8, .int .u32 5, .int .u32 256, .int .u32 65536, .int .u32 768, .int .u32 1684234849] 49) = w1 at K0 HB0 ⊢
  have HBO := Lib.hid (both_ok (some ⟨w.heap.size, 0, none⟩) sureL13 4 w1 (pairs_of_row (b := w.heap.size) (l := sureL13) (t := 49) K0.out (fun k x hk => by
    match k, hk with
    | 0, hk => obtain rfl : (0, 2147484416) = x := by simpa [sureL13] using hk
               exact ⟨by decide, by decide⟩
    | 1, hk => obtain rfl : (8, 5) = x := by simpa [sureL13] using hk
               exact ⟨by decide, by decide⟩
    | 2, hk => obtain rfl : (256, 65536) = x := by simpa [sureL13] using hk
               exact ⟨by decide, by decide⟩
    | 3, hk => obtain rfl : (768, 1684234849) = x := by simpa [sureL13] using hk
               exact ⟨by decide, by decide⟩
    | k + 4, hk => simp [sureL13] at hk)) (by decide))
  refine (HBO.out).mono ?_
  rintro e w2 ⟨g, F2, v, rfl, h1, h2⟩
  have L2 : Hid (LawMem w w2 g sureM13 F2) := Lib.hid (h1.back HB0.out)
  obtain ⟨C, rfl, hCs, hC1⟩ := h2.form
  have HCS := Lib.hid (And.intro hCs hC1)
  clear h1 h2 hCs hC1 HBO K0 HB0
  have K2 := Lib.hid (heap_alloc_new w2 (.cells #[.slice none 0 0, .slice none 0 0, .int .i64 0] 83))
  have L2a := Lib.hid (L2.out.below ((Below.refl w2.heap.size w2).alloc (Nat.le_refl _) (.cells #[.slice none 0 0, .slice none 0 0, .int .i64 0] 83)))
  have HX2 := Lib.hid (And.intro L2.out.fr.size (show ¬ F2 w2.heap.size from fun hf => absurd (L2.out.ram.lt _ hf) (Nat.lt_irrefl _)))
  go_wp2_with (refine wpList_store_to rfl 83 _ _ rfl w2.heap.size C rfl rfl 83 #[.slice none 0 0, .slice none 0 0, .int .i64 0] K2.out (by rw [HCS.out.1]; kernel_rfl) (by rw [HCS.out.1]; rfl) HCS.out.2 ?_)
  intro w3 hx hk
  have L3 := Lib.hid (L2a.out.own hx.out HX2.out.1 HX2.out.2)
  clear hx hk K2 L2a HX2 L2
  have hen := err_nil_eql
  go_wp2_with fail
  refine (laid13 _).mono ?_
  rintro e w4 ⟨rfl, hb⟩
  have L4 := Lib.hid (L3.out.below hb)
  clear hb L3
  have HNX := Lib.hid (next_laid_some 0 0 1 0 L4.out.ram (L4.out.regs HR.out).1 (L4.out.regs HR.out).2 sureM13_n (by omega) sureM13_c (by omega) (by omega) sureM13_h (by omega))
  go_wp2_with fail
  refine (HNX.out).mono ?_
  rintro e w5 ⟨F5, rfl, h1, h2⟩
  have L5 := Lib.hid (L4.out.step h1 h2)
  clear h1 h2 HNX L4
  have K6 := Lib.hid (heap_alloc_new w5 (.cells #[.int .i64 0, .int .u32 0, .int .u32 0, .int .u32 0, .int .u16 0, .int .u16 0] 58))
  have L5a := Lib.hid (L5.out.below ((Below.refl w5.heap.size w5).alloc (Nat.le_refl _) (.cells #[.int .i64 0, .int .u32 0, .int .u32 0, .int .u32 0, .int .u16 0, .int .u16 0] 58)))
  have HX5 := Lib.hid (And.intro L5.out.fr.size (show ¬ F5 w5.heap.size from fun hf => absurd (L5.out.ram.lt _ hf) (Nat.lt_irrefl _)))
  go_wp2_with (refine wpList_store_to rfl 58 _ _ rfl w5.heap.size (lrow (0 + 1) 0) rfl rfl 58 #[.int .i64 0, .int .u32 0, .int .u32 0, .int .u32 0, .int .u16 0, .int .u16 0] K6.out (by kernel_rfl) rfl (lrow_one _ _) ?_)
  intro w6 hx hk
  have L6 := Lib.hid (L5a.out.own hx.out HX5.out.1 HX5.out.2)
  have K6b := Lib.hid hk
  clear hx hk K6 L5a L5
  have HWK := Lib.hid (walk_laid (0 + 1) 0 ((0 : Nat) : Int) L6.out.ram (L6.out.regs HR.out).1 (L6.out.regs HR.out).2)
  rw [sureM13_w] at HWK
  go_wp2_with (refine wpList_load_row rfl 58 _ rfl w5.heap.size rfl 58 (lrow (0 + 1) 0) (0, 0) _ K6b.out Tryd.underlying58 rfl (by kernel_rfl) ?_)
  refine (HWK.out).mono ?_
  rintro e w7 ⟨v7, F7, rfl, h1, h2, h3, h4⟩
  have L7 := Lib.hid (L6.out.step h1 h2)
  obtain ⟨ao, c7, rfl, hc7, hl7, hsg⟩ := SegsAt.of_owns h3 h4
  obtain ⟨b7, o7, rfl, hb7, hf7, hcell⟩ := hsg (by simp)
  have HSG := Lib.hid (show SegsAt w7 (some ⟨b7, o7, none⟩) [⟨2147484416, 5, false⟩] F7 from fun _ => ⟨b7, o7, rfl, hb7, hf7, hcell⟩)
  have HCELL := Lib.hid (fun r hr => hcell 0 ⟨2147484416, 5, false⟩ r rfl hr)
  have HBF := Lib.hid (And.intro hb7 hf7)
  rw [show errV (if (some [(⟨2147484416, 5, false⟩ : Sg)]).isSome = true then 0 else 22) = .nilIface from rfl, show ((some [(⟨2147484416, 5, false⟩ : Sg)]).getD []).length = 1 from rfl]
  clear h1 h2 h3 h4 hc7 hl7 hsg hb7 hf7 hcell HWK L6 K6b HX5
  have HGA := Lib.hid (ring_Gather (some ⟨b7, o7, none⟩) [⟨2147484416, 5, false⟩] c7 L7.out.ram (L7.out.regs HR.out).1 (L7.out.regs HR.out).2 HSG.out sureM13_ok (by decide) (by rw [sureM13_g]; decide))
  rw [sureM13_g] at HGA
  go_wp2_with fail
  refine (HGA.out).mono ?_
  rintro e w8 ⟨v8, F8, rfl, h1, h2, h3, h4⟩
  obtain ⟨ao8, c8, rfl, hc8, hl8, hba⟩ := BytesAt.of_owns h3 h4
  have hstr := str_of_bytes (cap := c8) hba
  simp only [List.length_cons, List.length_nil] at hstr ⊢
  have HCE := Lib.hid (fun r (hr : r < 3) => (h2.kx.cell (p := ⟨b7, o7 + 0 * 3 + r, none⟩) HBF.out.1 HBF.out.2).trans (HCELL.out r hr))
  have L8 := Lib.hid (L7.out.step h1 h2).fr
  have c0 := (HCE.out 0 (by omega)).trans (rfl : _ = some (.int .u32 2147484416 : Value))
  have c1 := (HCE.out 1 (by omega)).trans (rfl : _ = some (.int .i64 5 : Value))
  have c2 := (HCE.out 2 (by omega)).trans (rfl : _ = some (.bool false : Value))
  simp only [Nat.zero_mul, Nat.add_zero] at c0 c1 c2
  have hseg : ∀ W, (binOp BinOp.eql 121 (.agg #[.int .u32 2147484416, .int .i64 5, .bool false]) (.agg #[.int .u32 2147484416, .int .i64 5, .bool false])).run Tryd.prog W = .ok (.bool true) W := fun W => seg_eql ⟨2147484416, 5, false⟩ ⟨2147484416, 5, false⟩ W
  clear h1 h2 h3 h4 hc8 hl8 hba HCE HCELL HBF HSG HGA
  go_wp2_with fail
  go_ret
  exact ⟨rfl, L8.out⟩
end Go.Proofs.YtcbjlpkkebcmjaaDoor
