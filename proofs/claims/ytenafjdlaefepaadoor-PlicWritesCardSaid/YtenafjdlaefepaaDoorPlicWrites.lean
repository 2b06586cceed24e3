/-
pinnacelaw09.PlicWrites, walked: it answers true.
Condition: math/bits' table and the variable errors.errorType read as their texts lay them.
-/
import Derived.Test.YtenafjdlaefepaaDoorRef9Write
import Derived.Test.YtenafjdlaefepaaDoorPlicLevels
import Derived.Test.YtenafjdlaefepaaDoorNum09
namespace Go.Proofs.YtenafjdlaefepaaDoor
open Go.RowKit

set_option maxRecDepth 100000 in
set_option maxHeartbeats 2000000 in
theorem law_PlicWrites (s : PS) (at_ v : Nat) (hs : s.wf) (ha : at_ < 4294967296) (hv : v < 4294967296) (w : World) (ht : Tab32 w) (he : ErrAt w) :
    Calls Tryd.prog 9 #[s.v, .int .u32 at_, .int .u32 v] w fun e w' => e = .returned (.bool true) ∧ Below w.heap.size w w' := by
  have H1 := Lib.hid (fun W => plic_Write s at_ v hs ha hv W)
  have H2 := Lib.hid (fun W => ref9_Write s at_ v hs ha hv W)
  obtain ⟨q, hq⟩ : ∃ q, q = writeN s at_ v := ⟨_, rfl⟩
  rw [← hq] at H1 H2
  clear hq
  obtain ⟨t, f⟩ := q
  simp only at H1 H2
  have HN := Lib.hid (fun W h => num09_of f W h)
  obtain ⟨ev, hev⟩ : ∃ ev, ev = errV f := ⟨_, rfl⟩
  rw [← hev] at H1 HN
  clear hev
  have HT := Lib.hid ht
  have HE := Lib.hid he
  clear ht he
  unfold PS.v at H1 H2 ⊢
  have harr := arr_eq t.p0 t.p1 t.p2 t.p3 t.p4 t.p5 t.p6 t.p7
  go_enter Tryd.func9, Tryd.ntmps9
  go_wp2_with fail
  refine (H1.out _).mono ?_
  rintro e w' ⟨rfl, hb⟩
  have hb1 := ((Below.refl w.heap.size w).alloc (Nat.le_refl _) (.cells s.c 25)).trans (hb.mono (by simp))
  have hrow : w'.heap[w.heap.size]? = some (.cells s.c 25 (0, 0)) := (hb.block _ (by simp)).trans (heap_alloc_new _ _)
  have hsz : w.heap.size < w'.heap.size := Below.lt_of_row hrow
  have HR : Hid ((w'.alloc (.cells t.c 26)).heap[w.heap.size]? = some (.cells s.c 25 (0, 0))) := Lib.hid (by rw [Below.heap_alloc _ _ _ hsz]; exact hrow)
  have hb2 := hb1.alloc (Nat.le_of_lt hsz) (.cells t.c 26)
  clear hb hrow
  go_wp2_with (refine wpList_load_row rfl 25 _ rfl w.heap.size rfl 25 s.c (0, 0) _ HR.out Tryd.underlying25 rfl (by kernel_rfl) ?_)
  refine (H2.out _).mono ?_
  rintro e w2 ⟨rfl, hb3⟩
  have hb4 := hb2.trans (hb3.mono (by simp; omega))
  have hrow2 : w2.heap[w'.heap.size]? = some (.cells t.c 26 (0, 0)) := (hb3.block _ (by simp)).trans (heap_alloc_new _ _)
  have hsz2 : w'.heap.size < w2.heap.size := Below.lt_of_row hrow2
  have HR2 : Hid ((w2.alloc (.cells t.c 25)).heap[w'.heap.size]? = some (.cells t.c 26 (0, 0))) := Lib.hid (by rw [Below.heap_alloc _ _ _ hsz2]; exact hrow2)
  have HR3 : Hid ((w2.alloc (.cells t.c 25)).heap[w2.heap.size]? = some (.cells t.c 25 (0, 0))) := Lib.hid (heap_alloc_new _ _)
  have hb5 := hb4.alloc (by omega) (.cells t.c 25)
  have HN2 := Lib.hid (HN.out (w2.alloc (.cells t.c 25)) (HE.out.below hb5))
  clear hb3 hrow2 HR H1 H2 HN
  go_wp2_with (first | (refine wpList_load_row rfl 26 _ rfl w'.heap.size rfl 26 #[Value.int .u32 t.p0, .int .u32 t.p1, .int .u32 t.p2, .int .u32 t.p3, .int .u32 t.p4, .int .u32 t.p5, .int .u32 t.p6, .int .u32 t.p7, .int .u32 t.en, .int .u32 t.th, .int .u32 t.pe, .int .u32 t.bu] (0, 0) _ HR2.out Tryd.underlying26 rfl (by kernel_rfl) ?_) | (refine wpList_load_row rfl 25 _ rfl w2.heap.size rfl 25 #[Value.int .u32 t.p0, .int .u32 t.p1, .int .u32 t.p2, .int .u32 t.p3, .int .u32 t.p4, .int .u32 t.p5, .int .u32 t.p6, .int .u32 t.p7, .int .u32 t.en, .int .u32 t.th, .int .u32 t.pe, .int .u32 t.bu] (0, 0) _ HR3.out Tryd.underlying25 rfl (by kernel_rfl) ?_))
  refine HN2.out.mono ?_
  rintro e w3 ⟨rfl, hb6⟩
  have hb7 := hb5.trans (hb6.mono hb5.size)
  go_wp2_with fail
  refine (law9_sure _ (HT.out.below hb7)).mono ?_
  rintro e w4 ⟨rfl, hb8⟩
  go_wp2_with fail
  go_ret
  exact ⟨rfl, hb7.trans (hb8.mono hb7.size)⟩
end Go.Proofs.YtenafjdlaefepaaDoor
