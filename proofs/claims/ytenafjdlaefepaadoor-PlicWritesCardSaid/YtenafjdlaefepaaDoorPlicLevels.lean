/-
pinnacelaw09.PlicLevels, walked: it answers true.
Condition: math/bits' table reads as its text lays it.
-/
import Derived.Test.YtenafjdlaefepaaDoorPlicSure
import Derived.Deep.RegionHeld3
import Derived.ChangeKeysEq
namespace Go.Proofs.YtenafjdlaefepaaDoor
open Go.RowKit

theorem cells_below {a b : World} {g : Nat} {cs : Array Value} (h : ∀ i, a.cell? ⟨g, i, none⟩ = cs[i]?) (hb : Below a.heap.size a b) (hg : g < a.heap.size) : ∀ i, b.cell? ⟨g, i, none⟩ = cs[i]? := fun i => (hb.cell (p := ⟨g, i, none⟩) hg).trans (h i)
theorem info_u32 : (Tryd.prog.info? 22).isSome = true := by kernel_rfl
theorem cells_u32 : Tryd.prog.cellsOf 22 = 1 := by kernel_rfl
theorem arr_eq (a b c d e f g h : Nat) (w : World) : (Op.equalIn 9999 23 (.agg #[.int .u32 a, .int .u32 b, .int .u32 c, .int .u32 d, .int .u32 e, .int .u32 f, .int .u32 g, .int .u32 h]) (.agg #[.int .u32 a, .int .u32 b, .int .u32 c, .int .u32 d, .int .u32 e, .int .u32 f, .int .u32 g, .int .u32 h])).run Tryd.prog w = .ok true w := by
  obtain ⟨i, hi⟩ := Option.isSome_iff_exists.1 info_u32
  rw [run_equalIn_array (P := Tryd.prog) w 9998 _ _ Tryd.underlying23 hi, cells_u32]
  have r8 : List.range 8 = [0, 1, 2, 3, 4, 5, 6, 7] := rfl
  rw [r8]
  have hu := Tryd.underlying22
  simp [Op.eqItems, part, go_sem, hu]
theorem held_below {A C : Prop} {B : Nat} {w w' : World} (h : A ∧ Below B w w' ∧ C) : Below B w w' := h.2.1
theorem Tab32.drew {w : World} (h : Tab32 w) : Tab32 w.drew := fun j hj => h j hj
theorem same_level (s : PS) (ln : Nat) (hs : s.wf) : ({ s with pe := levelN s.pe s.bu ln } : PS) = { s with pe := levelK s.pe s.bu ln 8 } := by
  rw [level_same s.pe s.bu ln hs.hpe hs.hbu]

set_option maxRecDepth 100000 in
set_option maxHeartbeats 4000000 in
theorem law_PlicLevels (s : PS) (ln : Nat) (hs : s.wf) (hl : ln < 4294967296) (w : World) (ht : Tab32 w) :
    Calls Tryd.prog 3 #[s.v, .int .u32 ln] w fun e w' => e = .returned (.bool true) ∧ Below w.heap.size w w' := by
  have H1 := Lib.hid (fun W => plic_Level s ln hs hl W)
  have H2 := Lib.hid (fun W => by have h := ref9_Level s ln hs hl W; rw [← same_level s ln hs] at h; exact h)
  obtain ⟨t, hst⟩ : ∃ t : PS, t = { s with pe := levelN s.pe s.bu ln } := ⟨_, rfl⟩
  rw [← hst] at H1 H2
  clear hst
  have HT := Lib.hid ht
  clear ht
  unfold PS.v at H1 H2 ⊢
  go_enter Tryd.func3, Tryd.ntmps3
  go_wp2_with fail
  have hr0 : ∀ i, (w.alloc (.cells s.c 25)).cell? ⟨w.heap.size, i, none⟩ = s.c[i]? := fun i => cell_of_row _ _ i _ _ _ (heap_alloc_new w _)
  have hb0 : Below w.heap.size w (w.alloc (.cells s.c 25)) := (Below.refl _ _).alloc (Nat.le_refl _) _
  have hg : w.heap.size < (w.alloc (.cells s.c 25)).heap.size := by simp
  have harr := arr_eq t.p0 t.p1 t.p2 t.p3 t.p4 t.p5 t.p6 t.p7
  go_region_held3 (fun w' => (∀ i, w'.cell? ⟨w.heap.size, i, none⟩ = #[Value.int .u32 s.p0, .int .u32 s.p1, .int .u32 s.p2, .int .u32 s.p3, .int .u32 s.p4, .int .u32 s.p5, .int .u32 s.p6, .int .u32 s.p7, .int .u32 s.en, .int .u32 s.th, .int .u32 s.pe, .int .u32 s.bu][i]?) ∧ Below w.heap.size w w' ∧ w.heap.size < w'.heap.size)
    (first
      | exact ⟨hr0, hb0.drew, hg⟩
      | (go_split_ands; exact ⟨cells_below (by assumption) (by assumption) (by assumption), Below.trans (by assumption) (Below.mono (by assumption) (Nat.le_of_lt (by assumption))), Nat.lt_of_lt_of_le (by assumption) (Below.size (by assumption))⟩))
    ((first
      | (go_at_call 13; refine (H1.out _).mono ?_; rintro e w' ⟨rfl, hb⟩)
      | (go_at_call 14; refine (H2.out _).mono ?_; rintro e w' ⟨rfl, hb⟩)
      | (go_at_call 15; refine (law9_sure _ (HT.out.below (held_below (by assumption)))).mono ?_; rintro e w' ⟨rfl, hb⟩)))
  go_wp2_with fail
  go_ret
  exact ⟨rfl, held_below (by assumption)⟩
end Go.Proofs.YtenafjdlaefepaaDoor
