/-
noughts of package mem, walked: a page of noughts, made when it is asked for first.
No condition.
-/
import Derived.Test.YtcakcfeipfjmpaaDoorOnceGo
namespace Go.Proofs.YtcakcfeipfjmpaaDoor
open Go.RowKit

/-- The world behind the closure's run. -/
def blanked (w : World) (g : Nat) : World := (w.setCell ⟨g, 6, none⟩ (.slice (some ⟨w.heap.size, 0, none⟩) 4096 4096)).alloc (.cells zeroPage 5)
set_option maxRecDepth 100000 in
set_option maxHeartbeats 1600000 in
theorem noughts_fn (g : Nat) (q : Nat) (x : Value) (w : World) (hg : g < w.heap.size) (hq : q < w.heap.size) (hp : w.cell? ⟨q, 0, none⟩ = some (.pointer (some ⟨g, 0, none⟩))) (h6 : w.cell? ⟨g, 6, none⟩ = some x) (f6 : w.frozen? ⟨g, 6, none⟩ = false) :
    Calls Tryd.prog 105 #[.pointer (some ⟨q, 0, none⟩)] w fun e w' => e = .returned (.tuple #[]) ∧ w' = (blanked w g).drew := by
  have hm := make_page
  have p7 : (w.alloc (.cells zeroPage 5)).cell? ⟨q, 0, none⟩ = some (.pointer (some ⟨g, 0, none⟩)) := (World.cell?_alloc_past _ _ _ hq).trans hp
  have n6 : (w.alloc (.cells zeroPage 5)).cell? ⟨g, 6, none⟩ = some x := (World.cell?_alloc_past _ _ _ hg).trans h6
  have n7 : (w.alloc (.cells zeroPage 5)).frozen? ⟨g, 6, none⟩ = false := (World.frozen?_alloc_past _ _ _ hg).trans f6
  go_enter Tryd.func105, Tryd.ntmps105
  go_wp2
  go_region
  all_goals (go_end0; exact ⟨rfl, rfl⟩)

theorem blanked_cell {w : World} {g j : Nat} (hg : g < w.heap.size) (hj : j ≠ 6) : (blanked w g).cell? ⟨g, j, none⟩ = w.cell? ⟨g, j, none⟩ := by
  unfold blanked
  rw [World.cell?_alloc_past _ _ _ (by simpa [World.setCell] using hg)]
  exact World.cell?_setCell_other _ _ _ _ (fun e => hj (by have := congrArg Addr.off e; simp at this; omega))
theorem blanked_frozen {w : World} {g j : Nat} (hg : g < w.heap.size) : (blanked w g).frozen? ⟨g, j, none⟩ = w.frozen? ⟨g, j, none⟩ := by
  unfold blanked
  rw [World.frozen?_alloc_past _ _ _ (by simpa [World.setCell] using hg)]
  simp

set_option maxRecDepth 100000 in
set_option maxHeartbeats 1600000 in
theorem slow_once (g q : Nat) (x : Value) (w : World) (hgq : ¬ g = q) (hg : g < w.heap.size) (hq : q < w.heap.size) (hp : w.cell? ⟨q, 0, none⟩ = some (.pointer (some ⟨g, 0, none⟩)))
    (h3 : w.cell? ⟨g, 3, none⟩ = some (.int .u32 0)) (h4 : w.cell? ⟨g, 4, none⟩ = some (.int .i32 0)) (h6 : w.cell? ⟨g, 6, none⟩ = some x)
    (f3 : w.frozen? ⟨g, 3, none⟩ = false) (f4 : w.frozen? ⟨g, 4, none⟩ = false) (f6 : w.frozen? ⟨g, 6, none⟩ = false) :
    Calls Tryd.prog 112 #[.pointer (some ⟨g, 3, none⟩), .func (.func 105) #[] #[.pointer (some ⟨q, 0, none⟩)]] w fun e w' => e = .returned (.tuple #[]) ∧
      w' = ((blanked (w.setCell ⟨g, 4, none⟩ (.int .i32 1)) g).drew.drew.setCell ⟨g, 3, none⟩ (.int .u32 1)).setCell ⟨g, 4, none⟩ (.int .i32 0) := by
  have hl := run_call_load (P := Tryd.prog) Tryd.func113 (by kernel_rfl) (by kernel_rfl) (by kernel_rfl) .u32 (by kernel_rfl) (w := w.setCell ⟨g, 4, none⟩ (.int .i32 1)) (a := ⟨g, 3, none⟩) (x := 0) ((World.cell?_setCell_other _ ⟨g, 4, none⟩ ⟨g, 3, none⟩ _ (by simp)).trans h3)
  have hp1 : (w.setCell ⟨g, 4, none⟩ (.int .i32 1)).cell? ⟨q, 0, none⟩ = some (.pointer (some ⟨g, 0, none⟩)) := (World.cell?_setCell_other _ ⟨g, 4, none⟩ ⟨q, 0, none⟩ _ (fun h => hgq (by simpa using congrArg Addr.block h))).trans hp
  have h61 : (w.setCell ⟨g, 4, none⟩ (.int .i32 1)).cell? ⟨g, 6, none⟩ = some x := (World.cell?_setCell_other _ ⟨g, 4, none⟩ ⟨g, 6, none⟩ _ (by simp)).trans h6
  have f61 : (w.setCell ⟨g, 4, none⟩ (.int .i32 1)).frozen? ⟨g, 6, none⟩ = false := by simp [f6]
  have hnot : ∀ (x : Bool) (w : World), (Op.unary .not (.bool x)).run Tryd.prog w = .ok (.bool (!x)) w := fun _ _ => rfl
  have HN := Lib.hid (noughts_fn g q x _ (by simpa [World.setCell] using hg) (by simpa [World.setCell] using hq) hp1 h61 f61)
  have HL := Lib.hid (lock_free ⟨g, 4, none⟩ w h4 f4)
  have hs1 : (blanked (w.setCell ⟨g, 4, none⟩ (.int .i32 1)) g).drew.cell? ⟨g, 3, none⟩ = some (.int .u32 0) := (blanked_cell (by simpa [World.setCell] using hg) (by omega)).trans ((World.cell?_setCell_other _ ⟨g, 4, none⟩ ⟨g, 3, none⟩ _ (by simp)).trans h3)
  have hs2 : ((blanked (w.setCell ⟨g, 4, none⟩ (.int .i32 1)) g).drew.drew.setCell ⟨g, 3, none⟩ (.int .u32 1)).cell? ⟨g, 4, none⟩ = some (.int .i32 1) := (World.cell?_setCell_other _ ⟨g, 3, none⟩ ⟨g, 4, none⟩ _ (by simp)).trans ((blanked_cell (by simpa [World.setCell] using hg) (by omega)).trans (World.cell?_setCell_same w _ _ h4))
  have hz1 : (blanked (w.setCell ⟨g, 4, none⟩ (.int .i32 1)) g).drew.frozen? ⟨g, 3, none⟩ = false := (blanked_frozen (by simpa [World.setCell] using hg)).trans (by simp [f3])
  have hz2 : ((blanked (w.setCell ⟨g, 4, none⟩ (.int .i32 1)) g).drew.drew.setCell ⟨g, 3, none⟩ (.int .u32 1)).frozen? ⟨g, 4, none⟩ = false := by
    rw [World.frozen?_setCell]
    exact (blanked_frozen (by simpa [World.setCell] using hg)).trans (by simp [f4])
  have HS1 := Lib.hid hs1
  have HS2 := Lib.hid hs2
  have HZ1 := Lib.hid hz1
  have HZ2 := Lib.hid hz2
  clear hs1 hs2 hz1 hz2
  go_enter_defers Tryd.func112, Tryd.ntmps112
  go_wp2_with (first | (refine (HL.out).mono ?_; rintro e w' ⟨rfl, rfl⟩) | (refine (HN.out).mono ?_; rintro e w' ⟨rfl, rfl⟩) | (go_at_call 111; go_in))
  refine leaves_cons (f := 116) (args := #[.pointer (some ⟨g, 3, none⟩), .bool true]) (by simp) (by simp [go_sem]) ?_
  refine (bool_store_deferred ⟨g, 3, none⟩ (.int .u32 0) .returning _ HS1.out HZ1.out).mono ?_
  rintro e u' w'' ⟨rfl, rfl, rfl⟩
  refine leaves_cons (f := 115) (args := #[.pointer (some ⟨g, 4, none⟩)]) (by simp [settle]) (by simp [go_sem]) ?_
  refine (unlock_deferred ⟨g, 4, none⟩ _ _ HS2.out HZ2.out).mono ?_
  rintro e u' w'' ⟨rfl, rfl, rfl⟩
  simp [Leaves, settle, results, Tryd.results112]

set_option maxRecDepth 100000 in
set_option maxHeartbeats 1600000 in
theorem once_first (g q : Nat) (x : Value) (w : World) (hgq : ¬ g = q) (hg : g < w.heap.size) (hq : q < w.heap.size) (hp : w.cell? ⟨q, 0, none⟩ = some (.pointer (some ⟨g, 0, none⟩)))
    (h3 : w.cell? ⟨g, 3, none⟩ = some (.int .u32 0)) (h4 : w.cell? ⟨g, 4, none⟩ = some (.int .i32 0)) (h6 : w.cell? ⟨g, 6, none⟩ = some x)
    (f3 : w.frozen? ⟨g, 3, none⟩ = false) (f4 : w.frozen? ⟨g, 4, none⟩ = false) (f6 : w.frozen? ⟨g, 6, none⟩ = false) :
    Calls Tryd.prog 104 #[.pointer (some ⟨g, 3, none⟩), .func (.func 105) #[] #[.pointer (some ⟨q, 0, none⟩)]] w fun e w' => e = .returned (.tuple #[]) ∧
      w' = ((blanked (w.setCell ⟨g, 4, none⟩ (.int .i32 1)) g).drew.drew.setCell ⟨g, 3, none⟩ (.int .u32 1)).setCell ⟨g, 4, none⟩ (.int .i32 0) := by
  have hl := run_call_load (P := Tryd.prog) Tryd.func113 (by kernel_rfl) (by kernel_rfl) (by kernel_rfl) .u32 (by kernel_rfl) h3
  have hnot : ∀ (x : Bool) (w : World), (Op.unary .not (.bool x)).run Tryd.prog w = .ok (.bool (!x)) w := fun _ _ => rfl
  have HS := Lib.hid (slow_once g q x w hgq hg hq hp h3 h4 h6 f3 f4 f6)
  go_enter Tryd.func104, Tryd.ntmps104
  go_wp2_with (first | (refine (HS.out).mono ?_; rintro e w' ⟨rfl, rfl⟩) | (go_at_call 111; go_in))
  go_end0
  exact ⟨rfl, rfl⟩
theorem once_again (a : Addr) (fv : Value) (w : World) (h0 : w.cell? a = some (.int .u32 1)) :
    Calls Tryd.prog 104 #[.pointer (some a), fv] w fun e w' => e = .returned (.tuple #[]) ∧ w' = w := by
  have hl := run_call_load (P := Tryd.prog) Tryd.func113 (by kernel_rfl) (by kernel_rfl) (by kernel_rfl) .u32 (by kernel_rfl) h0
  have hnot : ∀ (x : Bool) (w : World), (Op.unary .not (.bool x)).run Tryd.prog w = .ok (.bool (!x)) w := fun _ _ => rfl
  go_enter Tryd.func104, Tryd.ntmps104
  go_wp2
  go_end0
  exact ⟨rfl, rfl⟩
end Go.Proofs.YtcakcfeipfjmpaaDoor
