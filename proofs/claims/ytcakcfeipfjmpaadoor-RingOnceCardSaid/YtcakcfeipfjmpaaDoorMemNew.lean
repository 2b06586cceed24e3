/-
New of package mem, walked.
No condition.
-/
import Derived.Test.YtcakcfeipfjmpaaDoorMemErr
namespace Go.Proofs.YtcakcfeipfjmpaaDoor
open Go.RowKit

def Mm.new (n : Nat) : Mm := { n := n, f := fun _ => 0, d := fun _ => false, wr := 0, dc := n, pc := fun _ => 4096 }
def nilPages (n : Nat) : Array Value := madeCells #[.slice none 0 0] n
def zeroInts (n : Nat) : Array Value := madeCells #[.int .i64 0] n
theorem nilPages_get {n j : Nat} (hj : j < n) : (nilPages n)[j]? = some (.slice none 0 0) := by
  unfold nilPages madeCells
  simp [hj, Nat.mod_one]
theorem zeroInts_get {n j : Nat} (hj : j < n) : (zeroInts n)[j]? = some (.int .i64 0) := by
  unfold zeroInts madeCells
  simp [hj, Nat.mod_one]
theorem make_pages (n : Nat) (h : n ≤ 16384) (w : World) : (Instr.makeSlice 111 (.int .i64 n) (.int .i64 n)).run Tryd.prog w = .ok (.slice (some ⟨w.heap.size, 0, none⟩) n n) (w.alloc (.cells (nilPages n) 107)) := by
  obtain ⟨i, hi, hz, hs, hb⟩ := info_of info_page
  have h := run_make (P := Tryd.prog) w 111 107 i _ Tryd.underlying111 hi hz .i64 .i64 n n (by omega) (by omega) (by rw [hb]; omega) (by omega)
  rw [hs, Int.toNat_natCast, Nat.mul_one] at h
  exact h
theorem make_ints (n : Nat) (h : n ≤ 16384) (w : World) : (Instr.makeSlice 50 (.int .i64 n) (.int .i64 n)).run Tryd.prog w = .ok (.slice (some ⟨w.heap.size, 0, none⟩) n n) (w.alloc (.cells (zeroInts n) 3)) := by
  obtain ⟨i, hi, hz, hs, hb⟩ := info_of info_int
  have h := run_make (P := Tryd.prog) w 50 3 i _ Tryd.underlying50 hi hz .i64 .i64 n n (by omega) (by omega) (by rw [hb]; omega) (by omega)
  rw [hs, Int.toNat_natCast, Nat.mul_one] at h
  exact h
theorem RamAt.fresh {W : World} {g gp gd n : Nat} (n1 : 1 ≤ n) (n2 : n ≤ 16384) (hg : W.heap[g]? = some (.cells (ramRow gp gd n n 0 none) 127 (0, 0))) (hp : W.heap[gp]? = some (.cells (nilPages n) 107 (0, 0))) (hd : W.heap[gd]? = some (.cells (zeroInts n) 3 (0, 0))) :
    RamAt W g gp gd (fun _ => none) none (Mm.new n) where
  n1 := n1
  n2 := n2
  r := hg
  p := ⟨_, hp, size_madeCells _ _, fun _ hi => nilPages_get hi⟩
  q := ⟨_, hd, by unfold zeroInts; rw [size_madeCells]; exact Nat.le_refl _, fun _ hi => zeroInts_get hi⟩
  pb := fun _ _ _ h => by cases h
  pz := fun _ _ _ _ _ => rfl
  bz := fun _ h => by cases h
  inj := fun _ _ _ _ _ h => by cases h
  nb := fun _ _ _ h => by cases h
  dl := Nat.le_refl _
  pl := fun _ _ => Nat.le_refl _
  pn := fun _ _ _ => rfl

theorem three_new (w : World) (A B C : Obj) : (((w.alloc A).alloc B).alloc C).drew.heap[w.heap.size]? = some A ∧ (((w.alloc A).alloc B).alloc C).drew.heap[w.heap.size + 1]? = some B ∧ (((w.alloc A).alloc B).alloc C).drew.heap[w.heap.size + 1 + 1]? = some C ∧
    (((w.alloc A).alloc B).alloc C).drew.heap.size = w.heap.size + 3 ∧ Below w.heap.size w (((w.alloc A).alloc B).alloc C).drew := by
  refine ⟨?_, ?_, ?_, by simp, ((((Below.refl _ _).alloc (Nat.le_refl _) _).alloc (by simp) _).alloc (by simp; omega) _).drew⟩
  · show (((w.alloc A).alloc B).alloc C).heap[w.heap.size]? = _
    rw [Below.heap_alloc _ _ _ (by simp; omega), Below.heap_alloc _ _ _ (by simp)]
    exact heap_alloc_new _ _
  · show (((w.alloc A).alloc B).alloc C).heap[w.heap.size + 1]? = _
    rw [Below.heap_alloc _ _ _ (by simp)]
    have := heap_alloc_new (w.alloc A) B
    simpa using this
  · show (((w.alloc A).alloc B).alloc C).heap[w.heap.size + 1 + 1]? = _
    have := heap_alloc_new ((w.alloc A).alloc B) C
    simpa using this
theorem new_is {W : World} {s n : Nat} {a b : Nat} (n1 : 1 ≤ n) (n2 : n ≤ 16384) (hg : W.heap[s + 1 + 1]? = some (.cells (ramRow a b n n 0 none) 127 (0, 0))) (hp : W.heap[a]? = some (.cells (nilPages n) 107 (0, 0))) (hd : W.heap[b]? = some (.cells (zeroInts n) 3 (0, 0))) (hs : W.heap.size = s + 3) (ha : s ≤ a) (hb : s ≤ b) :
    RamIs W (s + 1 + 1) (Mm.new n) (fun k => s ≤ k ∧ k < s + 3) := by
  have hlp := lt_heap hp
  have hld := lt_heap hd
  refine ⟨a, b, _, _, RamAt.fresh n1 n2 hg hp hd, fun k hk => ?_, fun k hk => ?_⟩
  · rcases hk with rfl | rfl | rfl | hb | ⟨i, hi, hb⟩
    · exact ⟨by omega, by omega⟩
    · exact ⟨ha, by omega⟩
    · exact ⟨hb, by omega⟩
    · cases hb
    · cases hb
  · have := hk.2
    omega

set_option maxRecDepth 100000 in
set_option maxHeartbeats 1600000 in
theorem mem_New_ok (n : Nat) (w : World) (n1 : 1 ≤ n) (n2 : n ≤ 16384) :
    Calls Tryd.prog 35 #[.int .i64 n] w fun e w' => ∃ g F', e = .returned (.tuple #[.pointer (some ⟨g, 0, none⟩), .nilIface]) ∧ RamIs w' g (Mm.new n) F' ∧ (∀ k, F' k → w.heap.size ≤ k) ∧ Below w.heap.size w w' := by
  have hm1 := make_pages n n2
  have hm2 := make_ints n n2
  go_enter Tryd.func35, Tryd.ntmps35
  go_wp2
  go_region
  all_goals go_wp2
  all_goals go_ret2
  · exact ⟨w.heap.size + 1 + 1, _, rfl, (new_is n1 n2 (three_new w _ _ _).2.2.1 (three_new w _ _ _).1 (three_new w _ _ _).2.1 (three_new w _ _ _).2.2.2.1 (Nat.le_refl _) (Nat.le_succ _)), fun k h => h.1, (three_new w _ _ _).2.2.2.2⟩
  · exact ⟨w.heap.size + 1 + 1, _, rfl, (new_is n1 n2 (three_new w _ _ _).2.2.1 (three_new w _ _ _).2.1 (three_new w _ _ _).1 (three_new w _ _ _).2.2.2.1 (Nat.le_succ _) (Nat.le_refl _)), fun k h => h.1, (three_new w _ _ _).2.2.2.2⟩
end Go.Proofs.YtcakcfeipfjmpaaDoor
