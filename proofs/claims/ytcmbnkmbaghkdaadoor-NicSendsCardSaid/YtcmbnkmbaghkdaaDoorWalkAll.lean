/-
ring.Walk and the document's Walk of every ring and memory.
Condition: the table of regions of package bus reads as its text lays it.
-/
import Derived.Test.YtcmbnkmbaghkdaaDoorRingWalkOk
import Derived.Test.YtcmbnkmbaghkdaaDoorRingNextA
import Derived.Test.YtcmbnkmbaghkdaaDoorRef13W
import Derived.Test.YtcmbnkmbaghkdaaDoorWalkSum
namespace Go.Proofs.YtcmbnkmbaghkdaaDoor
open Go.RowKit
set_option linter.unusedVariables false

/-- The parts of a chain; none, where there is an error. -/
def walkL (q : Rg) (m : Mm) (head : Int) : List Sg := if q.okP then (rwalk q.de q.size.toNat m head).getD [] else []
def walkN (q : Rg) (m : Mm) (head : Int) : Nat := if q.okP then (if (rwalk q.de q.size.toNat m head).isSome then 0 else 22) else 1
theorem walkL_ok (q : Rg) (m : Mm) (head : Int) : PartsOk m (walkL q m head) ∧ sumN (walkL q m head) ≤ 1048576 ∧ (walkL q m head).length ≤ 256 := by
  unfold walkL
  split
  · rename_i hok
    cases h : rwalk q.de q.size.toNat m head with
    | none => exact ⟨fun s hs => by simp at hs, by simp [sumN], by simp⟩
    | some l =>
      have := rwalk_ok h
      have h2 := hok.2.1
      exact ⟨this.1, this.2.1, by have h3 := this.2.2; show l.length ≤ 256; omega⟩
  · exact ⟨fun s hs => by simp at hs, by simp [sumN], by simp⟩
theorem sumN_le {l : List Sg} {s : Sg} (h : s ∈ l) : s.n ≤ sumN l := by
  induction l with
  | nil => simp at h
  | cons x t ih =>
    simp only [sumN]
    rcases List.mem_cons.1 h with rfl | h
    · omega
    · have := ih h; omega
def WalkAll (w : World) (g : Nat) (m : Mm) (F : Nat → Prop) (l : List Sg) (n : Nat) (e : Ending) (w' : World) : Prop :=
  ∃ v F2, e = .returned (.tuple #[v, errV n]) ∧ RamIs w' g m F2 ∧ MemStep F F2 w w' ∧ w'.ownsRow w.heap.size 196 3 v l.length (flatS l) ∧ ∀ b, v.ownBlock = some b → ¬ F2 b
def Walk13All (w : World) (l : List Sg) (n : Nat) (e : Ending) (w' : World) : Prop :=
  ∃ sv, e = .returned (.tuple #[sv, .int .i64 (n : Int)]) ∧ Below w.heap.size w w' ∧ w'.ownsRow w.heap.size 205 3 sv l.length (flatS l)
set_option maxRecDepth 100000 in
set_option maxHeartbeats 4000000 in
theorem ring_Walk_no {g : Nat} {m : Mm} {F : Nat → Prop} {w : World} (c : Array Value) (head : Int) (hcz : c.size = 6) (h : RamIs w g m F)
    (HC : Hid (∀ W, Calls Tryd.prog 110 #[.agg c, .pointer (some ⟨g, 0, none⟩)] W fun e w' => e = .returned (.iface 104 (.int .i64 (1 : Nat))) ∧ Below W.heap.size W w')) :
    Calls Tryd.prog 79 #[.agg c, .pointer (some ⟨g, 0, none⟩), .int .i64 head] w (WalkAll w g m F [] 1) := by
  have K0 := Lib.hid (heap_alloc_new w (.cells c 68))
  have HB0 := Lib.hid ((Below.refl w.heap.size w).alloc (Nat.le_refl _) (.cells c 68))
  have HI := Lib.hid (show (Tryd.prog.info? 68).map (·.size) = some c.size by rw [hcz]; kernel_rfl)
  have HH := Lib.hid h
  clear h hcz
  go_enter Tryd.func79, Tryd.ntmps79
  go_wp2_with (first | go_skip | (refine wpList_load_row rfl 68 _ rfl w.heap.size rfl 68 c (0, 0) _ K0.out Tryd.underlying68 rfl HI.out ?_))
  refine (HC.out _).mono ?_
  rintro e w1 ⟨rfl, hb⟩
  have HB1 := Lib.hid (HB0.out.trans (hb.mono HB0.out.size))
  clear hb K0 HB0
  have HP : Hid (WalkAll w g m F [] 1 (.returned (.tuple #[.slice none 0 0, .iface 104 (.int .i64 (1 : Nat))])) w1) := Lib.hid ⟨.slice none 0 0, F, by rw [errV_val (q := 1) (by omega)], HH.out.below HB1.out, MemStep.of_below HB1.out, World.ownsRow_nil _ _ _ _, fun b hb => by simp [Value.ownBlock] at hb⟩
  go_wp2_with fail
  go_ret2
  exact HP.out
set_option maxRecDepth 100000 in
set_option maxHeartbeats 4000000 in
theorem ref13_Walk_no (c rc : Array Value) (head : Int) (w : World) (hcz : c.size = 6)
    (HC : Hid (∀ W, Calls Tryd.prog 84 #[.agg c] W fun e w' => e = .returned (.int .i64 1) ∧ Below W.heap.size W w')) :
    Calls Tryd.prog 49 #[.agg c, .agg rc, .int .i64 head] w (Walk13All w [] 1) := by
  obtain ⟨k0, k1, hb0⟩ := two_new w (.cells c 52) (.cells rc 65)
  have K0 := Lib.hid k0
  have HB0 := Lib.hid hb0
  have HI := Lib.hid (show (Tryd.prog.info? 52).map (·.size) = some c.size by rw [hcz]; kernel_rfl)
  clear k0 k1 hb0 hcz
  go_enter Tryd.func49, Tryd.ntmps49
  go_wp2_with (first | go_skip | (refine wpList_load_row rfl 52 _ rfl w.heap.size rfl 52 c (0, 0) _ K0.out Tryd.underlying52 rfl HI.out ?_))
  refine (HC.out _).mono ?_
  rintro e w1 ⟨rfl, hb⟩
  have HB1 := Lib.hid (HB0.out.trans (hb.mono HB0.out.size))
  clear hb K0 HB0
  have HP : Hid (Walk13All w [] 1 (.returned (.tuple #[.slice none 0 0, .int .i64 1])) w1) := Lib.hid ⟨.slice none 0 0, rfl, HB1.out, World.ownsRow_nil _ _ _ _⟩
  go_wp2_with fail
  go_ret2
  exact HP.out
theorem ring_Walk_all {g : Nat} {m : Mm} {F : Nat → Prop} {w : World} (q : Rg) (hq : q.wf) (head : Int) (h : RamIs w g m F) (hr : RegAt w) (hrf : ¬ F 0) :
    Calls Tryd.prog 79 #[.agg q.c, .pointer (some ⟨g, 0, none⟩), .int .i64 head] w (WalkAll w g m F (walkL q m head) (walkN q m head)) := by
  have HB : ∀ W, Calls Tryd.prog 110 #[.agg q.c, .pointer (some ⟨g, 0, none⟩)] W fun e w' => e = .returned (errV (if q.okP then 0 else 1)) ∧ Below W.heap.size W w' := fun W => ring_bad q g W
  by_cases hok : q.okP
  · rw [show walkL q m head = (rwalk q.de q.size.toNat m head).getD [] from if_pos hok, show walkN q m head = if (rwalk q.de q.size.toNat m head).isSome then 0 else 22 from if_pos hok]
    rw [if_pos hok] at HB
    obtain ⟨n, hn⟩ : ∃ n : Nat, q.size = (n : Int) := ⟨q.size.toNat, by have := hok.1; omega⟩
    have h1 := hok.1
    have h2 := hok.2.1
    have hqc : q.c = #[.int .i64 n, .int .u32 q.de, .int .u32 q.av, .int .u32 q.us, .int .u16 q.la, .int .u16 q.pu] := by unfold Rg.c; rw [hn]
    rw [hqc] at HB ⊢
    rw [hn, Int.toNat_natCast]
    exact ring_Walk_ok n q.de q.av q.us q.la q.pu head h hr hrf (by omega) (by omega) hq.hde hok.2.2.2.1 (Lib.hid HB)
  · rw [show walkL q m head = [] from if_neg hok, show walkN q m head = 1 from if_neg hok]
    rw [if_neg hok, errV_val (q := 1) (by omega)] at HB
    exact ring_Walk_no q.c head rfl h (Lib.hid HB)
theorem ref13_Walk_all {B : Nat} {v : Value} {m : Mm} {w : World} (q : Rg) (hq : q.wf) (head : Int) (h : RefAt w B v m) :
    Calls Tryd.prog 49 #[.agg q.c, v, .int .i64 head] w (Walk13All w (walkL q m head) (walkN q m head)) := by
  obtain ⟨n1, n2, b1, c1, b2, c2, ⟨rfl, hcc⟩, hB1, hB2, h5, h6⟩ := h
  have HC := fun W => ref13_Check q W
  by_cases hok : q.okP
  · rw [show walkL q m head = (rwalk q.de q.size.toNat m head).getD [] from if_pos hok, show walkN q m head = if (rwalk q.de q.size.toNat m head).isSome then 0 else 22 from if_pos hok]
    rw [if_pos hok] at HC
    obtain ⟨n, hn⟩ : ∃ n : Nat, q.size = (n : Int) := ⟨q.size.toNat, by have := hok.1; omega⟩
    have h1 := hok.1
    have h2 := hok.2.1
    have hqc : q.c = #[.int .i64 n, .int .u32 q.de, .int .u32 q.av, .int .u32 q.us, .int .u16 q.la, .int .u16 q.pu] := by unfold Rg.c; rw [hn]
    rw [hqc] at HC ⊢
    rw [hn, Int.toNat_natCast]
    exact ref13_Walk_in m b1 c1 b2 m.n c2 m.wr n q.de q.av q.us q.la q.pu head _ w h5 n2 (by omega) (by omega) hq.hde hok.2.2.2.1 rfl (Lib.hid HC)
  · rw [show walkL q m head = [] from if_neg hok, show walkN q m head = 1 from if_neg hok]
    rw [if_neg hok] at HC
    exact ref13_Walk_no q.c _ head w rfl (Lib.hid HC)
end Go.Proofs.YtcmbnkmbaghkdaaDoor
