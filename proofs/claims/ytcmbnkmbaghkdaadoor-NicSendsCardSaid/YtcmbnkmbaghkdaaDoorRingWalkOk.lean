/-
ring.Walk of a ring that may be, over every memory.
Condition: the table of regions of package bus reads as its text lays it.
-/
import Derived.Test.YtcmbnkmbaghkdaaDoorRingWalk
namespace Go.Proofs.YtcmbnkmbaghkdaaDoor
open Go.RowKit
set_option linter.unusedVariables false

theorem ring_Walk_ok {g : Nat} {m : Mm} {F : Nat → Prop} {w : World} (size de av us la pu : Nat) (head : Int) (h : RamIs w g m F) (hr : RegAt w) (hrf : ¬ F 0) (hs1 : 1 ≤ size) (hs2 : size ≤ 256) (hde : de < 4294967296) (hd16 : de % 16 = 0)
    (HC : Hid (∀ W, Calls Tryd.prog 110 #[.agg #[.int .i64 size, .int .u32 de, .int .u32 av, .int .u32 us, .int .u16 la, .int .u16 pu], .pointer (some ⟨g, 0, none⟩)] W fun e w' => e = .returned .nilIface ∧ Below W.heap.size W w')) :
    Calls Tryd.prog 79 #[.agg #[.int .i64 size, .int .u32 de, .int .u32 av, .int .u32 us, .int .u16 la, .int .u16 pu], .pointer (some ⟨g, 0, none⟩), .int .i64 head] w (WalkPost w g m F (rwalk de size m head)) :=
  ring_Walk_in size de av us la pu head _ h hs1 hs2 rfl HC (Lib.hid (fun W F' i h1 h2 hi => ring_desc size de av us la pu i _ h1 (reg_step hr h2 hrf).1 (reg_step hr h2 hrf).2 hde hd16 (by omega) rfl))
end Go.Proofs.YtcmbnkmbaghkdaaDoor
