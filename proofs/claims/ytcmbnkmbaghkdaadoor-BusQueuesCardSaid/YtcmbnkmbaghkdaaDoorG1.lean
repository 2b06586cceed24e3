/-
Small words for the walks of this seat: results that lie in a cell beside others, and frames over draws.
A law's error as a value: nil, or a number of api.
bus.at, bus.Base, walked: where each device lies.
Condition: the package's table of regions reads as its text lays it.
A frame by blocks: what stood at first, but for the blocks of X, stands as it stood.
No condition.
Memory as package mem lays it, and what of it can be told: its pages, its bytes, which pages are dirty, how many writes were done.
No condition.
append onto a row of the call's own, of a slice of another slice type.
No condition.
Pages, check, run and is of package mem, walked.
No condition.
sync.Once, in one goroutine, at the closure of mem.Ram's noughts; the counter of writes: each walked.
No condition.
noughts of package mem, walked: a page of noughts, made when it is asked for first.
No condition.
noughts of package mem, walked: a page of noughts, made when it is asked for first: its contract.
No condition.
at and own of package mem, walked: a page that is read, and one that is written.
No condition.
Store of package mem, walked: a number stored, or the error.
No condition.
-/
import Derived.WalkKit
import Derived.Lib.Hide
import Derived.Laws.CopyOwn
import Derived.BigQuiet
import Derived.Deep.QuietTactic
import Derived.Test.YtcmbnkmbaghkdaaDoorProg
import Derived.Maps.AppendAt
import Derived.Tactics
import Derived.Tactics2
import Derived.Defers
import Derived.Laws.Pointers
import Derived.Laws.LoneSync
import Derived.RegionTactic
import Derived.RegionCalls
import Derived.ChangeAlike
import Derived.Laws.NewBlocks
import Derived.Laws.MakeOwn
import Derived.Deep.Cut
import Derived.WalkSpells
namespace Go.Proofs.YtcmbnkmbaghkdaaDoor
open Go.RowKit
variable {P : Program}

theorem results_cell_tmp {fn : Func} {p a : Tmp} {ty : TypeId} (h : fn.results = #[.cell p ty, .tmp a]) (tmps : Array Value) (w : World) (g : Nat) (t : TypeId) (cs : Array Value) (fr : Nat × Nat) (d : TypeDesc)
    (hp : tmps.getD p undef = .pointer (some ⟨g, 0, none⟩)) (hg : w.heap[g]? = some (.cells cs t fr))
    (hu : P.underlying ty = some d) (hd : (match d with | .struct _ | .array _ _ => true | _ => false) = true) (hi : (P.info? ty).map (·.size) = some cs.size) :
    (results fn tmps).run P w = .ok (.tuple #[.agg cs, tmps.getD a undef]) w := by
  have hp' : tmps[p]?.getD undef = .pointer (some ⟨g, 0, none⟩) := by simpa using hp
  simp [results, h, hp', asAddr, run_loadVar_row w g t ty cs fr d hg hu hd hi]
theorem results_cell_tmp2 {fn : Func} {p a b : Tmp} {ty : TypeId} (h : fn.results = #[.cell p ty, .tmp a, .tmp b]) (tmps : Array Value) (w : World) (g : Nat) (t : TypeId) (cs : Array Value) (fr : Nat × Nat) (d : TypeDesc)
    (hp : tmps.getD p undef = .pointer (some ⟨g, 0, none⟩)) (hg : w.heap[g]? = some (.cells cs t fr))
    (hu : P.underlying ty = some d) (hd : (match d with | .struct _ | .array _ _ => true | _ => false) = true) (hi : (P.info? ty).map (·.size) = some cs.size) :
    (results fn tmps).run P w = .ok (.tuple #[.agg cs, tmps.getD a undef, tmps.getD b undef]) w := by
  have hp' : tmps[p]?.getD undef = .pointer (some ⟨g, 0, none⟩) := by simpa using hp
  simp [results, h, hp', asAddr, run_loadVar_row w g t ty cs fr d hg hu hd hi]
theorem below_drewN {B : Nat} {a w : World} (h : Below B a w) (n : Nat) : Below B a (w.drewN n) := ⟨h.os, h.tape, h.output, h.size, h.block⟩
theorem ret_i {k : IntKind} {a b : Int} (h : a = b) : Ending.returned (.int k a) = .returned (.int k b) := by rw [h]
theorem val_i {k : IntKind} {a b : Nat} (h : a = b) : Value.int k (a : Int) = .int k (b : Int) := by rw [h]
end Go.Proofs.YtcmbnkmbaghkdaaDoor
namespace Go.Proofs.YtcmbnkmbaghkdaaDoor
open Go.RowKit
/-- A law's error: nil, or an api.Errno. -/
def errV (n : Nat) : Value := if n = 0 then .nilIface else .iface 104 (.int .i64 (n : Int))
end Go.Proofs.YtcmbnkmbaghkdaaDoor
namespace Go.Proofs.YtcmbnkmbaghkdaaDoor
open Go.RowKit

def fromD : Nat → Nat
  | 1 => 33554432 | 2 => 201326592 | 3 => 268435456 | 4 => 268500992 | 5 => 268566528 | 6 => 268632064 | 7 => 2147483648 | _ => 0
def roomD (size : Nat) : Nat → Nat
  | 1 => 65536 | 2 => 4194304 | 3 => 8 | 4 => 256 | 5 => 512 | 6 => 512 | 7 => min size 2147483648 | _ => 0
def byD : Nat → Nat
  | 1 => 4 | 2 => 4 | 3 => 1 | 4 => 4 | 5 => 4 | 6 => 4 | _ => 0
/-- The table's cells. -/
def regRow : Array Value := #[.int .u32 0, .int .u32 0, .int .i64 0, .int .u32 33554432, .int .u32 65536, .int .i64 4, .int .u32 201326592, .int .u32 4194304, .int .i64 4, .int .u32 268435456, .int .u32 8, .int .i64 1, .int .u32 268500992, .int .u32 256, .int .i64 4,
  .int .u32 268566528, .int .u32 512, .int .i64 4, .int .u32 268632064, .int .u32 512, .int .i64 4, .int .u32 2147483648, .int .u32 0, .int .i64 0]
def RegAt (w : World) : Prop := 0 < w.heap.size ∧ ∀ i, i < 24 → w.cell? ⟨0, i, none⟩ = regRow[i]?
theorem RegAt.below {w w' : World} (h : RegAt w) (hb : Below w.heap.size w w') : RegAt w' := ⟨Nat.lt_of_lt_of_le h.1 hb.size, fun i hi => (hb.cell (p := ⟨0, i, none⟩) h.1).trans (h.2 i hi)⟩
theorem RegAt.drew {w : World} (h : RegAt w) : RegAt w.drew := h
theorem RegAt.drewN {w : World} (h : RegAt w) (n : Nat) : RegAt (w.drewN n) := h
def regV (size d : Nat) : Value := .agg #[.int .u32 (fromD d : Nat), .int .u32 (roomD size d : Nat), .int .i64 (byD d : Nat)]
theorem fromD_out (d : Int) (h : d ≤ 0 ∨ 7 < d) : fromD d.toNat = 0 := by
  unfold fromD
  split <;> omega
theorem roomD_out (size : Nat) (d : Int) (h : d ≤ 0 ∨ 7 < d) : roomD size d.toNat = 0 := by
  unfold roomD
  split <;> omega
theorem byD_out (d : Int) (h : d ≤ 0 ∨ 7 < d) : byD d.toNat = 0 := by
  unfold byD
  split <;> omega

set_option maxRecDepth 100000 in
set_option maxHeartbeats 1000000 in
theorem bus_at (dev : Int) (size : Nat) (w : World) (hs : size < 4294967296) (hr : RegAt w) :
    Calls Tryd.prog 67 #[.int .i64 dev, .int .u32 size] w fun e w' => e = .returned (regV size dev.toNat) ∧ Below w.heap.size w w' := by
  have HR := Lib.hid hr
  have HA := Lib.hid (show RegAt (w.alloc (.cells #[.int .u32 0, .int .u32 0, .int .i64 0] 169)) from hr.below ((Below.refl _ _).alloc (Nat.le_refl _) _))
  clear hr
  have hcase : (dev ≤ 0 ∨ 7 < dev) ∨ dev = 1 ∨ dev = 2 ∨ dev = 3 ∨ dev = 4 ∨ dev = 5 ∨ dev = 6 ∨ dev = 7 := by omega
  rcases hcase with h | rfl | rfl | rfl | rfl | rfl | rfl | rfl
  · unfold regV
    rw [fromD_out dev h, roomD_out size dev h, byD_out dev h]
    by_cases h0 : dev ≤ 0
    · go_enter Tryd.func67, Tryd.ntmps67
      go_wp2_with fail
      exact bodyPost_ret (v := .agg #[.int .u32 0, .int .u32 0, .int .i64 0]) (by simp [results, Tryd.results67, go_sem]) rfl ⟨rfl, (Below.refl _ _).alloc (Nat.le_refl _) _⟩
    · have h7 : 7 < dev := by omega
      go_enter Tryd.func67, Tryd.ntmps67
      go_wp2_with fail
      exact bodyPost_ret (v := .agg #[.int .u32 0, .int .u32 0, .int .i64 0]) (by simp [results, Tryd.results67, go_sem]) rfl ⟨rfl, (Below.refl _ _).alloc (Nat.le_refl _) _⟩
  · have c0 := HA.out.2 3 (by omega)
    have c1 := HA.out.2 4 (by omega)
    have c2 := HA.out.2 5 (by omega)
    simp only [regRow] at c0 c1 c2
    go_enter Tryd.func67, Tryd.ntmps67
    go_wp2_with fail
    exact bodyPost_ret (v := regV size 1) (by simp [results, Tryd.results67, go_sem, regV, fromD, roomD, byD]) rfl ⟨rfl, ((Below.refl _ _).alloc (Nat.le_refl _) _).alloc (by simp) _⟩
  · have c0 := HA.out.2 6 (by omega)
    have c1 := HA.out.2 7 (by omega)
    have c2 := HA.out.2 8 (by omega)
    simp only [regRow] at c0 c1 c2
    go_enter Tryd.func67, Tryd.ntmps67
    go_wp2_with fail
    exact bodyPost_ret (v := regV size 2) (by simp [results, Tryd.results67, go_sem, regV, fromD, roomD, byD]) rfl ⟨rfl, ((Below.refl _ _).alloc (Nat.le_refl _) _).alloc (by simp) _⟩
  · have c0 := HA.out.2 9 (by omega)
    have c1 := HA.out.2 10 (by omega)
    have c2 := HA.out.2 11 (by omega)
    simp only [regRow] at c0 c1 c2
    go_enter Tryd.func67, Tryd.ntmps67
    go_wp2_with fail
    exact bodyPost_ret (v := regV size 3) (by simp [results, Tryd.results67, go_sem, regV, fromD, roomD, byD]) rfl ⟨rfl, ((Below.refl _ _).alloc (Nat.le_refl _) _).alloc (by simp) _⟩
  · have c0 := HA.out.2 12 (by omega)
    have c1 := HA.out.2 13 (by omega)
    have c2 := HA.out.2 14 (by omega)
    simp only [regRow] at c0 c1 c2
    go_enter Tryd.func67, Tryd.ntmps67
    go_wp2_with fail
    exact bodyPost_ret (v := regV size 4) (by simp [results, Tryd.results67, go_sem, regV, fromD, roomD, byD]) rfl ⟨rfl, ((Below.refl _ _).alloc (Nat.le_refl _) _).alloc (by simp) _⟩
  · have c0 := HA.out.2 15 (by omega)
    have c1 := HA.out.2 16 (by omega)
    have c2 := HA.out.2 17 (by omega)
    simp only [regRow] at c0 c1 c2
    go_enter Tryd.func67, Tryd.ntmps67
    go_wp2_with fail
    exact bodyPost_ret (v := regV size 5) (by simp [results, Tryd.results67, go_sem, regV, fromD, roomD, byD]) rfl ⟨rfl, ((Below.refl _ _).alloc (Nat.le_refl _) _).alloc (by simp) _⟩
  · have c0 := HA.out.2 18 (by omega)
    have c1 := HA.out.2 19 (by omega)
    have c2 := HA.out.2 20 (by omega)
    simp only [regRow] at c0 c1 c2
    go_enter Tryd.func67, Tryd.ntmps67
    go_wp2_with fail
    exact bodyPost_ret (v := regV size 6) (by simp [results, Tryd.results67, go_sem, regV, fromD, roomD, byD]) rfl ⟨rfl, ((Below.refl _ _).alloc (Nat.le_refl _) _).alloc (by simp) _⟩
  · have c0 := HA.out.2 21 (by omega)
    have c1 := HA.out.2 22 (by omega)
    have c2 := HA.out.2 23 (by omega)
    simp only [regRow] at c0 c1 c2
    go_enter Tryd.func67, Tryd.ntmps67
    go_wp2_with fail
    all_goals exact bodyPost_ret (v := regV size 7) (by simp [results, Tryd.results67, go_sem, regV, fromD, roomD, byD]; omega) rfl ⟨rfl, ((Below.refl _ _).alloc (Nat.le_refl _) _).alloc (by simp) _⟩
theorem roomD_lt (size d : Nat) (hs : size < 4294967296) : roomD size d < 4294967296 := by
  unfold roomD
  split <;> omega
theorem fromD_lt (d : Nat) : fromD d < 4294967296 := by
  unfold fromD
  split <;> omega
set_option maxHeartbeats 400000 in
theorem bus_Base (dev : Int) (size : Nat) (w : World) (hs : size < 4294967296) (hr : RegAt w) :
    Calls Tryd.prog 113 #[.int .i64 dev, .int .u32 size] w fun e w' => e = .returned (.tuple #[.int .u32 (fromD dev.toNat : Nat), .int .u32 (roomD size dev.toNat : Nat)]) ∧ Below w.heap.size w w' := by
  have H := Lib.hid (bus_at dev size w hs hr)
  clear hr
  obtain ⟨d, hd⟩ : ∃ d, d = dev.toNat := ⟨_, rfl⟩
  rw [← hd] at H ⊢
  unfold regV at H
  obtain ⟨a, ha⟩ : ∃ a, a = fromD d := ⟨_, rfl⟩
  obtain ⟨b, hb⟩ : ∃ b, b = roomD size d := ⟨_, rfl⟩
  obtain ⟨c, hc⟩ : ∃ c, c = byD d := ⟨_, rfl⟩
  rw [← ha, ← hb] at H ⊢
  rw [← hc] at H
  clear hd ha hb hc
  go_enter Tryd.func113, Tryd.ntmps113
  go_wp2_with fail
  refine H.out.mono ?_
  rintro e w' ⟨rfl, hb⟩
  go_wp2_with fail
  go_quiet (fail)
  go_wp2_with fail
  go_ret2
  exact ⟨rfl, below_drewN (hb.alloc hb.size _) _⟩
end Go.Proofs.YtcmbnkmbaghkdaaDoor
namespace Go.Proofs.YtcmbnkmbaghkdaaDoor
open Go.RowKit

structure KX (X : Nat → Prop) (a w : World) : Prop where
  os : w.os = a.os
  tape : w.tape = a.tape
  output : w.output = a.output
  size : a.heap.size ≤ w.heap.size
  block : ∀ k, k < a.heap.size → ¬ X k → w.heap[k]? = a.heap[k]?

namespace KX
variable {X Y : Nat → Prop} {a b w : World}
theorem refl (X : Nat → Prop) (a : World) : KX X a a := ⟨rfl, rfl, rfl, Nat.le_refl _, fun _ _ _ => rfl⟩
theorem mono (h : KX X a w) (hy : ∀ k, k < a.heap.size → X k → Y k) : KX Y a w := ⟨h.os, h.tape, h.output, h.size, fun k hk hn => h.block k hk (fun hx => hn (hy k hk hx))⟩
theorem trans (h : KX X a b) (k : KX Y b w) (hy : ∀ i, i < a.heap.size → Y i → X i) : KX X a w :=
  ⟨k.os.trans h.os, k.tape.trans h.tape, k.output.trans h.output, Nat.le_trans h.size k.size, fun i hi hn => (k.block i (Nat.lt_of_lt_of_le hi h.size) (fun e => hn (hy i hi e))).trans (h.block i hi hn)⟩
theorem of_below (h : Below a.heap.size a w) : KX X a w := ⟨h.os, h.tape, h.output, h.size, fun k hk _ => h.block k hk⟩
theorem below {B : Nat} (h : KX X a w) (hx : ∀ k, k < B → ¬ X k) (hB : B ≤ a.heap.size) : Below B a w := ⟨h.os, h.tape, h.output, h.size, fun k hk => h.block k (Nat.lt_of_lt_of_le hk hB) (hx k hk)⟩
theorem drew (h : KX X a w) : KX X a w.drew := ⟨h.os, h.tape, h.output, h.size, h.block⟩
theorem drewN (h : KX X a w) (n : Nat) : KX X a (w.drewN n) := ⟨h.os, h.tape, h.output, h.size, h.block⟩
theorem alloc (h : KX X a w) (o : Obj) : KX X a (w.alloc o) :=
  ⟨h.os, h.tape, h.output, Nat.le_trans h.size (by simp), fun k hk hn => (Below.heap_alloc _ _ _ (Nat.lt_of_lt_of_le hk h.size)).trans (h.block k hk hn)⟩
theorem setCell (h : KX X a w) {p : Addr} (hp : X p.block ∨ a.heap.size ≤ p.block) (u : Value) : KX X a (w.setCell p u) :=
  ⟨h.os, h.tape, h.output, Nat.le_trans h.size (by simp [World.setCell]), fun k hk hn => (Below.heap_setCell _ _ _ _ (fun e => by subst e; rcases hp with hp | hp; exact hn hp; omega)).trans (h.block k hk hn)⟩
theorem setRow (h : KX X a w) {g : Nat} (hp : X g ∨ a.heap.size ≤ g) (cs : Array Value) : KX X a (w.setRow g cs) :=
  ⟨h.os, h.tape, h.output, Nat.le_trans h.size (by simp [World.setRow]), fun k hk hn => by
    rw [← h.block k hk hn]
    simp only [World.setRow, Array.getElem?_modify]
    rw [if_neg (fun e => by subst e; rcases hp with hp | hp; exact hn hp; omega)]⟩
theorem heap (h : KX X a w) {k : Nat} {x : Obj} (hk : a.heap[k]? = some x) (hn : ¬ X k) : w.heap[k]? = some x :=
  (h.block k (Array.getElem?_eq_some_iff.1 hk).1 hn).trans hk
theorem cell (h : KX X a w) {p : Addr} (hp : p.block < a.heap.size) (hn : ¬ X p.block) : w.cell? p = a.cell? p := World.cell?_of_block (w := a) (h.block p.block hp hn)
theorem frozen (h : KX X a w) {p : Addr} (hp : p.block < a.heap.size) (hn : ¬ X p.block) : w.frozen? p = a.frozen? p := World.frozen?_of_block (w := a) (h.block p.block hp hn)
end KX
theorem lt_heap {w : World} {k : Nat} {x : Obj} (h : w.heap[k]? = some x) : k < w.heap.size := (Array.getElem?_eq_some_iff.1 h).1
theorem heap_row_other {w : World} {b b' : Nat} {cs : Array Value} (h : b' ≠ b) : (w.setRow b cs).heap[b']? = w.heap[b']? := by
  simp only [World.setRow, Array.getElem?_modify]
  rw [if_neg (fun e => h e.symm)]
theorem heap_cell_other {w : World} {p : Addr} {u : Value} {b' : Nat} (h : b' ≠ p.block) : (w.setCell p u).heap[b']? = w.heap[b']? := Below.heap_setCell _ _ _ _ h
end Go.Proofs.YtcmbnkmbaghkdaaDoor
namespace Go.Proofs.YtcmbnkmbaghkdaaDoor
open Go.RowKit

def B8 (x : UInt8) : Value := .int .u8 (x.toNat : Int)
/-- What memory is: pages, bytes, marks, writes. -/
structure Mm where
  n : Nat
  f : Nat → UInt8
  d : Nat → Bool
  wr : Int
  dc : Nat
  pc : Nat → Nat

def pgV : Option Nat → Value
  | none => .slice none 0 0
  | some k => .slice (some ⟨k, 0, none⟩) 4096 4096
def pgC : Option Nat → Nat → Value
  | none, _ => .slice none 0 0
  | some k, c => .slice (some ⟨k, 0, none⟩) 4096 c
def bit01 (b : Bool) : Int := if b then 1 else 0
def ramRow (gp gd n dc : Nat) (wr : Int) (bl : Option Nat) : Array Value :=
  #[.slice (some ⟨gp, 0, none⟩) n n, .slice (some ⟨gd, 0, none⟩) n dc, .int .i64 wr, .int .u32 (if bl.isSome then 1 else 0), .int .i32 0, .int .u32 0, pgV bl]
def PageAt (W : World) (k : Nat) (h : Nat → UInt8) : Prop := ∃ c : Array Value, W.heap[k]? = some (.cells c 5 (0, 0)) ∧ 4096 ≤ c.size ∧ ∀ j, j < 4096 → c[j]? = some (B8 (h j))
structure RamAt (W : World) (g gp gd : Nat) (pg : Nat → Option Nat) (bl : Option Nat) (m : Mm) : Prop where
  n1 : 1 ≤ m.n
  n2 : m.n ≤ 16384
  r : W.heap[g]? = some (.cells (ramRow gp gd m.n m.dc m.wr bl) 159 (0, 0))
  p : ∃ c : Array Value, W.heap[gp]? = some (.cells c 136 (0, 0)) ∧ c.size = m.n ∧ ∀ i, i < m.n → c[i]? = some (pgC (pg i) (m.pc i))
  q : ∃ c : Array Value, W.heap[gd]? = some (.cells c 3 (0, 0)) ∧ m.n ≤ c.size ∧ ∀ i, i < m.n → c[i]? = some (.int .i64 (bit01 (m.d i)))
  pb : ∀ i k, i < m.n → pg i = some k → PageAt W k (fun j => m.f (4096 * i + j))
  pz : ∀ i, i < m.n → pg i = none → ∀ j, j < 4096 → m.f (4096 * i + j) = 0
  bz : ∀ k, bl = some k → PageAt W k (fun _ => 0)
  inj : ∀ i j k, i < m.n → j < m.n → pg i = some k → pg j = some k → i = j
  nb : ∀ i k, i < m.n → pg i = some k → bl ≠ some k
  dl : m.n ≤ m.dc
  pl : ∀ i, i < m.n → 4096 ≤ m.pc i
  pn : ∀ i, i < m.n → pg i = none → m.pc i = 4096
/-- Its blocks. -/
def RamFoot (g gp gd n : Nat) (pg : Nat → Option Nat) (bl : Option Nat) (k : Nat) : Prop := k = g ∨ k = gp ∨ k = gd ∨ bl = some k ∨ ∃ i, i < n ∧ pg i = some k
/-- Memory at g; its blocks are among F. -/
def RamIs (W : World) (g : Nat) (m : Mm) (F : Nat → Prop) : Prop := ∃ gp gd pg bl, RamAt W g gp gd pg bl m ∧ (∀ k, RamFoot g gp gd m.n pg bl k → F k) ∧ ∀ k, F k → k < W.heap.size

theorem PageAt.keep {W W' : World} {k : Nat} {h : Nat → UInt8} (hp : PageAt W k h) (he : W'.heap[k]? = W.heap[k]?) : PageAt W' k h := by
  obtain ⟨c, h1, h2, h3⟩ := hp
  exact ⟨c, he.trans h1, h2, h3⟩
theorem PageAt.lt {W : World} {k : Nat} {h : Nat → UInt8} (hp : PageAt W k h) : k < W.heap.size := by
  obtain ⟨c, h1, _⟩ := hp
  exact lt_heap h1
theorem RamAt.lt {W : World} {g gp gd : Nat} {pg : Nat → Option Nat} {bl : Option Nat} {m : Mm} (h : RamAt W g gp gd pg bl m) {k : Nat} (hk : RamFoot g gp gd m.n pg bl k) : k < W.heap.size := by
  rcases hk with rfl | rfl | rfl | hb | ⟨i, hi, hp⟩
  · exact lt_heap h.r
  · obtain ⟨c, hc, _⟩ := h.p; exact lt_heap hc
  · obtain ⟨c, hc, _⟩ := h.q; exact lt_heap hc
  · exact (h.bz _ hb).lt
  · exact (h.pb i _ hi hp).lt
theorem RamAt.keep {W W' : World} {g gp gd : Nat} {pg : Nat → Option Nat} {bl : Option Nat} {m : Mm} (h : RamAt W g gp gd pg bl m) (he : ∀ k, RamFoot g gp gd m.n pg bl k → W'.heap[k]? = W.heap[k]?) : RamAt W' g gp gd pg bl m where
  n1 := h.n1
  n2 := h.n2
  r := (he g (.inl rfl)).trans h.r
  p := by
    obtain ⟨c, h1, h2⟩ := h.p
    exact ⟨c, (he gp (.inr (.inl rfl))).trans h1, h2⟩
  q := by
    obtain ⟨c, h1, h2⟩ := h.q
    exact ⟨c, (he gd (.inr (.inr (.inl rfl)))).trans h1, h2⟩
  pb := fun i k hi hk => (h.pb i k hi hk).keep (he k (.inr (.inr (.inr (.inr ⟨i, hi, hk⟩)))))
  pz := h.pz
  bz := fun k hk => (h.bz k hk).keep (he k (.inr (.inr (.inr (.inl hk)))))
  inj := h.inj
  nb := h.nb
  dl := h.dl
  pl := h.pl
  pn := h.pn
theorem RamIs.keep {W W' : World} {g : Nat} {m : Mm} {F : Nat → Prop} (h : RamIs W g m F) (hs : W.heap.size ≤ W'.heap.size) (he : ∀ k, k < W.heap.size → F k → W'.heap[k]? = W.heap[k]?) : RamIs W' g m F := by
  obtain ⟨gp, gd, pg, bl, h1, h2, h3⟩ := h
  exact ⟨gp, gd, pg, bl, h1.keep (fun k hk => he k (h1.lt hk) (h2 k hk)), h2, fun k hk => Nat.lt_of_lt_of_le (h3 k hk) hs⟩
theorem RamIs.kx {W W' : World} {g : Nat} {m : Mm} {F X : Nat → Prop} (h : RamIs W g m F) (hk : KX X W W') (hx : ∀ k, k < W.heap.size → F k → ¬ X k) : RamIs W' g m F :=
  h.keep hk.size (fun k hl hf => hk.block k hl (hx k hl hf))
theorem RamIs.below {W W' : World} {g : Nat} {m : Mm} {F : Nat → Prop} (h : RamIs W g m F) (hb : Below W.heap.size W W') : RamIs W' g m F :=
  h.keep hb.size (fun k hl _ => hb.block k hl)
theorem RamIs.lt {W : World} {g : Nat} {m : Mm} {F : Nat → Prop} (h : RamIs W g m F) : ∀ k, F k → k < W.heap.size := by
  obtain ⟨gp, gd, pg, bl, h1, h2, h3⟩ := h
  exact h3
theorem RamIs.n1 {W : World} {g : Nat} {m : Mm} {F : Nat → Prop} (h : RamIs W g m F) : 1 ≤ m.n := by
  obtain ⟨gp, gd, pg, bl, h1, h2, h3⟩ := h
  exact h1.n1
theorem RamIs.n2 {W : World} {g : Nat} {m : Mm} {F : Nat → Prop} (h : RamIs W g m F) : m.n ≤ 16384 := by
  obtain ⟨gp, gd, pg, bl, h1, h2, h3⟩ := h
  exact h1.n2
theorem RamIs.fg {W : World} {g : Nat} {m : Mm} {F : Nat → Prop} (h : RamIs W g m F) : F g := by
  obtain ⟨gp, gd, pg, bl, h1, h2, h3⟩ := h
  exact h2 _ (.inl rfl)
end Go.Proofs.YtcmbnkmbaghkdaaDoor
namespace Go.Proofs.YtcmbnkmbaghkdaaDoor
open Go.RowKit

theorem append_types {P : Program} {t tx e e' : TypeId} (ht : P.underlying t = some (.slice e)) (hx : P.underlying tx = some (.slice e')) (ty : TypeId) (v x : Value) (w : World) :
    (Builtin.append_ #[t, tx] ty #[v, x]).run P w = (Builtin.append_ #[t, t] ty #[v, x]).run P w := by
  cases v <;> simp [Builtin.append_, run_underlying ht, run_underlying hx]

theorem wpList_append_tx {P : Program} {w : World} {ops : Array Oper} {rest : List Oper} {o : Oper} {a : Act} {Q : Exit → Act → World → Prop} (hgd : o.guard = none) (s x : Operand) (t tx : TypeId)
    (ho : o.op = .call { callee := .builtin .append, args := #[s, x], argTypes := #[t, tx] })
    (base : Nat) (e e' : TypeId) (i : TypeInfo) (z : Value) (size bytes : Nat) (ht : P.underlying t = some (.slice e)) (htx : P.underlying tx = some (.slice e')) (hi : P.info? e = some i) (hz : i.zero = some z)
    (hsize : i.size = size) (hby : i.bytes = bytes) (hzs : z.cells.size = size) (hsz : 0 < size)
    (v : Value) (n : Nat) (xs : List Value) (hs : a.eval s = v) (hown : w.ownsRow base e size v n xs)
    (ad : Addr) (m c : Nat) (news : List Value) (hx : a.eval x = .slice (some ad) m c) (hl : news.length = m * size) (hnews : ∀ j u, news[j]? = some u → w.cell? (ad.add j) = some u) (h1 : ∀ u ∈ news, u.oneCell' = true)
    (h63 : n + m ≤ maxLen) (hbytes : (n + m) * bytes ≤ 140737488355328) (hbase : base ≤ w.heap.size)
    (h : ∀ v' w', w'.ownsRow base e size v' (n + m) (xs ++ news) → w.grownBy w' v.ownBlock → (v'.ownBlock = v.ownBlock ∨ v'.ownBlock = some w.heap.size) → wpList P ops Q rest (a.put o.dst v') w') : wpList P ops Q (o :: rest) a w := by
  refine wpList_plain hgd fun K hK => ?_
  obtain ⟨v', w', hr, h2, h3, h4, h5⟩ := run_append_own_at (P := P) w base t o.type e i z size bytes ht hi hz hsize hby hzs hsz v n xs hown ad m c news hl hnews h1 h63 hbytes hbase
  rw [← append_types ht htx] at hr
  unfold Oper.wp execOp
  simp only [ho, resolve, invoke, builtin, Sem.run_bind, Sem.run_pure, Result.andThen_ok, List.map_toArray, List.map_cons, List.map_nil, hs, hx, hr]
  exact hK _ _ (h v' w' h2 h3 h5)
end Go.Proofs.YtcmbnkmbaghkdaaDoor
namespace Go.Proofs.YtcmbnkmbaghkdaaDoor
open Go.RowKit

theorem RamAt.c0 {W : World} {g gp gd : Nat} {pg : Nat → Option Nat} {bl : Option Nat} {m : Mm} (h : RamAt W g gp gd pg bl m) : W.cell? ⟨g, 0, none⟩ = some (.slice (some ⟨gp, 0, none⟩) m.n m.n) := (cell_of_row _ _ 0 _ _ _ h.r).trans rfl
theorem RamAt.c1 {W : World} {g gp gd : Nat} {pg : Nat → Option Nat} {bl : Option Nat} {m : Mm} (h : RamAt W g gp gd pg bl m) : W.cell? ⟨g, 1, none⟩ = some (.slice (some ⟨gd, 0, none⟩) m.n m.dc) := (cell_of_row _ _ 1 _ _ _ h.r).trans rfl
theorem RamAt.c2 {W : World} {g gp gd : Nat} {pg : Nat → Option Nat} {bl : Option Nat} {m : Mm} (h : RamAt W g gp gd pg bl m) : W.cell? ⟨g, 2, none⟩ = some (.int .i64 m.wr) := (cell_of_row _ _ 2 _ _ _ h.r).trans rfl
theorem RamAt.c3 {W : World} {g gp gd : Nat} {pg : Nat → Option Nat} {bl : Option Nat} {m : Mm} (h : RamAt W g gp gd pg bl m) : W.cell? ⟨g, 3, none⟩ = some (.int .u32 (if bl.isSome then 1 else 0)) := (cell_of_row _ _ 3 _ _ _ h.r).trans rfl
theorem RamAt.c4 {W : World} {g gp gd : Nat} {pg : Nat → Option Nat} {bl : Option Nat} {m : Mm} (h : RamAt W g gp gd pg bl m) : W.cell? ⟨g, 4, none⟩ = some (.int .i32 0) := (cell_of_row _ _ 4 _ _ _ h.r).trans rfl
theorem RamAt.c5 {W : World} {g gp gd : Nat} {pg : Nat → Option Nat} {bl : Option Nat} {m : Mm} (h : RamAt W g gp gd pg bl m) : W.cell? ⟨g, 5, none⟩ = some (.int .u32 0) := (cell_of_row _ _ 5 _ _ _ h.r).trans rfl
theorem RamAt.c6 {W : World} {g gp gd : Nat} {pg : Nat → Option Nat} {bl : Option Nat} {m : Mm} (h : RamAt W g gp gd pg bl m) : W.cell? ⟨g, 6, none⟩ = some (pgV bl) := (cell_of_row _ _ 6 _ _ _ h.r).trans rfl
theorem RamAt.fz {W : World} {g gp gd : Nat} {pg : Nat → Option Nat} {bl : Option Nat} {m : Mm} (h : RamAt W g gp gd pg bl m) (j : Nat) : W.frozen? ⟨g, j, none⟩ = false := frozen_of_row _ _ j _ _ h.r

theorem mem_Pages_nil (w : World) : Calls Tryd.prog 91 #[.pointer none] w fun e w' => e = .returned (.int .i64 0) ∧ w = w' := by
  go_enter Tryd.func91, Tryd.ntmps91
  go_wp2_with fail
  go_ret
  exact ⟨rfl, rfl⟩
theorem mem_Pages {g : Nat} {m : Mm} {F : Nat → Prop} {w : World} (h : RamIs w g m F) : Calls Tryd.prog 91 #[.pointer (some ⟨g, 0, none⟩)] w fun e w' => e = .returned (.int .i64 m.n) ∧ w = w' := by
  obtain ⟨gp, gd, pg, bl, h, _⟩ := h
  have c0 := h.c0
  clear h
  go_enter Tryd.func91, Tryd.ntmps91
  go_wp2_with fail
  go_ret
  exact ⟨rfl, rfl⟩

/-- What a place of so many bytes is answered. -/
def memErr (n a : Nat) (k : Int) : Nat := if k ≠ 1 ∧ k ≠ 2 ∧ k ≠ 4 then 21 else if 4096 * n < a + k.toNat then 4 else if a % k.toNat ≠ 0 then 5 else 0

theorem mem_check_wide {g : Nat} {m : Mm} {F : Nat → Prop} {w : World} (h : RamIs w g m F) (a : Nat) (k : Int) (h1 : k ≠ 1) (h2 : k ≠ 2) (h4 : k ≠ 4) :
    Calls Tryd.prog 59 #[.pointer (some ⟨g, 0, none⟩), .int .u32 a, .int .i64 k] w fun e w' => e = .returned (errV 21) ∧ w = w' := by
  have HP := Lib.hid (mem_Pages h)
  have b1 : (k != 1) = true := by simpa using h1
  have b2 : (k != 2) = true := by simpa using h2
  have b4 : (k != 4) = true := by simpa using h4
  clear h h1 h2 h4
  go_enter Tryd.func59, Tryd.ntmps59
  go_wp2_with fail
  refine (HP.out).mono ?_
  rintro e w' ⟨rfl, rfl⟩
  go_wp2_with fail
  go_ret
  exact ⟨rfl, rfl⟩
def okN (k : Nat) : Prop := k = 1 ∨ k = 2 ∨ k = 4
theorem mem_check_range {g : Nat} {m : Mm} {F : Nat → Prop} {w : World} (h : RamIs w g m F) (a k : Nat) (ha : a < 4294967296) (hk : okN k) (hs : 4096 * m.n < a + k) :
    Calls Tryd.prog 59 #[.pointer (some ⟨g, 0, none⟩), .int .u32 a, .int .i64 k] w fun e w' => e = .returned (errV 4) ∧ w = w' := by
  have HP := Lib.hid (mem_Pages h)
  have hn2 : m.n ≤ 16384 := by obtain ⟨_, _, _, _, h, _⟩ := h; exact h.n2
  clear h
  generalize m.n = n at HP hn2 hs ⊢
  rcases hk with rfl | rfl | rfl
  all_goals
    go_enter Tryd.func59, Tryd.ntmps59
    go_wp2_with fail
    refine (HP.out).mono ?_
    rintro e w' ⟨rfl, rfl⟩
    go_wp2_with fail
    go_ret
    exact ⟨rfl, rfl⟩
theorem mem_check_align {g : Nat} {m : Mm} {F : Nat → Prop} {w : World} (h : RamIs w g m F) (a k : Nat) (ha : a < 4294967296) (hk : okN k) (hs : a + k ≤ 4096 * m.n) (hr : a % k ≠ 0) :
    Calls Tryd.prog 59 #[.pointer (some ⟨g, 0, none⟩), .int .u32 a, .int .i64 k] w fun e w' => e = .returned (errV 5) ∧ w = w' := by
  have HP := Lib.hid (mem_Pages h)
  have hn2 : m.n ≤ 16384 := by obtain ⟨_, _, _, _, h, _⟩ := h; exact h.n2
  clear h
  generalize m.n = n at HP hn2 hs ⊢
  rcases hk with rfl | rfl | rfl
  · omega
  all_goals
    go_enter Tryd.func59, Tryd.ntmps59
    go_wp2_with fail
    refine (HP.out).mono ?_
    rintro e w' ⟨rfl, rfl⟩
    go_wp2_with fail
    go_ret
    exact ⟨rfl, rfl⟩
theorem mem_check_ok {g : Nat} {m : Mm} {F : Nat → Prop} {w : World} (h : RamIs w g m F) (a k : Nat) (ha : a < 4294967296) (hk : okN k) (hs : a + k ≤ 4096 * m.n) (hr : a % k = 0) :
    Calls Tryd.prog 59 #[.pointer (some ⟨g, 0, none⟩), .int .u32 a, .int .i64 k] w fun e w' => e = .returned .nilIface ∧ w = w' := by
  have HP := Lib.hid (mem_Pages h)
  have hn2 : m.n ≤ 16384 := by obtain ⟨_, _, _, _, h, _⟩ := h; exact h.n2
  clear h
  generalize m.n = n at HP hn2 hs ⊢
  rcases hk with rfl | rfl | rfl
  all_goals
    go_enter Tryd.func59, Tryd.ntmps59
    go_wp2_with fail
    refine (HP.out).mono ?_
    rintro e w' ⟨rfl, rfl⟩
    go_wp2_with fail
    go_ret
    exact ⟨rfl, rfl⟩

theorem mem_run_neg {g : Nat} (a : Nat) (k : Int) (w : World) (hk : k < 0) :
    Calls Tryd.prog 53 #[.pointer (some ⟨g, 0, none⟩), .int .u32 a, .int .i64 k] w fun e w' => e = .returned (errV 1) ∧ w = w' := by
  go_enter Tryd.func53, Tryd.ntmps53
  go_wp2_with fail
  go_ret
  exact ⟨rfl, rfl⟩
theorem mem_run_range {g : Nat} {m : Mm} {F : Nat → Prop} {w : World} (h : RamIs w g m F) (a k : Nat) (ha : a < 4294967296) (hk : k < 9223372036854775808) (hs : 4096 * m.n < a + k) :
    Calls Tryd.prog 53 #[.pointer (some ⟨g, 0, none⟩), .int .u32 a, .int .i64 k] w fun e w' => e = .returned (errV 4) ∧ w = w' := by
  have HP := Lib.hid (mem_Pages h)
  have hn2 : m.n ≤ 16384 := by obtain ⟨_, _, _, _, h, _⟩ := h; exact h.n2
  clear h
  generalize m.n = n at HP hn2 hs ⊢
  by_cases h1 : n * 4096 < k
  · go_enter Tryd.func53, Tryd.ntmps53
    go_wp2_with (refine (HP.out).mono ?_; rintro e w' ⟨rfl, rfl⟩)
    go_ret
    exact ⟨rfl, rfl⟩
  · go_enter Tryd.func53, Tryd.ntmps53
    go_wp2_with (refine (HP.out).mono ?_; rintro e w' ⟨rfl, rfl⟩)
    go_ret
    exact ⟨rfl, rfl⟩
theorem mem_run_ok {g : Nat} {m : Mm} {F : Nat → Prop} {w : World} (h : RamIs w g m F) (a k : Nat) (hs : a + k ≤ 4096 * m.n) :
    Calls Tryd.prog 53 #[.pointer (some ⟨g, 0, none⟩), .int .u32 a, .int .i64 k] w fun e w' => e = .returned .nilIface ∧ w = w' := by
  have HP := Lib.hid (mem_Pages h)
  have hn2 : m.n ≤ 16384 := by obtain ⟨_, _, _, _, h, _⟩ := h; exact h.n2
  clear h
  generalize m.n = n at HP hn2 hs ⊢
  have h1 : k ≤ n * 4096 := by omega
  go_enter Tryd.func53, Tryd.ntmps53
  go_wp2_with (refine (HP.out).mono ?_; rintro e w' ⟨rfl, rfl⟩)
  go_ret
  exact ⟨rfl, rfl⟩
end Go.Proofs.YtcmbnkmbaghkdaaDoor
namespace Go.Proofs.YtcmbnkmbaghkdaaDoor
open Go.RowKit

theorem race_disable (w : World) : (callFunc 142 #[]).run Tryd.prog w = .ok (.value (.tuple #[])) w := run_call_mark0 Tryd.func142 (by kernel_rfl) (by kernel_rfl) (by kernel_rfl) .disable (by kernel_rfl) w
theorem race_enable (w : World) : (callFunc 144 #[]).run Tryd.prog w = .ok (.value (.tuple #[])) w := run_call_mark0 Tryd.func144 (by kernel_rfl) (by kernel_rfl) (by kernel_rfl) .enable (by kernel_rfl) w
theorem race_acquire (a : Addr) (w : World) : (callFunc 145 #[.pointer (some a)]).run Tryd.prog w = .ok (.value (.tuple #[])) w := run_call_marked Tryd.func145 (by kernel_rfl) (by kernel_rfl) (by kernel_rfl) .acquire (by kernel_rfl) a w
theorem race_merge (a : Addr) (w : World) : (callFunc 147 #[.pointer (some a)]).run Tryd.prog w = .ok (.value (.tuple #[])) w := run_call_marked Tryd.func147 (by kernel_rfl) (by kernel_rfl) (by kernel_rfl) .releaseMerge (by kernel_rfl) a w

theorem bool_store_deferred (a : Addr) (x : Value) (u : FrameMode) (w : World) (hc : w.cell? a = some x) (hz : w.frozen? a = false) :
    CallsD Tryd.prog 137 #[.pointer (some a), .bool true] u w fun e u' w' => u' = u ∧ (e = .returned (.tuple #[]) ∧ w' = w.drew.setCell a (.int .u32 1)) := by
  have hc' : w.drew.cell? a = some x := by go_simp
  have hz' : w.drew.frozen? a = false := by go_simp
  have hst := run_call_store (P := Tryd.prog) Tryd.func140 (by kernel_rfl) (by kernel_rfl) (by kernel_rfl) (by kernel_rfl) (k := .u32) (y := 1) hc' hz'
  go_enter_d Tryd.func137, Tryd.ntmps137
  go_wp2
  go_region_calls
  all_goals (go_end0; exact ⟨rfl, rfl⟩)

set_option maxRecDepth 100000 in
theorem unlock_deferred (a : Addr) (u : FrameMode) (w : World) (hc : w.cell? a = some (.int .i32 1)) (hz : w.frozen? a = false) :
    CallsD Tryd.prog 136 #[.pointer (some a)] u w fun e u' w' => u' = u ∧ (e = .returned (.tuple #[]) ∧ w' = w.setCell a (.int .i32 0)) := by
  have hd := race_disable
  have he := race_enable
  have hr := race_merge
  have hadd := run_call_add (P := Tryd.prog) Tryd.func148 (by kernel_rfl) (by kernel_rfl) (by kernel_rfl) .i32 (by kernel_rfl) (y := -1) (s := 0) hc hz (by simp [go_sem]; rfl)
  have hcv := run_convert_to_unsafe (P := Tryd.prog) (src := 284) (dst := 176) Tryd.underlying284 Tryd.underlying176 (by kernel_rfl) hc
  go_enter_d Tryd.func136, Tryd.ntmps136
  go_wp2
  go_end0
  go_wp2
  go_end0
  exact ⟨rfl, rfl⟩

set_option maxRecDepth 100000 in
theorem lock_free (a : Addr) (w : World) (hc : w.cell? a = some (.int .i32 0)) (hz : w.frozen? a = false) :
    Calls Tryd.prog 135 #[.pointer (some a)] w fun e w' => e = .returned (.tuple #[]) ∧ w' = w.setCell a (.int .i32 1) := by
  have hd := race_disable
  have he := race_enable
  have ha := race_acquire
  have hcas := run_call_cas_hit (P := Tryd.prog) Tryd.func143 (by kernel_rfl) (by kernel_rfl) (by kernel_rfl) .i32 (by kernel_rfl) (y := 1) hc hz
  have hc' : (w.setCell a (.int .i32 1)).cell? a = some (.int .i32 1) := World.cell?_setCell_same w a _ hc
  have hcv := run_convert_to_unsafe (P := Tryd.prog) (src := 284) (dst := 176) Tryd.underlying284 Tryd.underlying176 (by kernel_rfl) hc'
  go_enter Tryd.func135, Tryd.ntmps135
  go_wp2
  first | go_end0 | (simp only [Exit.inBlock, Exit.then]; refine bodyPost_ret (results_none rfl _ _ _) rfl ?_) | refine bodyPost_ret (results_none rfl _ _ _) rfl ?_
  go_wp2
  go_end0
  exact ⟨rfl, rfl⟩

/-- A page of noughts as make lays it. -/
def zeroPage : Array Value := madeCells #[.int .u8 0] 4096
theorem zeroPage_size : zeroPage.size = 4096 := size_madeCells _ _
theorem zeroPage_get {j : Nat} (hj : j < 4096) : zeroPage[j]? = some (B8 0) := by
  unfold zeroPage madeCells
  simp [hj, B8, Nat.mod_one]
theorem info_of {t : TypeId} {z : Value} {s b : Nat} (h : (Tryd.prog.info? t).map (fun i => (i.zero, i.size, i.bytes)) = some (some z, s, b)) : ∃ i, Tryd.prog.info? t = some i ∧ i.zero = some z ∧ i.size = s ∧ i.bytes = b := by
  cases hq : Tryd.prog.info? t with
  | none => rw [hq] at h; cases h
  | some i =>
    rw [hq] at h
    simp only [Option.map_some, Option.some.injEq, Prod.mk.injEq] at h
    exact ⟨i, rfl, h.1, h.2.1, h.2.2⟩
theorem info_u8 : (Tryd.prog.info? 5).map (fun i => (i.zero, i.size, i.bytes)) = some (some (.int .u8 0), 1, 1) := by kernel_rfl
theorem info_int : (Tryd.prog.info? 3).map (fun i => (i.zero, i.size, i.bytes)) = some (some (.int .i64 0), 1, 8) := by kernel_rfl
theorem info_page : (Tryd.prog.info? 136).map (fun i => (i.zero, i.size, i.bytes)) = some (some (.slice none 0 0), 1, 24) := by kernel_rfl
theorem make_page (w : World) : (Instr.makeSlice 136 (.int .i64 4096) (.int .i64 4096)).run Tryd.prog w = .ok (.slice (some ⟨w.heap.size, 0, none⟩) 4096 4096) (w.alloc (.cells zeroPage 5)) := by
  obtain ⟨i, hi, hz, hs, hb⟩ := info_of info_u8
  have h := run_make (P := Tryd.prog) w 136 5 i _ Tryd.underlying136 hi hz .i64 .i64 4096 4096 (by omega) (by omega) (by rw [hb]; omega) (by omega)
  rw [hs] at h
  exact h
end Go.Proofs.YtcmbnkmbaghkdaaDoor
namespace Go.Proofs.YtcmbnkmbaghkdaaDoor
open Go.RowKit

/-- The world behind the closure's run. -/
def blanked (w : World) (g : Nat) : World := (w.setCell ⟨g, 6, none⟩ (.slice (some ⟨w.heap.size, 0, none⟩) 4096 4096)).alloc (.cells zeroPage 5)
set_option maxRecDepth 100000 in
set_option maxHeartbeats 1600000 in
theorem noughts_fn (g : Nat) (q : Nat) (x : Value) (w : World) (hg : g < w.heap.size) (hq : q < w.heap.size) (hp : w.cell? ⟨q, 0, none⟩ = some (.pointer (some ⟨g, 0, none⟩))) (h6 : w.cell? ⟨g, 6, none⟩ = some x) (f6 : w.frozen? ⟨g, 6, none⟩ = false) :
    Calls Tryd.prog 119 #[.pointer (some ⟨q, 0, none⟩)] w fun e w' => e = .returned (.tuple #[]) ∧ w' = (blanked w g).drew := by
  have hm := make_page
  have p7 : (w.alloc (.cells zeroPage 5)).cell? ⟨q, 0, none⟩ = some (.pointer (some ⟨g, 0, none⟩)) := (World.cell?_alloc_past _ _ _ hq).trans hp
  have n6 : (w.alloc (.cells zeroPage 5)).cell? ⟨g, 6, none⟩ = some x := (World.cell?_alloc_past _ _ _ hg).trans h6
  have n7 : (w.alloc (.cells zeroPage 5)).frozen? ⟨g, 6, none⟩ = false := (World.frozen?_alloc_past _ _ _ hg).trans f6
  go_enter Tryd.func119, Tryd.ntmps119
  go_wp2
  go_region
  all_goals (go_end0; exact ⟨rfl, rfl⟩)

theorem blanked_cell {w : World} {g j : Nat} (hg : g < w.heap.size) (hj : j ≠ 6) : (blanked w g).cell? ⟨g, j, none⟩ = w.cell? ⟨g, j, none⟩ := by
  unfold blanked
  rw [World.cell?_alloc_past _ _ _ (by simpa [World.setCell] using hg)]
  exact World.cell?_setCell_other _ _ _ _ (fun e => hj (by have := congrArg Addr.off e; simp at this; omega))
theorem blanked_frozen {w : World} {g j : Nat} (hg : g < w.heap.size) : (blanked w g).frozen? ⟨g, j, none⟩ = w.frozen? ⟨g, j, none⟩ := by
  unfold blanked
  rw [World.frozen?_alloc_past _ _ _ (by simpa [World.setCell] using hg)]
  simp

set_option maxRecDepth 100000 in
set_option maxHeartbeats 1600000 in
theorem slow_once (g q : Nat) (x : Value) (w : World) (hgq : ¬ g = q) (hg : g < w.heap.size) (hq : q < w.heap.size) (hp : w.cell? ⟨q, 0, none⟩ = some (.pointer (some ⟨g, 0, none⟩)))
    (h3 : w.cell? ⟨g, 3, none⟩ = some (.int .u32 0)) (h4 : w.cell? ⟨g, 4, none⟩ = some (.int .i32 0)) (h6 : w.cell? ⟨g, 6, none⟩ = some x)
    (f3 : w.frozen? ⟨g, 3, none⟩ = false) (f4 : w.frozen? ⟨g, 4, none⟩ = false) (f6 : w.frozen? ⟨g, 6, none⟩ = false) :
    Calls Tryd.prog 131 #[.pointer (some ⟨g, 3, none⟩), .func (.func 119) #[] #[.pointer (some ⟨q, 0, none⟩)]] w fun e w' => e = .returned (.tuple #[]) ∧
      w' = ((blanked (w.setCell ⟨g, 4, none⟩ (.int .i32 1)) g).drew.drew.setCell ⟨g, 3, none⟩ (.int .u32 1)).setCell ⟨g, 4, none⟩ (.int .i32 0) := by
  have hl := run_call_load (P := Tryd.prog) Tryd.func134 (by kernel_rfl) (by kernel_rfl) (by kernel_rfl) .u32 (by kernel_rfl) (w := w.setCell ⟨g, 4, none⟩ (.int .i32 1)) (a := ⟨g, 3, none⟩) (x := 0) ((World.cell?_setCell_other _ ⟨g, 4, none⟩ ⟨g, 3, none⟩ _ (by simp)).trans h3)
  have hp1 : (w.setCell ⟨g, 4, none⟩ (.int .i32 1)).cell? ⟨q, 0, none⟩ = some (.pointer (some ⟨g, 0, none⟩)) := (World.cell?_setCell_other _ ⟨g, 4, none⟩ ⟨q, 0, none⟩ _ (fun h => hgq (by simpa using congrArg Addr.block h))).trans hp
  have h61 : (w.setCell ⟨g, 4, none⟩ (.int .i32 1)).cell? ⟨g, 6, none⟩ = some x := (World.cell?_setCell_other _ ⟨g, 4, none⟩ ⟨g, 6, none⟩ _ (by simp)).trans h6
  have f61 : (w.setCell ⟨g, 4, none⟩ (.int .i32 1)).frozen? ⟨g, 6, none⟩ = false := by simp [f6]
  have hnot : ∀ (x : Bool) (w : World), (Op.unary .not (.bool x)).run Tryd.prog w = .ok (.bool (!x)) w := fun _ _ => rfl
  have HN := Lib.hid (noughts_fn g q x _ (by simpa [World.setCell] using hg) (by simpa [World.setCell] using hq) hp1 h61 f61)
  have HL := Lib.hid (lock_free ⟨g, 4, none⟩ w h4 f4)
  have hs1 : (blanked (w.setCell ⟨g, 4, none⟩ (.int .i32 1)) g).drew.cell? ⟨g, 3, none⟩ = some (.int .u32 0) := (blanked_cell (by simpa [World.setCell] using hg) (by omega)).trans ((World.cell?_setCell_other _ ⟨g, 4, none⟩ ⟨g, 3, none⟩ _ (by simp)).trans h3)
  have hs2 : ((blanked (w.setCell ⟨g, 4, none⟩ (.int .i32 1)) g).drew.drew.setCell ⟨g, 3, none⟩ (.int .u32 1)).cell? ⟨g, 4, none⟩ = some (.int .i32 1) := (World.cell?_setCell_other _ ⟨g, 3, none⟩ ⟨g, 4, none⟩ _ (by simp)).trans ((blanked_cell (by simpa [World.setCell] using hg) (by omega)).trans (World.cell?_setCell_same w _ _ h4))
  have hz1 : (blanked (w.setCell ⟨g, 4, none⟩ (.int .i32 1)) g).drew.frozen? ⟨g, 3, none⟩ = false := (blanked_frozen (by simpa [World.setCell] using hg)).trans (by simp [f3])
  have hz2 : ((blanked (w.setCell ⟨g, 4, none⟩ (.int .i32 1)) g).drew.drew.setCell ⟨g, 3, none⟩ (.int .u32 1)).frozen? ⟨g, 4, none⟩ = false := by
    rw [World.frozen?_setCell]
    exact (blanked_frozen (by simpa [World.setCell] using hg)).trans (by simp [f4])
  have HS1 := Lib.hid hs1
  have HS2 := Lib.hid hs2
  have HZ1 := Lib.hid hz1
  have HZ2 := Lib.hid hz2
  clear hs1 hs2 hz1 hz2
  go_enter_defers Tryd.func131, Tryd.ntmps131
  go_wp2_with (first | (refine (HL.out).mono ?_; rintro e w' ⟨rfl, rfl⟩) | (refine (HN.out).mono ?_; rintro e w' ⟨rfl, rfl⟩) | (go_at_call 130; go_in))
  refine leaves_cons (f := 137) (args := #[.pointer (some ⟨g, 3, none⟩), .bool true]) (by simp) (by simp [go_sem]) ?_
  refine (bool_store_deferred ⟨g, 3, none⟩ (.int .u32 0) .returning _ HS1.out HZ1.out).mono ?_
  rintro e u' w'' ⟨rfl, rfl, rfl⟩
  refine leaves_cons (f := 136) (args := #[.pointer (some ⟨g, 4, none⟩)]) (by simp [settle]) (by simp [go_sem]) ?_
  refine (unlock_deferred ⟨g, 4, none⟩ _ _ HS2.out HZ2.out).mono ?_
  rintro e u' w'' ⟨rfl, rfl, rfl⟩
  simp [Leaves, settle, results, Tryd.results131]

set_option maxRecDepth 100000 in
set_option maxHeartbeats 1600000 in
theorem once_first (g q : Nat) (x : Value) (w : World) (hgq : ¬ g = q) (hg : g < w.heap.size) (hq : q < w.heap.size) (hp : w.cell? ⟨q, 0, none⟩ = some (.pointer (some ⟨g, 0, none⟩)))
    (h3 : w.cell? ⟨g, 3, none⟩ = some (.int .u32 0)) (h4 : w.cell? ⟨g, 4, none⟩ = some (.int .i32 0)) (h6 : w.cell? ⟨g, 6, none⟩ = some x)
    (f3 : w.frozen? ⟨g, 3, none⟩ = false) (f4 : w.frozen? ⟨g, 4, none⟩ = false) (f6 : w.frozen? ⟨g, 6, none⟩ = false) :
    Calls Tryd.prog 118 #[.pointer (some ⟨g, 3, none⟩), .func (.func 119) #[] #[.pointer (some ⟨q, 0, none⟩)]] w fun e w' => e = .returned (.tuple #[]) ∧
      w' = ((blanked (w.setCell ⟨g, 4, none⟩ (.int .i32 1)) g).drew.drew.setCell ⟨g, 3, none⟩ (.int .u32 1)).setCell ⟨g, 4, none⟩ (.int .i32 0) := by
  have hl := run_call_load (P := Tryd.prog) Tryd.func134 (by kernel_rfl) (by kernel_rfl) (by kernel_rfl) .u32 (by kernel_rfl) h3
  have hnot : ∀ (x : Bool) (w : World), (Op.unary .not (.bool x)).run Tryd.prog w = .ok (.bool (!x)) w := fun _ _ => rfl
  have HS := Lib.hid (slow_once g q x w hgq hg hq hp h3 h4 h6 f3 f4 f6)
  go_enter Tryd.func118, Tryd.ntmps118
  go_wp2_with (first | (refine (HS.out).mono ?_; rintro e w' ⟨rfl, rfl⟩) | (go_at_call 130; go_in))
  go_end0
  exact ⟨rfl, rfl⟩
theorem once_again (a : Addr) (fv : Value) (w : World) (h0 : w.cell? a = some (.int .u32 1)) :
    Calls Tryd.prog 118 #[.pointer (some a), fv] w fun e w' => e = .returned (.tuple #[]) ∧ w' = w := by
  have hl := run_call_load (P := Tryd.prog) Tryd.func134 (by kernel_rfl) (by kernel_rfl) (by kernel_rfl) .u32 (by kernel_rfl) h0
  have hnot : ∀ (x : Bool) (w : World), (Op.unary .not (.bool x)).run Tryd.prog w = .ok (.bool (!x)) w := fun _ _ => rfl
  go_enter Tryd.func118, Tryd.ntmps118
  go_wp2
  go_end0
  exact ⟨rfl, rfl⟩
end Go.Proofs.YtcmbnkmbaghkdaaDoor
namespace Go.Proofs.YtcmbnkmbaghkdaaDoor
open Go.RowKit

theorem set_cells {w : World} {g i : Nat} {cs : Array Value} {t : TypeId} {v : Value} (h : w.heap[g]? = some (.cells cs t (0, 0))) : (w.setCell ⟨g, i, none⟩ v).heap[g]? = some (.cells (cs.setIfInBounds i v) t (0, 0)) := by
  have := heap_setCell_same w g i cs t v h
  simpa using this
/-- What lies at g behind the first call. -/
theorem once_row {w : World} {g gp gd n dc : Nat} {wr : Int} (hr : w.heap[g]? = some (.cells (ramRow gp gd n dc wr none) 159 (0, 0))) :
    (((blanked (w.setCell ⟨g, 4, none⟩ (.int .i32 1)) g).drew.drew.setCell ⟨g, 3, none⟩ (.int .u32 1)).setCell ⟨g, 4, none⟩ (.int .i32 0)).heap[g]? = some (.cells (ramRow gp gd n dc wr (some w.heap.size)) 159 (0, 0)) := by
  have h1 := set_cells (i := 4) (v := .int .i32 1) hr
  have h2 := set_cells (i := 6) (v := .slice (some ⟨w.heap.size, 0, none⟩) 4096 4096) h1
  have e : (w.setCell ⟨g, 4, none⟩ (.int .i32 1)).heap.size = w.heap.size := by simp [World.setCell]
  have h3 : (blanked (w.setCell ⟨g, 4, none⟩ (.int .i32 1)) g).drew.drew.heap[g]? = some (.cells (((ramRow gp gd n dc wr none).setIfInBounds 4 (.int .i32 1)).setIfInBounds 6 (.slice (some ⟨w.heap.size, 0, none⟩) 4096 4096)) 159 (0, 0)) := by
    show (blanked (w.setCell ⟨g, 4, none⟩ (.int .i32 1)) g).heap[g]? = _
    unfold blanked
    rw [e]
    exact (Below.heap_alloc _ _ _ (lt_heap h2)).trans h2
  have h4 := set_cells (i := 3) (v := .int .u32 1) h3
  have h5 := set_cells (i := 4) (v := .int .i32 0) h4
  rw [h5]
  rfl
theorem once_new {w : World} {g : Nat} (hg : g < w.heap.size) :
    (((blanked (w.setCell ⟨g, 4, none⟩ (.int .i32 1)) g).drew.drew.setCell ⟨g, 3, none⟩ (.int .u32 1)).setCell ⟨g, 4, none⟩ (.int .i32 0)).heap[w.heap.size]? = some (.cells zeroPage 5 (0, 0)) := by
  rw [heap_cell_other (by simp; omega), heap_cell_other (by simp; omega)]
  have e : ((w.setCell ⟨g, 4, none⟩ (.int .i32 1)).setCell ⟨g, 6, none⟩ (.slice (some ⟨w.heap.size, 0, none⟩) 4096 4096)).heap.size = w.heap.size := by simp [World.setCell]
  have e1 : (w.setCell ⟨g, 4, none⟩ (.int .i32 1)).heap.size = w.heap.size := by simp [World.setCell]
  show (blanked (w.setCell ⟨g, 4, none⟩ (.int .i32 1)) g).heap[w.heap.size]? = _
  unfold blanked
  have h := heap_alloc_new ((w.setCell ⟨g, 4, none⟩ (.int .i32 1)).setCell ⟨g, 6, none⟩ (.slice (some ⟨w.heap.size, 0, none⟩) 4096 4096)) (.cells zeroPage 5)
  rw [e] at h
  rw [e1]
  exact h
theorem once_kx {w : World} {g : Nat} :
    KX (fun k => k = g) w (((blanked (w.setCell ⟨g, 4, none⟩ (.int .i32 1)) g).drew.drew.setCell ⟨g, 3, none⟩ (.int .u32 1)).setCell ⟨g, 4, none⟩ (.int .i32 0)) :=
  ((((((KX.refl (fun k => k = g) w).setCell (p := ⟨g, 4, none⟩) (.inl rfl) _).setCell (p := ⟨g, 6, none⟩) (.inl rfl) _).alloc _).drew.drew.setCell (p := ⟨g, 3, none⟩) (.inl rfl) _).setCell (p := ⟨g, 4, none⟩) (.inl rfl) _)

set_option maxRecDepth 100000 in
set_option maxHeartbeats 1600000 in
/-- noughts: a page of noughts, the memory's own. -/
theorem mem_noughts {g gp gd : Nat} {pg : Nat → Option Nat} {bl : Option Nat} {m : Mm} {w : World} (h : RamAt w g gp gd pg bl m) :
    Calls Tryd.prog 92 #[.pointer (some ⟨g, 0, none⟩)] w fun e w' => ∃ k, e = .returned (.slice (some ⟨k, 0, none⟩) 4096 4096) ∧ RamAt w' g gp gd pg (some k) m ∧ KX (fun k => k = g) w w' ∧ (bl = some k ∨ w.heap.size ≤ k) := by
  have hg : g < w.heap.size := lt_heap h.r
  have hx := KX.refl (fun k => k = g) w
  cases bl with
  | none =>
    obtain ⟨W0, hW0⟩ : ∃ W0, W0 = w.alloc (.cells #[.pointer (some ⟨g, 0, none⟩)] 61) := ⟨_, rfl⟩
    have hb : Below w.heap.size w W0 := by rw [hW0]; exact (Below.refl _ _).alloc (Nat.le_refl _) _
    have hq : W0.heap[w.heap.size]? = some (.cells #[.pointer (some ⟨g, 0, none⟩)] 61 (0, 0)) := by rw [hW0]; exact heap_alloc_new _ _
    have h0 := h.keep (W' := W0) (fun k hk => hb.block k (h.lt hk))
    have hsz : W0.heap.size = w.heap.size + 1 := by rw [hW0]; simp
    have HD := Lib.hid (once_first g w.heap.size _ W0 (by omega) (by omega) (by omega) ((cell_of_row _ _ 0 _ _ _ hq).trans rfl) h0.c3 h0.c4 h0.c6 (h0.fz 3) (h0.fz 4) (h0.fz 6))
    have hr := once_row h0.r
    have hn := once_new (w := W0) (g := g) (by omega)
    have hk := once_kx (w := W0) (g := g)
    generalize (((blanked (W0.setCell ⟨g, 4, none⟩ (.int .i32 1)) g).drew.drew.setCell ⟨g, 3, none⟩ (.int .u32 1)).setCell ⟨g, 4, none⟩ (.int .i32 0)) = W1 at HD hr hn hk
    have hkx := (KX.of_below (X := fun k => k = g) hb).trans hk (fun _ _ h => h)
    have hlt := fun k hk => h.lt (k := k) hk
    have hne : ∀ k, RamFoot g gp gd m.n pg none k → k ≠ g → W1.heap[k]? = w.heap[k]? := fun k hk hn => hkx.block k (hlt k hk) hn
    have hgp : gp ≠ g := fun e => by
      obtain ⟨c, hc, _⟩ := h.p
      rw [e, h.r] at hc; injection hc with hc; injection hc with _ hc; exact absurd hc (by decide)
    have hgd : gd ≠ g := fun e => by
      obtain ⟨c, hc, _⟩ := h.q
      rw [e, h.r] at hc; injection hc with hc; injection hc with _ hc; exact absurd hc (by decide)
    have hpg : ∀ i k, i < m.n → pg i = some k → k ≠ g := fun i k hi hk e => by
      obtain ⟨c, hc, _⟩ := h.pb i k hi hk
      rw [e, h.r] at hc; injection hc with hc; injection hc with _ hc; exact absurd hc (by decide)
    rw [hsz] at hr
    have hR : RamAt W1 g gp gd pg (some W0.heap.size) m := {
      n1 := h.n1
      n2 := h.n2
      r := by rw [hsz]; exact hr
      p := by
        obtain ⟨c, hc, h2⟩ := h.p
        exact ⟨c, (hne gp (.inr (.inl rfl)) hgp).trans hc, h2⟩
      q := by
        obtain ⟨c, hc, h2⟩ := h.q
        exact ⟨c, (hne gd (.inr (.inr (.inl rfl))) hgd).trans hc, h2⟩
      pb := fun i k hi hk => (h.pb i k hi hk).keep (hne k (.inr (.inr (.inr (.inr ⟨i, hi, hk⟩)))) (hpg i k hi hk))
      pz := h.pz
      bz := fun k hk => by
        obtain rfl : W0.heap.size = k := by simpa using hk
        exact ⟨zeroPage, hn, by rw [zeroPage_size]; exact Nat.le_refl _, fun j hj => zeroPage_get hj⟩
      inj := h.inj
      nb := fun i k hi hk e => by
        have := (h.pb i k hi hk).lt
        obtain rfl : W0.heap.size = k := by simpa using e
        omega
      dl := h.dl
      pl := h.pl
      pn := h.pn }
    have HR := Lib.hid hR
    have HX := Lib.hid hkx
    have q0 : W1.cell? ⟨w.heap.size, 0, none⟩ = some (.pointer (some ⟨g, 0, none⟩)) := by
      have := hk.heap hq (by omega)
      exact (cell_of_row _ _ 0 _ _ _ this).trans rfl
    have p0 := (cell_of_row _ _ 0 _ _ _ hq).trans (rfl : _ = some (Value.pointer (some ⟨g, 0, none⟩)))
    have c6 : W1.cell? ⟨g, 6, none⟩ = some (.slice (some ⟨W0.heap.size, 0, none⟩) 4096 4096) := hR.c6
    have hmf : ∀ (fn : Fn) (first cap : Array Value) (w : World), (Instr.makeFunc fn first cap).run Tryd.prog w = .ok (.func fn first cap) w := fun _ _ _ _ => rfl
    have HS : Hid (w.heap.size ≤ W0.heap.size) := Lib.hid (by omega)
    have HW := Lib.hid hW0
    clear hx hb hq h h0 hr hn hk hkx hlt hne hgp hgd hpg hR hW0 hsz
    generalize W0.heap.size = k1 at HR c6 HS
    go_enter Tryd.func92, Tryd.ntmps92
    go_upto_region 1 with fail
    rw [← HW.out]
    clear HW
    go_wp2_with fail
    refine (HD.out).mono ?_
    rintro e w' ⟨rfl, rfl⟩
    go_wp2_with fail
    go_ret
    exact ⟨k1, rfl, HR.out, HX.out, .inr HS.out⟩
  | some k =>
    obtain ⟨W0, hW0⟩ : ∃ W0, W0 = w.alloc (.cells #[.pointer (some ⟨g, 0, none⟩)] 61) := ⟨_, rfl⟩
    have hb : Below w.heap.size w W0 := by rw [hW0]; exact (Below.refl _ _).alloc (Nat.le_refl _) _
    have hq : W0.heap[w.heap.size]? = some (.cells #[.pointer (some ⟨g, 0, none⟩)] 61 (0, 0)) := by rw [hW0]; exact heap_alloc_new _ _
    have h0 := Lib.hid (h.keep (W' := W0) (fun k hk => hb.block k (h.lt hk)))
    have hkx := Lib.hid (KX.of_below (X := fun k => k = g) hb)
    have HD := Lib.hid (once_again ⟨g, 3, none⟩ (.func (.func 119) #[] #[.pointer (some ⟨w.heap.size, 0, none⟩)]) W0 h0.out.c3)
    have q0 := (cell_of_row _ _ 0 _ _ _ hq).trans (rfl : _ = some (Value.pointer (some ⟨g, 0, none⟩)))
    have c6 : W0.cell? ⟨g, 6, none⟩ = some (.slice (some ⟨k, 0, none⟩) 4096 4096) := h0.out.c6
    have hmf : ∀ (fn : Fn) (first cap : Array Value) (w : World), (Instr.makeFunc fn first cap).run Tryd.prog w = .ok (.func fn first cap) w := fun _ _ _ _ => rfl
    clear hx hb hq h
    have HW := Lib.hid hW0
    clear hW0
    go_enter Tryd.func92, Tryd.ntmps92
    go_upto_region 1 with fail
    rw [← HW.out]
    clear HW
    go_wp2_with fail
    refine (HD.out).mono ?_
    rintro e w' ⟨rfl, rfl⟩
    go_wp2_with fail
    go_ret
    exact ⟨k, rfl, h0.out, hkx.out, .inl rfl⟩
end Go.Proofs.YtcmbnkmbaghkdaaDoor
namespace Go.Proofs.YtcmbnkmbaghkdaaDoor
open Go.RowKit

/-- What a call on memory leaves of the world. -/
structure MemStep (F F' : Nat → Prop) (w w' : World) : Prop where
  kx : KX F w w'
  gr : ∀ k, F' k → F k ∨ w.heap.size ≤ k
theorem MemStep.refl (F : Nat → Prop) (w : World) : MemStep F F w w := ⟨KX.refl _ _, fun _ h => .inl h⟩
theorem MemStep.trans {F F' F'' : Nat → Prop} {a b c : World} (h : MemStep F F' a b) (k : MemStep F' F'' b c) : MemStep F F'' a c :=
  ⟨h.kx.trans k.kx (fun i hi hf => (h.gr i hf).resolve_right (by omega)), fun i hi => by
    rcases k.gr i hi with h1 | h1
    · exact h.gr i h1
    · exact .inr (Nat.le_trans h.kx.size h1)⟩
theorem MemStep.heap {F F' : Nat → Prop} {w w' : World} (h : MemStep F F' w w') {k : Nat} {x : Obj} (hk : w.heap[k]? = some x) (hn : ¬ F k) : w'.heap[k]? = some x := h.kx.heap hk hn
theorem MemStep.off {F F' : Nat → Prop} {w w' : World} (h : MemStep F F' w w') {k : Nat} (hk : k < w.heap.size) (hn : ¬ F k) : ¬ F' k := fun e => (h.gr k e).elim hn (by omega)
theorem MemStep.drew {F F' : Nat → Prop} {w w' : World} (h : MemStep F F' w w') : MemStep F F' w w'.drew := ⟨h.kx.drew, h.gr⟩
theorem MemStep.below {F F' : Nat → Prop} {a w w' : World} (h : MemStep F F' a w) (hb : Below w.heap.size w w') : MemStep F F' a w' := ⟨h.kx.trans (KX.of_below (X := F) hb) (fun _ _ h => h), h.gr⟩
theorem MemStep.toBelow {F F' : Nat → Prop} {w w' : World} {B : Nat} (h : MemStep F F' w w') (hf : ∀ k, k < B → ¬ F k) (hB : B ≤ w.heap.size) : Below B w w' := h.kx.below hf hB

theorem ne_of_types {w : World} {a b : Nat} {c c' : Array Value} {t t' : TypeId} (h : w.heap[a]? = some (.cells c t (0, 0))) (h' : w.heap[b]? = some (.cells c' t' (0, 0))) (hn : t ≠ t') : a ≠ b := fun e => by
  subst e
  rw [h] at h'
  injection h' with h'
  injection h' with _ h' _
  exact hn h'

theorem RamAt.pcell {W : World} {g gp gd : Nat} {pg : Nat → Option Nat} {bl : Option Nat} {m : Mm} (h : RamAt W g gp gd pg bl m) {i : Nat} (hi : i < m.n) : W.cell? ⟨gp, i, none⟩ = some (pgC (pg i) (m.pc i)) := by
  obtain ⟨c, hc, _, h2⟩ := h.p
  exact (cell_of_row _ _ i _ _ _ hc).trans (h2 i hi)
theorem RamAt.pfz {W : World} {g gp gd : Nat} {pg : Nat → Option Nat} {bl : Option Nat} {m : Mm} (h : RamAt W g gp gd pg bl m) (i : Nat) : W.frozen? ⟨gp, i, none⟩ = false := by
  obtain ⟨c, hc, _, h2⟩ := h.p
  exact frozen_of_row _ _ i _ _ hc
theorem RamAt.qcell {W : World} {g gp gd : Nat} {pg : Nat → Option Nat} {bl : Option Nat} {m : Mm} (h : RamAt W g gp gd pg bl m) {i : Nat} (hi : i < m.n) : W.cell? ⟨gd, i, none⟩ = some (.int .i64 (bit01 (m.d i))) := by
  obtain ⟨c, hc, _, h2⟩ := h.q
  exact (cell_of_row _ _ i _ _ _ hc).trans (h2 i hi)
theorem RamAt.qfz {W : World} {g gp gd : Nat} {pg : Nat → Option Nat} {bl : Option Nat} {m : Mm} (h : RamAt W g gp gd pg bl m) (i : Nat) : W.frozen? ⟨gd, i, none⟩ = false := by
  obtain ⟨c, hc, _, h2⟩ := h.q
  exact frozen_of_row _ _ i _ _ hc

theorem slice_neq_nil (w : World) (a : Option Addr) (n c : Nat) : (binOp .neq 136 (.slice a n c) (.slice none 0 0)).run Tryd.prog w = .ok (.bool (!a.isNone)) w := run_neq_slice_nil_any (P := Tryd.prog) w 136 5 a n c 0 0 Tryd.underlying136
theorem slice_eql_nil (w : World) (a : Option Addr) (n c : Nat) : (binOp .eql 136 (.slice a n c) (.slice none 0 0)).run Tryd.prog w = .ok (.bool a.isNone) w := Lib.run_eql_slice_nil (P := Tryd.prog) w 136 5 a n c 0 0 Tryd.underlying136
set_option maxRecDepth 100000 in
set_option maxHeartbeats 1600000 in
theorem mem_at {g : Nat} {m : Mm} {F : Nat → Prop} {w : World} (h : RamIs w g m F) (i : Nat) (hi : i < m.n) :
    Calls Tryd.prog 54 #[.pointer (some ⟨g, 0, none⟩), .int .i64 i] w fun e w' => ∃ k c F', e = .returned (.slice (some ⟨k, 0, none⟩) 4096 c) ∧ 4096 ≤ c ∧ RamIs w' g m F' ∧ PageAt w' k (fun j => m.f (4096 * i + j)) ∧ MemStep F F' w w' ∧ F' k := by
  obtain ⟨gp, gd, pg, bl, h, hf, hlt⟩ := h
  have c0 := h.c0
  have p0 := h.pcell hi
  have hn := h.n2
  have hpl := h.pl i hi
  have hin : (i : Int) < (m.n : Int) := by omega
  have hi0 : (0 : Int) ≤ (i : Int) := by omega
  cases hpg : pg i with
  | some k =>
    rw [hpg] at p0
    simp only [pgC] at p0
    have HR := Lib.hid (show RamIs w g m F from ⟨gp, gd, pg, bl, h, hf, hlt⟩)
    have HP := Lib.hid (h.pb i k hi hpg)
    have HF : Hid (F k) := Lib.hid (hf k (.inr (.inr (.inr (.inr ⟨i, hi, hpg⟩)))))
    clear h hf hlt hpg
    have hne := slice_neq_nil
    go_enter Tryd.func54, Tryd.ntmps54
    go_wp2_with fail
    go_ret
    exact ⟨k, _, F, rfl, hpl, HR.out, HP.out, MemStep.refl _ _, HF.out⟩
  | none =>
    rw [hpg] at p0
    simp only [pgC] at p0
    have hz := h.pz i hi hpg
    have HN := Lib.hid (mem_noughts h)
    have HR : Hid (∀ k W, RamAt W g gp gd pg (some k) m → KX (fun k => k = g) w W → (bl = some k ∨ w.heap.size ≤ k) → ∃ F', RamIs W g m F' ∧ PageAt W k (fun j => m.f (4096 * i + j)) ∧ MemStep F F' w W ∧ F' k) := Lib.hid (fun k W hr hx hk => ⟨fun j => F j ∨ j = k, ⟨gp, gd, pg, some k, hr, fun j hj => by
        rcases hj with rfl | rfl | rfl | hb | hb
        · exact .inl (hf _ (.inl rfl))
        · exact .inl (hf _ (.inr (.inl rfl)))
        · exact .inl (hf _ (.inr (.inr (.inl rfl))))
        · exact .inr (Option.some.inj hb).symm
        · exact .inl (hf _ (.inr (.inr (.inr (.inr hb))))), fun j hj => by
        rcases hj with hj | rfl
        · exact Nat.lt_of_lt_of_le (hlt j hj) hx.size
        · exact (hr.bz _ rfl).lt⟩, by
        obtain ⟨c, h1, h2, h3⟩ := hr.bz k rfl
        exact ⟨c, h1, h2, fun j hj => by rw [h3 j hj]; show _ = some (B8 (m.f (4096 * i + j))); rw [hz j hj]⟩, ⟨hx.mono (fun j _ e => by subst e; exact hf _ (.inl rfl)), fun j hj => by
        rcases hj with hj | rfl
        · exact .inl hj
        · rcases hk with hk | hk
          · exact .inl (hf _ (.inr (.inr (.inr (.inl hk)))))
          · exact .inr hk⟩, .inr rfl⟩)
    clear h hf hlt hpg hz
    have hne := slice_neq_nil
    go_enter Tryd.func54, Tryd.ntmps54
    go_wp2_with fail
    refine (HN.out).mono ?_
    rintro e w' ⟨k, rfl, hr, hx, hk⟩
    obtain ⟨F', h1⟩ := HR.out k w' hr hx hk
    have H1 := Lib.hid h1
    clear h1 hr hx hk HR HN
    go_wp2_with fail
    go_ret
    exact ⟨k, 4096, F', rfl, Nat.le_refl _, H1.out⟩

def updD (d : Nat → Bool) (i : Nat) : Nat → Bool := fun j => if j = i then true else d j
def updP (pg : Nat → Option Nat) (i k : Nat) : Nat → Option Nat := fun j => if j = i then some k else pg j
def updF (f : Nat → UInt8) (a : Nat) (x : UInt8) : Nat → UInt8 := fun j => if j = a then x else f j
theorem set_get {c : Array Value} {i j : Nat} {v x : Value} (hi : i < c.size) (h : c[j]? = some x) : (c.setIfInBounds i v)[j]? = some (if j = i then v else x) := by
  by_cases e : j = i
  · subst e; rw [if_pos rfl]; simp [hi]
  · rw [if_neg e, Array.getElem?_setIfInBounds_ne (fun e' => e e'.symm)]; exact h
theorem RamAt.foot_ne {W : World} {g gp gd : Nat} {pg : Nat → Option Nat} {bl : Option Nat} {m : Mm} (h : RamAt W g gp gd pg bl m) :
    g ≠ gp ∧ g ≠ gd ∧ gp ≠ gd ∧ (∀ i k, i < m.n → pg i = some k → k ≠ g ∧ k ≠ gp ∧ k ≠ gd) ∧ (∀ k, bl = some k → k ≠ g ∧ k ≠ gp ∧ k ≠ gd) := by
  obtain ⟨cp, hp, _⟩ := h.p
  obtain ⟨cq, hq, _⟩ := h.q
  refine ⟨ne_of_types h.r hp (by decide), ne_of_types h.r hq (by decide), ne_of_types hp hq (by decide), fun i k hi hk => ?_, fun k hk => ?_⟩
  · obtain ⟨c, hc, _⟩ := h.pb i k hi hk
    exact ⟨ne_of_types hc h.r (by decide), ne_of_types hc hp (by decide), ne_of_types hc hq (by decide)⟩
  · obtain ⟨c, hc, _⟩ := h.bz k hk
    exact ⟨ne_of_types hc h.r (by decide), ne_of_types hc hp (by decide), ne_of_types hc hq (by decide)⟩
/-- A page is marked. -/
theorem RamAt.mark {W : World} {g gp gd : Nat} {pg : Nat → Option Nat} {bl : Option Nat} {m : Mm} (h : RamAt W g gp gd pg bl m) (i : Nat) :
    RamAt (W.setCell ⟨gd, i, none⟩ (.int .i64 1)) g gp gd pg bl { m with d := updD m.d i } := by
  obtain ⟨n1, n2, n3, n4, n5⟩ := h.foot_ne
  have ho : ∀ k, k ≠ gd → (W.setCell ⟨gd, i, none⟩ (.int .i64 1)).heap[k]? = W.heap[k]? := fun k hk => heap_cell_other hk
  exact {
    n1 := h.n1
    n2 := h.n2
    r := (ho g n2).trans h.r
    p := by
      obtain ⟨c, hc, h2⟩ := h.p
      exact ⟨c, (ho gp n3).trans hc, h2⟩
    q := by
      obtain ⟨c, hc, hs, h2⟩ := h.q
      refine ⟨_, set_cells hc, by simpa using hs, fun j hj => ?_⟩
      by_cases hi : i < c.size
      · rw [set_get hi (h2 j hj)]
        show _ = some (Value.int .i64 (bit01 (updD m.d i j)))
        unfold updD
        by_cases e : j = i
        · rw [if_pos e, if_pos e]; rfl
        · rw [if_neg e, if_neg e]
      · rw [Array.setIfInBounds_eq_of_size_le (by omega), h2 j hj]
        show _ = some (Value.int .i64 (bit01 (updD m.d i j)))
        unfold updD
        rw [if_neg (by have : j < m.n := hj; omega)]
    pb := fun i k hi hk => (h.pb i k hi hk).keep (ho k (n4 i k hi hk).2.2)
    pz := h.pz
    bz := fun k hk => (h.bz k hk).keep (ho k (n5 k hk).2.2)
    inj := h.inj
    nb := h.nb
    dl := h.dl
    pl := h.pl
    pn := h.pn }
/-- A page is made. -/
theorem RamAt.adopt {W : World} {g gp gd : Nat} {pg : Nat → Option Nat} {bl : Option Nat} {m : Mm} (h : RamAt W g gp gd pg bl m) {i k : Nat} (hi : i < m.n) (hk : W.heap[k]? = some (.cells zeroPage 5 (0, 0))) (hn : ¬ RamFoot g gp gd m.n pg bl k) (hpg : pg i = none) :
    RamAt (W.setCell ⟨gp, i, none⟩ (.slice (some ⟨k, 0, none⟩) 4096 4096)) g gp gd (updP pg i k) bl m := by
  obtain ⟨n1, n2, n3, n4, n5⟩ := h.foot_ne
  have ho : ∀ k', k' ≠ gp → (W.setCell ⟨gp, i, none⟩ (.slice (some ⟨k, 0, none⟩) 4096 4096)).heap[k']? = W.heap[k']? := fun k' hk => heap_cell_other hk
  have hkp : k ≠ gp := fun e => hn (.inr (.inl e))
  have hpz := h.pz i hi hpg
  have hup : ∀ j k', j < m.n → updP pg i k j = some k' → (j = i ∧ k' = k) ∨ (j ≠ i ∧ pg j = some k') := fun j k' _ hj => by
    unfold updP at hj
    by_cases e : j = i
    · rw [if_pos e] at hj; exact .inl ⟨e, (Option.some.inj hj).symm⟩
    · rw [if_neg e] at hj; exact .inr ⟨e, hj⟩
  exact {
    n1 := h.n1
    n2 := h.n2
    r := (ho g n1).trans h.r
    p := by
      obtain ⟨c, hc, hs, h2⟩ := h.p
      refine ⟨_, set_cells hc, by simpa using hs, fun j hj => ?_⟩
      rw [set_get (by omega) (h2 j hj)]
      unfold updP
      by_cases e : j = i
      · rw [if_pos e, if_pos e, e, h.pn i hi hpg]; rfl
      · rw [if_neg e, if_neg e]
    q := by
      obtain ⟨c, hc, h2⟩ := h.q
      exact ⟨c, (ho gd (Ne.symm n3)).trans hc, h2⟩
    pb := fun j k' hj hk' => by
      rcases hup j k' hj hk' with ⟨rfl, rfl⟩ | ⟨_, hp⟩
      · exact ⟨zeroPage, (ho _ hkp).trans hk, by rw [zeroPage_size]; exact Nat.le_refl _, fun x hx => by rw [zeroPage_get hx]; show _ = some (B8 (m.f (4096 * j + x))); rw [hpz x hx]⟩
      · exact (h.pb j k' hj hp).keep (ho k' (n4 j k' hj hp).2.1)
    pz := fun j hj hp => by
      unfold updP at hp
      by_cases e : j = i
      · rw [if_pos e] at hp; cases hp
      · rw [if_neg e] at hp; exact h.pz j hj hp
    bz := fun k' hk' => (h.bz k' hk').keep (ho k' (n5 k' hk').2.1)
    inj := fun a b k' ha hb h1 h2 => by
      rcases hup a k' ha h1 with ⟨e1, f1⟩ | ⟨e1, f1⟩ <;> rcases hup b k' hb h2 with ⟨e2, f2⟩ | ⟨e2, f2⟩
      · rw [e1, e2]
      · exact absurd (.inr (.inr (.inr (.inr ⟨b, hb, f1 ▸ f2⟩)))) hn
      · exact absurd (.inr (.inr (.inr (.inr ⟨a, ha, f2 ▸ f1⟩)))) hn
      · exact h.inj a b k' ha hb f1 f2
    nb := fun j k' hj hk' hb => by
      rcases hup j k' hj hk' with ⟨rfl, rfl⟩ | ⟨_, hp⟩
      · exact hn (.inr (.inr (.inr (.inl hb))))
      · exact h.nb j k' hj hp hb
    dl := h.dl
    pl := h.pl
    pn := fun j hj hp => by
      unfold updP at hp
      by_cases e : j = i
      · rw [if_pos e] at hp; cases hp
      · rw [if_neg e] at hp; exact h.pn j hj hp }
/-- A byte is written. -/
theorem RamAt.poke {W : World} {g gp gd : Nat} {pg : Nat → Option Nat} {bl : Option Nat} {m : Mm} (h : RamAt W g gp gd pg bl m) {i k j : Nat} (hi : i < m.n) (hk : pg i = some k) (hj : j < 4096) (x : UInt8) :
    RamAt (W.setCell ⟨k, j, none⟩ (B8 x)) g gp gd pg bl { m with f := updF m.f (4096 * i + j) x } := by
  obtain ⟨n1, n2, n3, n4, n5⟩ := h.foot_ne
  obtain ⟨k1, k2, k3⟩ := n4 i k hi hk
  have ho : ∀ k', k' ≠ k → (W.setCell ⟨k, j, none⟩ (B8 x)).heap[k']? = W.heap[k']? := fun k' hk => heap_cell_other hk
  exact {
    n1 := h.n1
    n2 := h.n2
    r := (ho g (Ne.symm k1)).trans h.r
    p := by
      obtain ⟨c, hc, h2⟩ := h.p
      exact ⟨c, (ho gp (Ne.symm k2)).trans hc, h2⟩
    q := by
      obtain ⟨c, hc, h2⟩ := h.q
      exact ⟨c, (ho gd (Ne.symm k3)).trans hc, h2⟩
    pb := fun i' k' hi' hk' => by
      by_cases e : i' = i
      · subst e
        obtain rfl : k = k' := Option.some.inj (hk.symm.trans hk')
        obtain ⟨c, hc, hs, h2⟩ := h.pb i' k hi hk
        refine ⟨_, set_cells hc, by simpa using hs, fun y hy => ?_⟩
        rw [set_get (by omega) (h2 y hy)]
        show _ = some (B8 (updF m.f (4096 * i' + j) x (4096 * i' + y)))
        unfold updF
        by_cases e : y = j
        · rw [if_pos e, if_pos (by omega)]
        · rw [if_neg e, if_neg (by omega)]
      · have hne : k' ≠ k := fun e' => e (h.inj i' i k hi' hi (e' ▸ hk') hk)
        obtain ⟨c, hc, hs, h2⟩ := (h.pb i' k' hi' hk').keep (ho k' hne)
        refine ⟨c, hc, hs, fun y hy => ?_⟩
        rw [h2 y hy]
        show _ = some (B8 (updF m.f (4096 * i + j) x (4096 * i' + y)))
        unfold updF
        rw [if_neg (by omega)]
    pz := fun i' hi' hp y hy => by
      show updF m.f (4096 * i + j) x (4096 * i' + y) = 0
      unfold updF
      rw [if_neg (fun e => by
        have : i' = i := by omega
        subst this
        rw [hk] at hp; cases hp)]
      exact h.pz i' hi' hp y hy
    bz := fun k' hk' => (h.bz k' hk').keep (ho k' (fun e => h.nb i k hi hk (e ▸ hk')))
    inj := h.inj
    nb := h.nb
    dl := h.dl
    pl := h.pl
    pn := h.pn }
/-- A write is counted. -/
theorem RamAt.count {W : World} {g gp gd : Nat} {pg : Nat → Option Nat} {bl : Option Nat} {m : Mm} (h : RamAt W g gp gd pg bl m) (v : Int) :
    RamAt (W.setCell ⟨g, 2, none⟩ (.int .i64 v)) g gp gd pg bl { m with wr := v } := by
  obtain ⟨n1, n2, n3, n4, n5⟩ := h.foot_ne
  have ho : ∀ k', k' ≠ g → (W.setCell ⟨g, 2, none⟩ (.int .i64 v)).heap[k']? = W.heap[k']? := fun k' hk => heap_cell_other hk
  exact {
    n1 := h.n1
    n2 := h.n2
    r := (set_cells h.r).trans rfl
    p := by
      obtain ⟨c, hc, h2⟩ := h.p
      exact ⟨c, (ho gp (Ne.symm n1)).trans hc, h2⟩
    q := by
      obtain ⟨c, hc, h2⟩ := h.q
      exact ⟨c, (ho gd (Ne.symm n2)).trans hc, h2⟩
    pb := fun i k hi hk => (h.pb i k hi hk).keep (ho k (n4 i k hi hk).1)
    pz := h.pz
    bz := fun k hk => (h.bz k hk).keep (ho k (n5 k hk).1)
    inj := h.inj
    nb := h.nb
    dl := h.dl
    pl := h.pl
    pn := h.pn }

set_option maxRecDepth 100000 in
set_option maxHeartbeats 1600000 in
theorem mem_own {g : Nat} {m : Mm} {F : Nat → Prop} {w : World} (h : RamIs w g m F) (i : Nat) (hi : i < m.n) :
    Calls Tryd.prog 60 #[.pointer (some ⟨g, 0, none⟩), .int .i64 i] w fun e w' => ∃ gp gd pg bl k c F', e = .returned (.slice (some ⟨k, 0, none⟩) 4096 c) ∧ 4096 ≤ c ∧ RamAt w' g gp gd pg bl { m with d := updD m.d i } ∧ pg i = some k ∧ (∀ k, RamFoot g gp gd m.n pg bl k → F' k) ∧ (∀ k, F' k → k < w'.heap.size) ∧ MemStep F F' w w' := by
  obtain ⟨gp, gd, pg, bl, h, hf, hlt⟩ := h
  have c0 := h.c0
  have c1 := h.c1
  have p0 := h.pcell hi
  have q0 := h.qcell hi
  have qf := h.qfz i
  have pf := h.pfz i
  have hn := h.n2
  have hpl := h.pl i hi
  have hin : (i : Int) < (m.n : Int) := by omega
  have hi0 : (0 : Int) ≤ (i : Int) := by omega
  obtain ⟨n1, n2, n3, n4, n5⟩ := h.foot_ne
  have hgd : gd < w.heap.size := h.lt (.inr (.inr (.inl rfl)))
  cases hpg : pg i with
  | some k =>
    rw [hpg] at p0
    simp only [pgC] at p0
    have HR := Lib.hid (h.mark i)
    have HP := Lib.hid hpg
    have HF := Lib.hid hf
    have HX : Hid (MemStep F F w (w.setCell ⟨gd, i, none⟩ (.int .i64 1))) := Lib.hid ⟨(KX.refl F w).setCell (p := ⟨gd, i, none⟩) (.inl (hf _ (.inr (.inr (.inl rfl))))) _, fun _ h => .inl h⟩
    have hs : gd ≠ g := Ne.symm n2
    have hs2 : gd ≠ gp := Ne.symm n3
    have HL : Hid (∀ k, F k → k < (w.setCell ⟨gd, i, none⟩ (.int .i64 1)).heap.size) := Lib.hid (fun k hk => by simpa [World.setCell] using hlt k hk)
    clear h hf hlt hpg n4 n5
    have hne := slice_eql_nil
    go_enter Tryd.func60, Tryd.ntmps60
    go_wp2_with fail
    go_ret
    exact ⟨gp, gd, pg, bl, k, _, F, rfl, hpl, HR.out, HP.out, HF.out, HL.out, HX.out⟩
  | none =>
    rw [hpg] at p0
    simp only [pgC] at p0
    have hgp : gp < w.heap.size := h.lt (.inr (.inl rfl))
    have hgg : g < w.heap.size := h.lt (.inl rfl)
    obtain ⟨W1, hW1⟩ : ∃ W1, W1 = ((w.setCell ⟨gp, i, none⟩ (.slice (some ⟨w.heap.size, 0, none⟩) 4096 4096)).alloc (.cells zeroPage 5)).drew := ⟨_, rfl⟩
    have hR1 : RamAt W1 g gp gd (updP pg i w.heap.size) bl m := by
      have ha := h.keep (W' := w.alloc (.cells zeroPage 5)) (fun k hk => Below.heap_alloc _ _ _ (h.lt hk))
      have hb := ha.adopt hi (heap_alloc_new w _) (fun hk => by have := h.lt hk; omega) hpg
      refine hb.keep (fun k hk => ?_)
      rw [hW1]
      by_cases hkw : k = w.heap.size
      · subst hkw
        rw [heap_cell_other (by simp; omega), heap_alloc_new]
        have e : (w.setCell ⟨gp, i, none⟩ (.slice (some ⟨w.heap.size, 0, none⟩) 4096 4096)).heap.size = w.heap.size := by simp [World.setCell]
        have := heap_alloc_new (w.setCell ⟨gp, i, none⟩ (.slice (some ⟨w.heap.size, 0, none⟩) 4096 4096)) (.cells zeroPage 5)
        rw [e] at this
        exact this
      · have hkl : k < w.heap.size := by
          have := hb.lt hk
          simp [World.setCell] at this
          omega
        show ((w.setCell ⟨gp, i, none⟩ (.slice (some ⟨w.heap.size, 0, none⟩) 4096 4096)).alloc (.cells zeroPage 5)).heap[k]? = _
        rw [Below.heap_alloc _ _ _ (by simp [World.setCell]; exact hkl)]
        by_cases hkg : k = gp
        · subst hkg
          obtain ⟨c, hc, _⟩ := h.p
          rw [set_cells hc, set_cells ((Below.heap_alloc _ _ _ hkl).trans hc)]
        · rw [heap_cell_other hkg, heap_cell_other hkg, Below.heap_alloc _ _ _ hkl]
    have hX1 : MemStep F (fun k => F k ∨ k = w.heap.size) w W1 := by
      rw [hW1]
      exact ⟨(((KX.refl F w).setCell (p := ⟨gp, i, none⟩) (.inl (hf _ (.inr (.inl rfl)))) _).alloc _).drew, fun k hk => hk.imp id (fun e => by omega)⟩
    have e0 := hR1.c0
    have e1 := hR1.c1
    have ep := hR1.pcell hi
    have eq := hR1.qcell hi
    have ef := hR1.qfz i
    have hup : updP pg i w.heap.size i = some w.heap.size := if_pos rfl
    rw [hup] at ep
    simp only [pgC] at ep
    have HR := Lib.hid (hR1.mark i)
    have HP := Lib.hid hup
    have HF : Hid (∀ k, RamFoot g gp gd m.n (updP pg i w.heap.size) bl k → F k ∨ k = w.heap.size) := Lib.hid (fun k hk => by
      rcases hk with rfl | rfl | rfl | hb | ⟨j, hj, hb⟩
      · exact .inl (hf _ (.inl rfl))
      · exact .inl (hf _ (.inr (.inl rfl)))
      · exact .inl (hf _ (.inr (.inr (.inl rfl))))
      · exact .inl (hf _ (.inr (.inr (.inr (.inl hb)))))
      · unfold updP at hb
        by_cases e : j = i
        · rw [if_pos e] at hb; exact .inr (Option.some.inj hb).symm
        · rw [if_neg e] at hb; exact .inl (hf _ (.inr (.inr (.inr (.inr ⟨j, hj, hb⟩))))))
    have HX : Hid (MemStep F (fun k => F k ∨ k = w.heap.size) w (W1.setCell ⟨gd, i, none⟩ (.int .i64 1))) := Lib.hid (hX1.trans ⟨(KX.refl _ W1).setCell (p := ⟨gd, i, none⟩) (.inl (.inl (hf _ (.inr (.inr (.inl rfl)))))) _, fun _ h => .inl h⟩)
    have hs : gd ≠ g := Ne.symm n2
    have hs2 : gd ≠ gp := Ne.symm n3
    have HW := Lib.hid hW1
    have a0 : (w.alloc (.cells zeroPage 5)).cell? ⟨g, 0, none⟩ = _ := (World.cell?_alloc_past _ _ _ hgg).trans c0
    have a1 : (w.alloc (.cells zeroPage 5)).cell? ⟨gp, i, none⟩ = _ := (World.cell?_alloc_past _ _ _ hgp).trans p0
    have a2 : (w.alloc (.cells zeroPage 5)).frozen? ⟨gp, i, none⟩ = _ := (World.frozen?_alloc_past _ _ _ hgp).trans pf
    have HL : Hid (∀ k, (F k ∨ k = w.heap.size) → k < (W1.setCell ⟨gd, i, none⟩ (.int .i64 1)).heap.size) := Lib.hid (fun k hk => by
      have e : W1.heap.size = w.heap.size + 1 := by rw [hW1]; simp [World.setCell]
      rcases hk with hk | rfl
      · have := hlt k hk
        simp [World.setCell]
        omega
      · simp [World.setCell]
        omega)
    clear h hf hlt hpg n4 n5 hW1 hR1 hX1 hup
    have hne := slice_eql_nil
    have hm := make_page
    go_enter Tryd.func60, Tryd.ntmps60
    go_upto_region 2 with fail
    go_region
    all_goals rw [← HW.out]
    all_goals clear a0 a1 a2 HW c0 c1 p0 q0 qf pf
    all_goals generalize w.heap.size = k1 at ep HR HP HF HX HL
    all_goals go_wp2_with fail
    all_goals go_ret
    all_goals exact ⟨gp, gd, _, bl, k1, _, _, rfl, hpl, HR.out, HP.out, HF.out, HL.out, HX.out⟩
end Go.Proofs.YtcmbnkmbaghkdaaDoor
namespace Go.Proofs.YtcmbnkmbaghkdaaDoor
open Go.RowKit

set_option maxRecDepth 100000 in
theorem counter_add (a : Addr) (x : Int) (w : World) (h : w.cell? a = some (.int .i64 x)) (hz : w.frozen? a = false) :
    Calls Tryd.prog 61 #[.pointer (some a), .int .i64 1] w fun e w' => e = .returned (.int .i64 (wrap64 (x + 1))) ∧ w' = w.setCell a (.int .i64 (wrap64 (x + 1))) := by
  have hadd := run_call_add (P := Tryd.prog) Tryd.func98 (by kernel_rfl) (by kernel_rfl) (by kernel_rfl) .i64 (by kernel_rfl) (y := 1) (s := wrap64 (x + 1)) h hz (by simp [go_sem, wrap64, IntKind.wrap_i64])
  go_enter Tryd.func61, Tryd.ntmps61
  go_wp2
  go_ret
  exact ⟨rfl, rfl⟩
/-- The bytes of a number, the lowest first. -/
def leB (k v : Nat) : List UInt8 := (List.range k).map fun i => UInt8.ofNat (v / 256 ^ i % 256)
/-- Bytes laid at a place. -/
def putL (f : Nat → UInt8) (a : Nat) (l : List UInt8) : Nat → UInt8 := fun j => if a ≤ j then (l[j - a]?).getD (f j) else f j
def Mm.store (m : Mm) (a k v : Nat) : Mm := { m with f := putL m.f a (leB k v), d := updD m.d (a / 4096), wr := wrap64 (m.wr + 1) }
theorem leB_length (k v : Nat) : (leB k v).length = k := by simp [leB]
theorem putL_nil (f : Nat → UInt8) (a : Nat) : putL f a [] = f := by funext j; unfold putL; split <;> simp
theorem putL_snoc (f : Nat → UInt8) (a : Nat) (l : List UInt8) (x : UInt8) : putL f a (l ++ [x]) = updF (putL f a l) (a + l.length) x := by
  funext j
  show (if a ≤ j then ((l ++ [x])[j - a]?).getD (f j) else f j) = if j = a + l.length then x else if a ≤ j then (l[j - a]?).getD (f j) else f j
  by_cases h : a ≤ j
  · rw [if_pos h, if_pos h]
    by_cases e : j = a + l.length
    · rw [if_pos e, e]
      simp
    · rw [if_neg e]
      rcases Nat.lt_or_ge (j - a) l.length with hl | hl
      · rw [List.getElem?_append_left hl]
      · rw [List.getElem?_append_right hl, List.getElem?_eq_none (l := l) hl, List.getElem?_eq_none (by simp; omega)]
  · rw [if_neg h, if_neg h, if_neg (by omega)]
theorem RamAt.bcell {W : World} {g gp gd : Nat} {pg : Nat → Option Nat} {bl : Option Nat} {m : Mm} (h : RamAt W g gp gd pg bl m) {i k j : Nat} (hi : i < m.n) (hk : pg i = some k) (hj : j < 4096) : W.cell? ⟨k, j, none⟩ = some (B8 (m.f (4096 * i + j))) := by
  obtain ⟨c, hc, _, h2⟩ := h.pb i k hi hk
  exact (cell_of_row _ _ j _ _ _ hc).trans (h2 j hj)
theorem RamAt.bfz {W : World} {g gp gd : Nat} {pg : Nat → Option Nat} {bl : Option Nat} {m : Mm} (h : RamAt W g gp gd pg bl m) {i k : Nat} (hi : i < m.n) (hk : pg i = some k) (j : Nat) : W.frozen? ⟨k, j, none⟩ = false := by
  obtain ⟨c, hc, _, h2⟩ := h.pb i k hi hk
  exact frozen_of_row _ _ j _ _ hc
theorem leB_take_succ (k v i : Nat) (h : i < k) : (leB k v).take (i + 1) = (leB k v).take i ++ [UInt8.ofNat (v / 256 ^ i % 256)] := by
  rw [List.take_succ_eq_append_getElem (by rw [leB_length]; exact h)]
  simp [leB]

theorem byte_val (v j : Nat) : Value.int .u8 ((v : Int) / 2 ^ (8 * j) % 256) = B8 (UInt8.ofNat (v / 256 ^ j % 256)) := by
  unfold B8
  congr 1
  have e : (2 : Int) ^ (8 * j) = ((256 ^ j : Nat) : Int) := by rw [Int.natCast_pow, Int.pow_mul]; rfl
  rw [e, UInt8.toNat_ofNat']
  have e2 : v / 256 ^ j % 256 % 2 ^ 8 = v / 256 ^ j % 256 := by omega
  rw [e2, Int.natCast_emod, Int.natCast_ediv]
  rfl
set_option maxRecDepth 100000 in
set_option maxHeartbeats 1600000 in
theorem mem_Store_ok {g : Nat} {m : Mm} {F : Nat → Prop} {w : World} (h : RamIs w g m F) (a k v : Nat) (ha : a < 4294967296) (hk : okN k) (hs : a + k ≤ 4096 * m.n) (hr : a % k = 0) :
    Calls Tryd.prog 26 #[.pointer (some ⟨g, 0, none⟩), .int .u32 a, .int .i64 k, .int .u32 v] w fun e w' => ∃ F', e = .returned .nilIface ∧ RamIs w' g (m.store a k v) F' ∧ MemStep F F' w w' := by
  have HC := Lib.hid (mem_check_ok h a k ha hk hs hr)
  have hpp : a % 4096 + k ≤ 4096 := by
    rcases hk with rfl | rfl | rfl <;> omega
  have hk1 : 1 ≤ k := by rcases hk with rfl | rfl | rfl <;> omega
  have hi : a / 4096 < m.n := by omega
  have HO := Lib.hid (mem_own h (a / 4096) hi)
  have hk8 : k ≤ 4 := by rcases hk with rfl | rfl | rfl <;> omega
  have hm1 : 4096 * (a / 4096) + a % 4096 = a := by omega
  have HM1 := Lib.hid hm1
  have HR := Lib.hid (And.intro hr hk)
  clear h hm1 hr hk hs
  go_enter Tryd.func26, Tryd.ntmps26
  go_wp2_with fail
  refine (HC.out).mono ?_
  rintro e w' ⟨rfl, rfl⟩
  go_wp2_with fail
  refine (HO.out).mono ?_
  rintro e w1 ⟨gp, gd, pg, bl, kb, ckb, F', rfl, hckb, hra, hpg, hf, hl, hst⟩
  have H1 := Lib.hid hra
  have HPG := Lib.hid hpg
  have HF := Lib.hid hf
  have HST := Lib.hid hst
  have HL := Lib.hid hl
  clear hra hpg hf hl hst
  go_wp2_with fail
  go_loopw [25] (fun i wr => ∃ j : Nat, j ≤ k ∧ i = .int .i64 j ∧ RamAt wr g gp gd pg bl { m with d := updD m.d (a / 4096), f := putL m.f a ((leB k v).take j) } ∧ MemStep F F' w wr ∧ w1.heap.size ≤ wr.heap.size) (fun i _ => k - (intOf i).toNat)
  case atStart => exact ⟨0, by omega, rfl, by rw [List.take_zero, putL_nil]; exact H1.out, HST.out, Nat.le_refl _⟩
  case round =>
    obtain ⟨j, hj, rfl, hra, hst, hsz⟩ := hrel
    have HA := Lib.hid hra
    have HS := Lib.hid hst
    have HSZ := Lib.hid hsz
    clear hra hst hsz
    by_cases hlt : j < k
    · have hj0 : (0 : Int) ≤ (j : Int) := by omega
      have hjk : (j : Int) < (k : Int) := by omega
      have hc := HA.out.bcell hi HPG.out (show a % 4096 + j < 4096 by omega)
      have hz := HA.out.bfz hi HPG.out (a % 4096 + j)
      have hfk : F' kb := HF.out _ (.inr (.inr (.inr (.inr ⟨_, hi, HPG.out⟩))))
      have HN := Lib.hid (And.intro (HA.out.poke (j := a % 4096 + j) hi HPG.out (by omega) (UInt8.ofNat (v / 256 ^ j % 256))) (HS.out.trans (F'' := F') ⟨(KX.refl F' wr).setCell (p := ⟨kb, a % 4096 + j, none⟩) (.inl hfk) (B8 (UInt8.ofNat (v / 256 ^ j % 256))), fun _ h => .inl h⟩))
      have HB := Lib.hid (byte_val v j)
      clear hfk
      go_wp2_with fail
      go_roundw
      case rel =>
        rw [HB.out]
        refine ⟨j + 1, by omega, by go_num, ?_, HN.out.2, by simpa [World.setCell] using HSZ.out⟩
        rw [leB_take_succ k v j hlt, putL_snoc]
        have h1 := HN.out.1
        have e : 4096 * (a / 4096) + (a % 4096 + j) = a + ((leB k v).take j).length := by simp [leB_length]; have := HM1.out; omega
        rw [e] at h1
        exact h1
      case measure => simp [intOf]; omega
    · obtain rfl : k = j := by omega
      have c2 := HA.out.c2
      have f2 := HA.out.fz 2
      have HCT := Lib.hid (counter_add ⟨g, 2, none⟩ _ wr c2 f2)
      have hg : F' g := HF.out _ (.inl rfl)
      have HN := Lib.hid (And.intro (HA.out.count (wrap64 (m.wr + 1))) (HS.out.trans (F'' := F') ⟨(KX.refl F' wr).setCell (p := ⟨g, 2, none⟩) (.inl hg) (.int .i64 (wrap64 (m.wr + 1))), fun _ h => .inl h⟩))
      clear hg c2 f2
      go_wp2_with fail
      refine (HCT.out).mono ?_
      rintro e w' ⟨rfl, rfl⟩
      go_wp2_with fail
      go_ret
      refine ⟨F', rfl, ?_, HN.out.2⟩
      have h1 := HN.out.1
      rw [List.take_of_length_le (by rw [leB_length]; exact Nat.le_refl _)] at h1
      exact ⟨gp, gd, pg, bl, h1, HF.out, fun k hk => by simpa [World.setCell] using Nat.lt_of_lt_of_le (HL.out k hk) HSZ.out⟩
end Go.Proofs.YtcmbnkmbaghkdaaDoor
