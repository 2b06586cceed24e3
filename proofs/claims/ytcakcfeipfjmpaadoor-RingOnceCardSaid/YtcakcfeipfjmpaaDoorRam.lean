/-
Memory as package mem lays it, and what of it can be told: its pages, its bytes, which pages are dirty, how many writes were done.
No condition.
-/
import Derived.Test.YtcakcfeipfjmpaaDoorKx
namespace Go.Proofs.YtcakcfeipfjmpaaDoor
open Go.RowKit

def B8 (x : UInt8) : Value := .int .u8 (x.toNat : Int)
/-- What memory is: pages, bytes, marks, writes. -/
structure Mm where
  n : Nat
  f : Nat → UInt8
  d : Nat → Bool
  wr : Int
  dc : Nat
  pc : Nat → Nat

def pgV : Option Nat → Value
  | none => .slice none 0 0
  | some k => .slice (some ⟨k, 0, none⟩) 4096 4096
def pgC : Option Nat → Nat → Value
  | none, _ => .slice none 0 0
  | some k, c => .slice (some ⟨k, 0, none⟩) 4096 c
def bit01 (b : Bool) : Int := if b then 1 else 0
def ramRow (gp gd n dc : Nat) (wr : Int) (bl : Option Nat) : Array Value :=
  #[.slice (some ⟨gp, 0, none⟩) n n, .slice (some ⟨gd, 0, none⟩) n dc, .int .i64 wr, .int .u32 (if bl.isSome then 1 else 0), .int .i32 0, .int .u32 0, pgV bl]
def PageAt (W : World) (k : Nat) (h : Nat → UInt8) : Prop := ∃ c : Array Value, W.heap[k]? = some (.cells c 5 (0, 0)) ∧ 4096 ≤ c.size ∧ ∀ j, j < 4096 → c[j]? = some (B8 (h j))
structure RamAt (W : World) (g gp gd : Nat) (pg : Nat → Option Nat) (bl : Option Nat) (m : Mm) : Prop where
  n1 : 1 ≤ m.n
  n2 : m.n ≤ 16384
  r : W.heap[g]? = some (.cells (ramRow gp gd m.n m.dc m.wr bl) 127 (0, 0))
  p : ∃ c : Array Value, W.heap[gp]? = some (.cells c 107 (0, 0)) ∧ c.size = m.n ∧ ∀ i, i < m.n → c[i]? = some (pgC (pg i) (m.pc i))
  q : ∃ c : Array Value, W.heap[gd]? = some (.cells c 3 (0, 0)) ∧ m.n ≤ c.size ∧ ∀ i, i < m.n → c[i]? = some (.int .i64 (bit01 (m.d i)))
  pb : ∀ i k, i < m.n → pg i = some k → PageAt W k (fun j => m.f (4096 * i + j))
  pz : ∀ i, i < m.n → pg i = none → ∀ j, j < 4096 → m.f (4096 * i + j) = 0
  bz : ∀ k, bl = some k → PageAt W k (fun _ => 0)
  inj : ∀ i j k, i < m.n → j < m.n → pg i = some k → pg j = some k → i = j
  nb : ∀ i k, i < m.n → pg i = some k → bl ≠ some k
  dl : m.n ≤ m.dc
  pl : ∀ i, i < m.n → 4096 ≤ m.pc i
  pn : ∀ i, i < m.n → pg i = none → m.pc i = 4096
/-- Its blocks. -/
def RamFoot (g gp gd n : Nat) (pg : Nat → Option Nat) (bl : Option Nat) (k : Nat) : Prop := k = g ∨ k = gp ∨ k = gd ∨ bl = some k ∨ ∃ i, i < n ∧ pg i = some k
/-- Memory at g; its blocks are among F. -/
def RamIs (W : World) (g : Nat) (m : Mm) (F : Nat → Prop) : Prop := ∃ gp gd pg bl, RamAt W g gp gd pg bl m ∧ (∀ k, RamFoot g gp gd m.n pg bl k → F k) ∧ ∀ k, F k → k < W.heap.size

theorem PageAt.keep {W W' : World} {k : Nat} {h : Nat → UInt8} (hp : PageAt W k h) (he : W'.heap[k]? = W.heap[k]?) : PageAt W' k h := by
  obtain ⟨c, h1, h2, h3⟩ := hp
  exact ⟨c, he.trans h1, h2, h3⟩
theorem PageAt.lt {W : World} {k : Nat} {h : Nat → UInt8} (hp : PageAt W k h) : k < W.heap.size := by
  obtain ⟨c, h1, _⟩ := hp
  exact lt_heap h1
theorem RamAt.lt {W : World} {g gp gd : Nat} {pg : Nat → Option Nat} {bl : Option Nat} {m : Mm} (h : RamAt W g gp gd pg bl m) {k : Nat} (hk : RamFoot g gp gd m.n pg bl k) : k < W.heap.size := by
  rcases hk with rfl | rfl | rfl | hb | ⟨i, hi, hp⟩
  · exact lt_heap h.r
  · obtain ⟨c, hc, _⟩ := h.p; exact lt_heap hc
  · obtain ⟨c, hc, _⟩ := h.q; exact lt_heap hc
  · exact (h.bz _ hb).lt
  · exact (h.pb i _ hi hp).lt
theorem RamAt.keep {W W' : World} {g gp gd : Nat} {pg : Nat → Option Nat} {bl : Option Nat} {m : Mm} (h : RamAt W g gp gd pg bl m) (he : ∀ k, RamFoot g gp gd m.n pg bl k → W'.heap[k]? = W.heap[k]?) : RamAt W' g gp gd pg bl m where
  n1 := h.n1
  n2 := h.n2
  r := (he g (.inl rfl)).trans h.r
  p := by
    obtain ⟨c, h1, h2⟩ := h.p
    exact ⟨c, (he gp (.inr (.inl rfl))).trans h1, h2⟩
  q := by
    obtain ⟨c, h1, h2⟩ := h.q
    exact ⟨c, (he gd (.inr (.inr (.inl rfl)))).trans h1, h2⟩
  pb := fun i k hi hk => (h.pb i k hi hk).keep (he k (.inr (.inr (.inr (.inr ⟨i, hi, hk⟩)))))
  pz := h.pz
  bz := fun k hk => (h.bz k hk).keep (he k (.inr (.inr (.inr (.inl hk)))))
  inj := h.inj
  nb := h.nb
  dl := h.dl
  pl := h.pl
  pn := h.pn
theorem RamIs.keep {W W' : World} {g : Nat} {m : Mm} {F : Nat → Prop} (h : RamIs W g m F) (hs : W.heap.size ≤ W'.heap.size) (he : ∀ k, k < W.heap.size → F k → W'.heap[k]? = W.heap[k]?) : RamIs W' g m F := by
  obtain ⟨gp, gd, pg, bl, h1, h2, h3⟩ := h
  exact ⟨gp, gd, pg, bl, h1.keep (fun k hk => he k (h1.lt hk) (h2 k hk)), h2, fun k hk => Nat.lt_of_lt_of_le (h3 k hk) hs⟩
theorem RamIs.kx {W W' : World} {g : Nat} {m : Mm} {F X : Nat → Prop} (h : RamIs W g m F) (hk : KX X W W') (hx : ∀ k, k < W.heap.size → F k → ¬ X k) : RamIs W' g m F :=
  h.keep hk.size (fun k hl hf => hk.block k hl (hx k hl hf))
theorem RamIs.below {W W' : World} {g : Nat} {m : Mm} {F : Nat → Prop} (h : RamIs W g m F) (hb : Below W.heap.size W W') : RamIs W' g m F :=
  h.keep hb.size (fun k hl _ => hb.block k hl)
theorem RamIs.lt {W : World} {g : Nat} {m : Mm} {F : Nat → Prop} (h : RamIs W g m F) : ∀ k, F k → k < W.heap.size := by
  obtain ⟨gp, gd, pg, bl, h1, h2, h3⟩ := h
  exact h3
theorem RamIs.n1 {W : World} {g : Nat} {m : Mm} {F : Nat → Prop} (h : RamIs W g m F) : 1 ≤ m.n := by
  obtain ⟨gp, gd, pg, bl, h1, h2, h3⟩ := h
  exact h1.n1
theorem RamIs.n2 {W : World} {g : Nat} {m : Mm} {F : Nat → Prop} (h : RamIs W g m F) : m.n ≤ 16384 := by
  obtain ⟨gp, gd, pg, bl, h1, h2, h3⟩ := h
  exact h1.n2
theorem RamIs.fg {W : World} {g : Nat} {m : Mm} {F : Nat → Prop} (h : RamIs W g m F) : F g := by
  obtain ⟨gp, gd, pg, bl, h1, h2, h3⟩ := h
  exact h2 _ (.inl rfl)
end Go.Proofs.YtcakcfeipfjmpaaDoor
