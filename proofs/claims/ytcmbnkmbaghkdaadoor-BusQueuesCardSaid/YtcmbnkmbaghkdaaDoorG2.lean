/-
Read of package mem, walked: bytes at a place, or the error.
No condition.
A row in a block of its own: its cells by a function.
No condition.
The number that bytes tell, the least first.
No condition.
Write of package mem, walked: bytes written at a place, or the error.
No condition.
Store, Read and Write of package mem, walked where they answer an error.
No condition.
New of package mem, walked.
No condition.
slices.Backward of bytes as a loop over a function, and word.Get, walked where it does not fail.
No condition.
word.Get, walked where it does not fail.
No condition.
(*mem.Ram).Load, walked.
No condition.
What the laws share: memory asked with literal arguments; memory beside a law's own blocks; bytes as a string.
No condition.
Cells of rows that are known whole, for the walk.
No condition.
-/
import Derived.Test.YtcmbnkmbaghkdaaDoorG1
import Derived.Laws.CopyOwn
import Derived.RangeFuncBox
import Derived.RangeFuncWrites
import Derived.RangeFuncLeaves
import Derived.Shelf.Abstract
import Derived.OwnWalkIn
import Derived.TacticsInMore
import Derived.LoopNIn
import Derived.LoopIn
import Derived.Laws.BitsLemmas
import Derived.Laws.Bits64
import Derived.Lib.EndianBits
import Derived.Lib.ConvBytes
import Derived.Laws.Rows
import Derived.Laws.Tables
import Derived.Deep.MidRow
import Derived.OrdersHeld
import Derived.Deep.RegionHeld3
namespace Go.Proofs.YtcmbnkmbaghkdaaDoor
open Go.RowKit

def lenV : Value → Nat | .slice _ c _ => c | _ => 0
/-- Bytes of memory. -/
def cut (f : Nat → UInt8) (a n : Nat) : List UInt8 := (List.range n).map fun j => f (a + j)
theorem cut_length (f : Nat → UInt8) (a n : Nat) : (cut f a n).length = n := by simp [cut]
theorem cut_add (f : Nat → UInt8) (a n k : Nat) : cut f a (n + k) = cut f a n ++ cut f (a + n) k := by
  apply List.ext_getElem (by simp [cut_length])
  intro i h1 h2
  simp only [cut_length] at h1
  by_cases h : i < n
  · rw [List.getElem_append_left (by rw [cut_length]; exact h)]
    simp [cut]
  · rw [List.getElem_append_right (by rw [cut_length]; omega)]
    simp [cut]
    congr 1
    omega
theorem cut_get (f : Nat → UInt8) (a n j : Nat) (h : j < n) : (cut f a n)[j]? = some (f (a + j)) := by simp [cut, h]
theorem cells_of_page {W : World} {k : Nat} {h : Nat → UInt8} (hp : PageAt W k h) (o n : Nat) (hn : o + n ≤ 4096) : ∀ j u, ((cut h o n).map B8)[j]? = some u → W.cell? ((⟨k, o, none⟩ : Addr).add j) = some u := fun j u hj => by
  have hjn : j < n := by
    have := (List.getElem?_eq_some_iff.1 hj).1
    simpa [cut_length] using this
  obtain ⟨c, hc, _, h2⟩ := hp
  rw [Addr.add_lit]
  refine (cell_of_row _ _ (o + j) _ _ _ hc).trans ?_
  rw [h2 (o + j) (by omega), ← hj, List.getElem?_map, cut_get _ _ _ _ hjn]
  rfl

theorem cut_shift (f : Nat → UInt8) (b o q : Nat) : cut (fun j => f (b + j)) o q = cut f (b + o) q := by
  unfold cut
  apply List.map_congr_left
  intro i _
  show f (b + (o + i)) = f (b + o + i)
  rw [Nat.add_assoc]
theorem cut_page (f : Nat → UInt8) (a c q : Nat) : (cut f a c).map B8 ++ (cut (fun j => f (4096 * ((a + c) / 4096) + j)) ((a + c) % 4096) q).map B8 = (cut f a (c + q)).map B8 := by
  rw [cut_shift, show 4096 * ((a + c) / 4096) + (a + c) % 4096 = a + c by omega, cut_add, List.map_append]
theorem ownsRow_keep {w w' : World} {base e size n : Nat} {v : Value} {xs : List Value} (h : w.ownsRow base e size v n xs) (he : ∀ b, v.ownBlock = some b → w'.heap[b]? = w.heap[b]?) : w'.ownsRow base e size v n xs := by
  obtain ⟨h1, h2⟩ := h
  refine ⟨h1, ?_⟩
  rcases h2 with h2 | ⟨g, cap, cur, rfl, hg, hh, r⟩
  · exact .inl h2
  · exact .inr ⟨g, cap, cur, rfl, hg, (he g rfl).trans hh, r⟩
theorem ownsRow_lt {w : World} {base e size n : Nat} {v : Value} {xs : List Value} (h : w.ownsRow base e size v n xs) {b : Nat} (hb : v.ownBlock = some b) : base ≤ b ∧ b < w.heap.size := by
  rcases h.2 with ⟨rfl, _⟩ | ⟨g, cap, cur, rfl, hg, hh, _⟩
  · simp [Value.ownBlock] at hb
  · obtain rfl : g = b := by simpa [Value.ownBlock] using hb
    exact ⟨hg, lt_heap hh⟩
theorem ownsRow_form {w : World} {base e size n : Nat} {v : Value} {xs : List Value} (h : w.ownsRow base e size v n xs) : ∃ a c, v = .slice a n c := by
  rcases h.2 with ⟨rfl, rfl⟩ | ⟨g, cap, cur, rfl, _⟩
  · exact ⟨none, 0, rfl⟩
  · exact ⟨some ⟨g, 0, none⟩, cap, rfl⟩
theorem MemStep.grown {F F' : Nat → Prop} {a w w' : World} {row : Option Nat} (h : MemStep F F' a w) (hg : w.grownBy w' row) (hr : ∀ b, row = some b → a.heap.size ≤ b) : MemStep F F' a w' :=
  ⟨⟨hg.os.trans h.kx.os, hg.tape.trans h.kx.tape, hg.output.trans h.kx.output, Nat.le_trans h.kx.size hg.size, fun k hk hn => (hg.block k (Nat.lt_of_lt_of_le hk h.kx.size) (fun e => by have := hr k e.symm; omega)).trans (h.kx.block k hk hn)⟩, h.gr⟩
theorem RamIs.grown {W W' : World} {g : Nat} {m : Mm} {F : Nat → Prop} {row : Option Nat} (h : RamIs W g m F) (hg : W.grownBy W' row) (hr : ∀ b, row = some b → ¬ F b) : RamIs W' g m F :=
  h.keep hg.size (fun k hk hf => hg.block k hk (fun e => hr k e.symm hf))

set_option maxRecDepth 100000 in
set_option maxHeartbeats 1600000 in
theorem mem_Read_ok {g : Nat} {m : Mm} {F : Nat → Prop} {w : World} (h : RamIs w g m F) (a n : Nat) (ha : a < 4294967296) (hs : a + n ≤ 4096 * m.n) :
    Calls Tryd.prog 21 #[.pointer (some ⟨g, 0, none⟩), .int .u32 a, .int .i64 n] w fun e w' => ∃ v F', e = .returned (.tuple #[v, .nilIface]) ∧ RamIs w' g m F' ∧ MemStep F F' w w' ∧ w'.ownsRow w.heap.size 5 1 v n ((cut m.f a n).map B8) ∧ (∀ b, v.ownBlock = some b → ¬ F' b) := by
  have HC := Lib.hid (mem_run_ok h a n hs)
  have HAT := Lib.hid (fun W F (hW : RamIs W g m F) i (hi : i < m.n) => mem_at hW i hi)
  have hn2 := h.n2
  have HH := Lib.hid h
  have hn : n ≤ 67108864 := by omega
  obtain ⟨i0, hi0, hz0, hz1, hz2⟩ := info_of info_u8
  clear h
  go_enter Tryd.func21, Tryd.ntmps21
  go_wp2_with fail
  refine (HC.out).mono ?_
  rintro e w' ⟨rfl, rfl⟩
  go_wp2_with fail
  go_loopw [9, 10] (fun v i wr => ∃ (c : Nat) (p : Nat) (F' : Nat → Prop), c ≤ n ∧ i = .int .i64 p ∧ (c < n → p = a + c) ∧ p ≤ 4294967296 ∧ RamIs wr g m F' ∧ MemStep F F' w wr ∧ wr.ownsRow w.heap.size 5 1 v c ((cut m.f a c).map B8) ∧ (∀ b, v.ownBlock = some b → ¬ F' b) ∧ ∃ av cv, v = .slice av c cv) (fun v i _ => n - lenV v)
  case atStart => exact ⟨0, a, F, by omega, rfl, fun _ => rfl, by omega, HH.out, MemStep.refl _ _, World.ownsRow_nil _ _ _ _, fun b hb => by simp [Value.ownBlock] at hb, none, 0, rfl⟩
  case round =>
    obtain ⟨c, p, F', hc, rfl, hp, hp4, hri, hst, hown, hnf, av, cv, rfl⟩ := hrel
    have HR := Lib.hid hri
    have HS := Lib.hid hst
    have HO := Lib.hid hown
    have HF := Lib.hid hnf
    clear hri hst hown hnf
    by_cases hlt : c < n
    · obtain rfl := hp hlt
      have hi : (a + c) / 4096 < m.n := by omega
      have HA := Lib.hid (HAT.out wr F' HR.out ((a + c) / 4096) hi)
      have hcn : (c : Int) < (n : Int) := by omega
      have ho0 : (0 : Int) ≤ ((a : Int) + (c : Int)) % 4096 := by omega
      have ho1 : ((a : Int) + (c : Int)) % 4096 < 4096 := by omega
      clear hp
      go_wp2_with fail
      refine (HA.out).mono ?_
      rintro e w1 ⟨k, ck, F1, rfl, hck, hr1, hpg, hst1, hfk⟩
      have HR1 := Lib.hid hr1
      have HPG := Lib.hid hpg
      have HS1 := Lib.hid (HS.out.trans hst1)
      have HFK := Lib.hid hfk
      have HO1 := Lib.hid (ownsRow_keep HO.out (w' := w1) (fun b hb => hst1.kx.block b (ownsRow_lt HO.out hb).2 (HF.out b hb)))
      have HF1 : Hid (∀ b, (Value.slice av c cv).ownBlock = some b → ¬ F1 b) := Lib.hid (fun b hb => hst1.off (ownsRow_lt HO.out hb).2 (HF.out b hb))
      clear hr1 hpg hst1 hfk HO HF
      by_cases hm : 4096 - (a + c) % 4096 ≤ n - c
      · have hmi : ¬ (n : Int) - (c : Int) < ((4096 - (a + c) % 4096 : Nat) : Int) := by omega
        have HNK := Lib.hid (cells_of_page HPG.out ((a + c) % 4096) (4096 - (a + c) % 4096) (by omega))
        go_wp2_with (refine wpList_append_tx rfl _ _ 62 136 rfl w.heap.size 5 5 i0 _ 1 1 Tryd.underlying62 Tryd.underlying136 hi0 hz0 hz1 hz2 rfl (by omega) (.slice av c cv) c _ rfl HO1.out ⟨k, (a + c) % 4096, none⟩ (4096 - (a + c) % 4096) _ _ rfl ?hl HNK.out ?h1 ?h63 ?hby ?hb ?hK)
        case hl => rw [List.length_map, cut_length, Nat.mul_one]
        case h1 =>
          intro u hu
          obtain ⟨x, _, rfl⟩ := List.mem_map.1 hu
          rfl
        case h63 => simp only [maxLen]; omega
        case hby => omega
        case hb => exact HS1.out.kx.size
        intro v' w2 hown hgr hvb
        rw [cut_page] at hown
        obtain ⟨av', cv', rfl⟩ := ownsRow_form hown
        have HOW := Lib.hid hown
        have HR2 := Lib.hid (HR1.out.grown hgr HF1.out)
        have HS2 := Lib.hid (HS1.out.grown hgr (fun b hb => (ownsRow_lt HO1.out hb).1))
        have HF2 : Hid (∀ b, (Value.slice av' (c + (4096 - (a + c) % 4096)) cv').ownBlock = some b → ¬ F1 b) := Lib.hid (fun b hb => by
          rcases hvb with h | h
          · exact HF1.out b (h ▸ hb)
          · intro hf
            obtain rfl : w1.heap.size = b := Option.some.inj (h.symm.trans hb)
            exact absurd (HR1.out.lt _ hf) (Nat.lt_irrefl _))
        clear hown hgr hvb
        go_wp2_with fail
        go_roundw
        case rel => exact ⟨c + (4096 - (a + c) % 4096), ((a + c) / 4096 + 1) * 4096, F1, by omega, by go_num, by omega, by omega, HR2.out, HS2.out, HOW.out, HF2.out, av', cv', rfl⟩
        case measure => simp [lenV]; omega
      · have hmi : (n : Int) - (c : Int) < ((4096 - (a + c) % 4096 : Nat) : Int) := by omega
        have HNK := Lib.hid (cells_of_page HPG.out ((a + c) % 4096) (n - c) (by omega))
        go_wp2_with (refine wpList_append_tx rfl _ _ 62 136 rfl w.heap.size 5 5 i0 _ 1 1 Tryd.underlying62 Tryd.underlying136 hi0 hz0 hz1 hz2 rfl (by omega) (.slice av c cv) c _ rfl HO1.out ⟨k, (a + c) % 4096, none⟩ (n - c) _ _ rfl ?hln HNK.out ?h1n ?h63n ?hbyn ?hbn ?hKn)
        case hln => rw [List.length_map, cut_length, Nat.mul_one]
        case h1n =>
          intro u hu
          obtain ⟨x, _, rfl⟩ := List.mem_map.1 hu
          rfl
        case h63n => simp only [maxLen]; omega
        case hbyn => omega
        case hbn => exact HS1.out.kx.size
        intro v' w2 hown hgr hvb
        rw [cut_page, show c + (n - c) = n by omega] at hown
        obtain ⟨av', cv', rfl⟩ := ownsRow_form hown
        have HOW := Lib.hid hown
        have HR2 := Lib.hid (HR1.out.grown hgr HF1.out)
        have HS2 := Lib.hid (HS1.out.grown hgr (fun b hb => (ownsRow_lt HO1.out hb).1))
        have HF2 : Hid (∀ b, (Value.slice av' n cv').ownBlock = some b → ¬ F1 b) := Lib.hid (fun b hb => by
          rcases hvb with h | h
          · exact HF1.out b (h ▸ hb)
          · intro hf
            obtain rfl : w1.heap.size = b := Option.some.inj (h.symm.trans hb)
            exact absurd (HR1.out.lt _ hf) (Nat.lt_irrefl _))
        clear hown hgr hvb
        go_wp2_with fail
        go_roundw
        case rel => exact ⟨n, ((a + c) / 4096 + 1) * 4096, F1, by omega, by go_num, by omega, by omega, HR2.out, HS2.out, HOW.out, HF2.out, av', cv', rfl⟩
        case measure => simp [lenV]; omega
    · obtain rfl : c = n := by omega
      clear hp
      go_wp2_with fail
      go_ret2
      exact ⟨_, F', rfl, HR.out, HS.out, HO.out, HF.out⟩
end Go.Proofs.YtcmbnkmbaghkdaaDoor
namespace Go.Proofs.YtcmbnkmbaghkdaaDoor
open Go.RowKit

def Row (W : World) (b : Nat) (T : TypeId) (n : Nat) (h : Nat → Value) : Prop := ∃ C, W.heap[b]? = some (.cells C T (0, 0)) ∧ n ≤ C.size ∧ ∀ i, i < n → C[i]? = some (h i)
theorem Row.cell {W : World} {b n : Nat} {T : TypeId} {h : Nat → Value} (r : Row W b T n h) {i : Nat} (hi : i < n) : W.cell? ⟨b, i, none⟩ = some (h i) := by
  obtain ⟨C, hc, _, hg⟩ := r
  exact (cell_of_row _ _ i _ _ _ hc).trans (hg i hi)
theorem Row.fz {W : World} {b n : Nat} {T : TypeId} {h : Nat → Value} (r : Row W b T n h) (i : Nat) : W.frozen? ⟨b, i, none⟩ = false := by
  obtain ⟨C, hc, _, _⟩ := r
  exact frozen_of_row _ _ i _ _ hc
theorem Row.lt {W : World} {b n : Nat} {T : TypeId} {h : Nat → Value} (r : Row W b T n h) : b < W.heap.size := by
  obtain ⟨C, hc, _, _⟩ := r
  exact lt_heap hc
theorem Row.keep {W W' : World} {b n : Nat} {T : TypeId} {h : Nat → Value} (r : Row W b T n h) (e : W'.heap[b]? = W.heap[b]?) : Row W' b T n h := by
  obtain ⟨C, hc, h1, h2⟩ := r
  exact ⟨C, e.trans hc, h1, h2⟩
theorem Row.below {W W' : World} {b n : Nat} {T : TypeId} {h : Nat → Value} (r : Row W b T n h) (hb : Below W.heap.size W W') : Row W' b T n h := r.keep (hb.block _ r.lt)
theorem Row.step {W W' : World} {b n : Nat} {T : TypeId} {h : Nat → Value} {F F' : Nat → Prop} (r : Row W b T n h) (hs : MemStep F F' W W') (hf : ¬ F b) : Row W' b T n h := r.keep (hs.kx.block b r.lt hf)
theorem Row.kx {W W' : World} {b n : Nat} {T : TypeId} {h : Nat → Value} {X : Nat → Prop} (r : Row W b T n h) (hs : KX X W W') (hf : ¬ X b) : Row W' b T n h := r.keep (hs.block b r.lt hf)
theorem Row.congr {W : World} {b n : Nat} {T : TypeId} {h k : Nat → Value} (r : Row W b T n h) (e : ∀ i, i < n → h i = k i) : Row W b T n k := by
  obtain ⟨C, hc, h1, h2⟩ := r
  exact ⟨C, hc, h1, fun i hi => (h2 i hi).trans (by rw [e i hi])⟩
theorem Row.poke {W : World} {b n : Nat} {T : TypeId} {h : Nat → Value} (r : Row W b T n h) {j : Nat} (hj : j < n) (x : Value) : Row (W.setCell ⟨b, j, none⟩ x) b T n (fun i => if i = j then x else h i) := by
  obtain ⟨C, hc, h1, h2⟩ := r
  refine ⟨_, set_cells hc, by simpa using h1, fun i hi => ?_⟩
  rw [set_get (by omega) (h2 i hi)]
theorem Row.of_owns {W : World} {base n : Nat} {T : TypeId} {v : Value} {xs : List Value} {h : Nat → Value} (o : W.ownsRow base T 1 v n xs) (hn : 0 < n) (e : ∀ i, i < n → xs[i]? = some (h i)) : ∃ b c, v = .slice (some ⟨b, 0, none⟩) n c ∧ n ≤ c ∧ base ≤ b ∧ Row W b T n h := by
  rcases o.2 with ⟨rfl, rfl⟩ | ⟨g, cap, cur, rfl, hg, hh, hc, hr⟩
  · omega
  · refine ⟨g, cap, rfl, hc, hg, cur, hh, ?_, fun i hi => ?_⟩
    · have h0 := o.cellAt (n - 1) (by omega)
      rw [e _ (by omega), cell_of_row _ _ _ _ _ _ hh] at h0
      have := (Array.getElem?_eq_some_iff.1 h0).1
      omega
    · rw [← cell_of_row _ _ i _ _ _ hh, o.cellAt i (by omega), e i hi]
def rowL (h : Nat → Value) (n : Nat) : List Value := (List.range n).map h
theorem rowL_get (h : Nat → Value) (n i : Nat) (hi : i < n) : (rowL h n)[i]? = some (h i) := by simp [rowL, hi]
theorem rowL_length (h : Nat → Value) (n : Nat) : (rowL h n).length = n := by simp [rowL]
theorem Row.news {W : World} {b n : Nat} {T : TypeId} {h : Nat → Value} (r : Row W b T n h) : ∀ j u, (rowL h n)[j]? = some u → W.cell? ((⟨b, 0, none⟩ : Addr).add j) = some u := by
  intro j u hu
  have hj : j < n := by have := (List.getElem?_eq_some_iff.1 hu).1; rwa [rowL_length] at this
  rw [rowL_get h n j hj] at hu
  rw [← Option.some.inj hu, Addr.add_lit, Nat.zero_add]
  exact r.cell hj
def cellU (f : Nat → UInt8) : Nat → Value := fun i => B8 (f i)
end Go.Proofs.YtcmbnkmbaghkdaaDoor
namespace Go.Proofs.YtcmbnkmbaghkdaaDoor

/-- The number that the first j bytes at a tell. -/
def gp (f : Nat → UInt8) (a : Nat) : Nat → Nat
  | 0 => 0
  | j + 1 => gp f a j + (f (a + j)).toNat * 256 ^ j
theorem gp_step (f : Nat → UInt8) (a j : Nat) (hj : j < 4) : ((gp f a j : Nat) : Int) + (((f (a + j)).toNat : Nat) : Int) * ((256 ^ j % 4294967296 : Nat) : Int) % 4294967296 = ((gp f a (j + 1) : Nat) : Int) ∧ gp f a (j + 1) < 4294967296 ∧ ((256 ^ j % 4294967296 : Nat) : Int) * 256 % 4294967296 = ((256 ^ (j + 1) % 4294967296 : Nat) : Int) := by
  have h0 := (f a).toNat_lt
  have h1 := (f (a + 1)).toNat_lt
  have h2 := (f (a + 2)).toNat_lt
  have h3 := (f (a + 3)).toNat_lt
  have : j = 0 ∨ j = 1 ∨ j = 2 ∨ j = 3 := by omega
  rcases this with rfl | rfl | rfl | rfl
  all_goals
    simp only [gp, Nat.add_zero]
    refine ⟨?_, ?_, ?_⟩ <;> omega
end Go.Proofs.YtcmbnkmbaghkdaaDoor
namespace Go.Proofs.YtcmbnkmbaghkdaaDoor
open Go.RowKit

theorem putL_append (f : Nat → UInt8) (a : Nat) (l k : List UInt8) : putL (putL f a l) (a + l.length) k = putL f a (l ++ k) := by
  funext j
  show (if a + l.length ≤ j then (k[j - (a + l.length)]?).getD (if a ≤ j then (l[j - a]?).getD (f j) else f j) else (if a ≤ j then (l[j - a]?).getD (f j) else f j)) = if a ≤ j then ((l ++ k)[j - a]?).getD (f j) else f j
  by_cases h : a + l.length ≤ j
  · rw [if_pos h, if_pos (by omega), if_pos (by omega), List.getElem?_append_right (by omega), show j - (a + l.length) = j - a - l.length by omega, List.getElem?_eq_none (l := l) (by omega)]
    rfl
  · rw [if_neg h]
    by_cases h2 : a ≤ j
    · rw [if_pos h2, if_pos h2, List.getElem?_append_left (by omega)]
    · rw [if_neg h2, if_neg h2]
def markL (d : Nat → Bool) (a c : Nat) : Nat → Bool := fun i => d i || decide (0 < c ∧ a / 4096 ≤ i ∧ i ≤ (a + c - 1) / 4096)
theorem markL_zero (d : Nat → Bool) (a : Nat) : markL d a 0 = d := by funext i; simp [markL]
theorem markL_step (d : Nat → Bool) (a c q : Nat) (hq : 0 < q) (h : (a + c) % 4096 + q ≤ 4096) : updD (markL d a c) ((a + c) / 4096) = markL d a (c + q) := by
  funext i
  show (if i = (a + c) / 4096 then true else (d i || decide (0 < c ∧ a / 4096 ≤ i ∧ i ≤ (a + c - 1) / 4096))) = (d i || decide (0 < c + q ∧ a / 4096 ≤ i ∧ i ≤ (a + (c + q) - 1) / 4096))
  by_cases e : i = (a + c) / 4096
  · rw [if_pos e, decide_eq_true (by omega), Bool.or_true]
  · rw [if_neg e]
    congr 1
    apply decide_eq_decide.2
    omega
/-- Bytes at a place of a page are laid. -/
theorem RamAt.lay {W : World} {g gp gd : Nat} {pg : Nat → Option Nat} {bl : Option Nat} {m : Mm} (h : RamAt W g gp gd pg bl m) {i k o : Nat} (hi : i < m.n) (hk : pg i = some k) (l : List UInt8) (ho : o + l.length ≤ 4096) {c : Array Value} (hc : W.heap[k]? = some (.cells c 5 (0, 0))) :
    RamAt (W.setRow k (c.toList.take o ++ (l.map B8 ++ c.toList.drop (o + (l.map B8).length))).toArray) g gp gd pg bl { m with f := putL m.f (4096 * i + o) l } := by
  obtain ⟨n1, n2, n3, n4, n5⟩ := h.foot_ne
  obtain ⟨k1, k2, k3⟩ := n4 i k hi hk
  obtain ⟨c', hc', hs, h2⟩ := h.pb i k hi hk
  obtain rfl : c = c' := by rw [hc] at hc'; injection hc' with hc'; injection hc'
  have hll : (l.map B8).length = l.length := List.length_map _
  generalize hR : (c.toList.take o ++ (l.map B8 ++ c.toList.drop (o + (l.map B8).length))).toArray = R
  have hRs : 4096 ≤ R.size := by
    rw [← hR]
    simp only [List.size_toArray, List.length_append, List.length_take, List.length_drop, hll, Array.length_toList]
    omega
  have ho' : ∀ k', k' ≠ k → (W.setRow k R).heap[k']? = W.heap[k']? := fun k' hk => heap_row_other hk
  have hRg : ∀ y, y < 4096 → R[y]? = some (B8 (putL m.f (4096 * i + o) l (4096 * i + y))) := fun y hy => by
    have e : putL m.f (4096 * i + o) l (4096 * i + y) = if o ≤ y then (l[y - o]?).getD (m.f (4096 * i + y)) else m.f (4096 * i + y) := by
      unfold putL
      by_cases hoy : o ≤ y
      · rw [if_pos hoy, if_pos (by omega), show 4096 * i + y - (4096 * i + o) = y - o by omega]
      · rw [if_neg hoy, if_neg (by omega)]
    rw [e, ← hR, List.getElem?_toArray]
    have hcy := h2 y hy
    by_cases h1 : y < o
    · rw [List.getElem?_append_left (by simp; omega), List.getElem?_take_of_lt h1, Array.getElem?_toList, hcy, if_neg (by omega)]
    · rw [if_pos (by omega), List.getElem?_append_right (by simp; omega)]
      have ht : (c.toList.take o).length = o := by simp; omega
      rw [ht]
      by_cases h3 : y - o < l.length
      · rw [List.getElem?_append_left (by rw [hll]; exact h3), List.getElem?_map, List.getElem?_eq_getElem h3]
        rfl
      · rw [List.getElem?_append_right (by rw [hll]; omega), hll, List.getElem?_drop, Array.getElem?_toList, show o + l.length + (y - o - l.length) = y by omega, hcy, List.getElem?_eq_none (by omega)]
        rfl
  exact {
    n1 := h.n1
    n2 := h.n2
    r := (ho' g (Ne.symm k1)).trans h.r
    p := by
      obtain ⟨c, hc, h2⟩ := h.p
      exact ⟨c, (ho' gp (Ne.symm k2)).trans hc, h2⟩
    q := by
      obtain ⟨c, hc, h2⟩ := h.q
      exact ⟨c, (ho' gd (Ne.symm k3)).trans hc, h2⟩
    pb := fun i' k' hi' hk' => by
      by_cases e : i' = i
      · subst e
        obtain rfl : k = k' := Option.some.inj (hk.symm.trans hk')
        exact ⟨R, setRow_heap _ _ _ _ _ _ hc, hRs, hRg⟩
      · have hne : k' ≠ k := fun e' => e (h.inj i' i k' hi' hi hk' (e' ▸ hk))
        obtain ⟨c, hc, hs, h2⟩ := (h.pb i' k' hi' hk').keep (ho' k' hne)
        refine ⟨c, hc, hs, fun y hy => ?_⟩
        rw [h2 y hy]
        show _ = some (B8 (putL m.f (4096 * i + o) l (4096 * i' + y)))
        unfold putL
        by_cases h1 : 4096 * i + o ≤ 4096 * i' + y
        · rw [if_pos h1, List.getElem?_eq_none (by omega)]; rfl
        · rw [if_neg h1]
    pz := fun i' hi' hp y hy => by
      show putL m.f (4096 * i + o) l (4096 * i' + y) = 0
      have hne : i' ≠ i := fun e => by subst e; rw [hk] at hp; cases hp
      unfold putL
      by_cases h1 : 4096 * i + o ≤ 4096 * i' + y
      · rw [if_pos h1, List.getElem?_eq_none (by omega)]; exact h.pz i' hi' hp y hy
      · rw [if_neg h1]; exact h.pz i' hi' hp y hy
    bz := fun k' hk' => (h.bz k' hk').keep (ho' k' (fun e => h.nb i k hi hk (e ▸ hk')))
    inj := h.inj
    nb := h.nb
    dl := h.dl
    pl := h.pl
    pn := h.pn }
/-- Bytes that lie elsewhere. -/
def BytesAt (w : World) (ao : Option Addr) (l : List UInt8) (F : Nat → Prop) : Prop := l ≠ [] → ∃ b o, ao = some ⟨b, o, none⟩ ∧ b < w.heap.size ∧ ¬ F b ∧ ∀ j x, l[j]? = some x → w.cell? ⟨b, o + j, none⟩ = some (B8 x)
def Mm.write (m : Mm) (a : Nat) (l : List UInt8) : Mm := { m with f := putL m.f a l, d := markL m.d a l.length, wr := if l = [] then m.wr else wrap64 (m.wr + 1) }

theorem wpList_copy_to {P : Program} {w : World} {ops : Array Oper} {rest : List Oper} {o : Oper} {a : Act} {Q : Exit → Act → World → Prop} (hgd : o.guard = none) (d s : Operand) (dT sT : TypeId)
    (ho : o.op = .call { callee := .builtin .copy, args := #[d, s], argTypes := #[dT, sT] }) (elem : TypeId) (hu : P.underlying dT = some (.slice elem)) (hsz : (P.info? elem).map (·.size) = some 1)
    (g off dLen dCap : Nat) (ad : Addr) (sLen sCap : Nat) (hd : a.eval d = .slice (some ⟨g, off, none⟩) dLen dCap) (hs : a.eval s = .slice (some ad) sLen sCap)
    (cur : Array Value) (t : TypeId) (hg : w.heap[g]? = some (.cells cur t (0, 0))) (cs : List Value) (q : Nat) (hq : cs.length = q) (hn : q = Nat.min sLen dLen)
    (hsrc : ∀ j v, cs[j]? = some v → w.cell? (ad.add j) = some v) (hfit : off + q ≤ cur.size) (h1 : ∀ v ∈ cs, v.oneCell' = true)
    (h : ∀ w', Hid (w' = w.setRow g (cur.toList.take off ++ (cs ++ cur.toList.drop (off + cs.length))).toArray) → wpList P ops Q rest (a.put o.dst (goInt q)) w') : wpList P ops Q (o :: rest) a w := by
  subst hq
  exact wpList_copy_own hgd d s dT sT ho elem hu hsz g off dLen dCap ad sLen sCap hd hs cur t hg cs hn hsrc hfit h1 (h _ (Lib.hid rfl))
theorem RamIs.count {w : World} {g : Nat} {m : Mm} {F : Nat → Prop} (h : RamIs w g m F) : w.cell? ⟨g, 2, none⟩ = some (.int .i64 m.wr) ∧ w.frozen? ⟨g, 2, none⟩ = false ∧ ∀ v, RamIs (w.setCell ⟨g, 2, none⟩ (.int .i64 v)) g { m with wr := v } F ∧ MemStep F F w (w.setCell ⟨g, 2, none⟩ (.int .i64 v)) := by
  obtain ⟨gp, gd, pg, bl, h, hf, hl⟩ := h
  exact ⟨h.c2, h.fz 2, fun v => ⟨⟨gp, gd, pg, bl, h.count v, hf, fun k hk => by simpa [World.setCell] using hl k hk⟩, ⟨(KX.refl F w).setCell (p := ⟨g, 2, none⟩) (.inl (hf _ (.inl rfl))) _, fun _ h => .inl h⟩⟩⟩
theorem BytesAt.kx {w w' : World} {ao : Option Addr} {l : List UInt8} {F F' : Nat → Prop} (h : BytesAt w ao l F) (hs : MemStep F F' w w') : BytesAt w' ao l F' := fun hne => by
  obtain ⟨b, o, h1, h2, h3, h4⟩ := h hne
  exact ⟨b, o, h1, Nat.lt_of_lt_of_le h2 hs.kx.size, hs.off h2 h3, fun j x hj => (hs.kx.cell (p := ⟨b, o + j, none⟩) h2 h3).trans (h4 j x hj)⟩
theorem BytesAt.cells {w : World} {b o : Nat} {l : List UInt8} {F : Nat → Prop} (h : BytesAt w (some ⟨b, o, none⟩) l F) (q : Nat) : ∀ j v, ((l.take q).map B8)[j]? = some v → w.cell? ((⟨b, o, none⟩ : Addr).add j) = some v := fun j v hj => by
  rw [List.getElem?_map] at hj
  have hjq : j < (l.take q).length := by
    rcases Nat.lt_or_ge j (l.take q).length with h1 | h1
    · exact h1
    · rw [List.getElem?_eq_none h1] at hj; cases hj
  have hlt := hjq
  simp only [List.length_take] at hlt
  obtain ⟨b', o', h1, h2, h3, h4⟩ := h (fun e => by subst e; simp at hlt)
  obtain ⟨rfl, rfl⟩ : b = b' ∧ o = o' := by simpa using h1
  rw [List.getElem?_take_of_lt (by omega), List.getElem?_eq_getElem (by omega)] at hj
  rw [Addr.add_lit, h4 j _ (List.getElem?_eq_getElem (by omega))]
  simpa using hj
theorem BytesAt.drop {w : World} {b o : Nat} {l : List UInt8} {F : Nat → Prop} (h : BytesAt w (some ⟨b, o, none⟩) l F) (q : Nat) : BytesAt w (some ⟨b, o + q, none⟩) (l.drop q) F := fun hne => by
  obtain ⟨b', o', h1, h2, h3, h4⟩ := h (fun e => hne (by rw [e]; simp))
  obtain ⟨rfl, rfl⟩ : b = b' ∧ o = o' := by simpa using h1
  exact ⟨b, o + q, rfl, h2, h3, fun j x hj => by
    rw [List.getElem?_drop] at hj
    rw [Nat.add_assoc]
    exact h4 _ _ hj⟩

set_option maxRecDepth 100000 in
set_option maxHeartbeats 1600000 in
theorem mem_Write_ok {g : Nat} {m : Mm} {F : Nat → Prop} {w : World} (h : RamIs w g m F) (a : Nat) (ao : Option Addr) (l : List UInt8) (cap : Nat) (ha : a < 4294967296) (hs : a + l.length ≤ 4096 * m.n) (hb : BytesAt w ao l F) (hcap : l.length ≤ cap) :
    Calls Tryd.prog 29 #[.pointer (some ⟨g, 0, none⟩), .int .u32 a, .slice ao l.length cap] w fun e w' => ∃ F', e = .returned .nilIface ∧ RamIs w' g (m.write a l) F' ∧ MemStep F F' w w' := by
  have HC := Lib.hid (mem_run_ok h a l.length hs)
  have HOW := Lib.hid (fun W M F (hW : RamIs W g M F) i (hi : i < M.n) => mem_own hW i hi)
  have hn2 := h.n2
  have HH := Lib.hid h
  have HB := Lib.hid hb
  obtain ⟨n, hn⟩ : ∃ n, n = l.length := ⟨_, rfl⟩
  have HN := Lib.hid hn
  rw [← hn] at HC hs hcap ⊢
  clear h hb hn
  have hn26 : n ≤ 67108864 := by omega
  by_cases h0 : n = 0
  · subst h0
    have hl : l = [] := List.eq_nil_of_length_eq_zero HN.out.symm
    go_enter Tryd.func29, Tryd.ntmps29
    go_wp2_with fail
    refine (HC.out).mono ?_
    rintro e w' ⟨rfl, rfl⟩
    go_wp2_with fail
    go_loopw [2, 8] (fun v i wr => v = .slice ao 0 cap ∧ wr = w) (fun v i _ => lenV v)
    case atStart => exact ⟨rfl, rfl⟩
    case round =>
      obtain ⟨rfl, rfl⟩ := hrel
      go_wp2_with fail
      go_ret
      refine ⟨F, rfl, ?_, MemStep.refl _ _⟩
      subst hl
      have e : m.write a [] = m := by unfold Mm.write; rw [putL_nil, List.length_nil, markL_zero]; rfl
      rw [e]
      exact HH.out
  · have hn0 : (0 : Int) < (n : Int) := by omega
    go_enter Tryd.func29, Tryd.ntmps29
    go_wp2_with fail
    refine (HC.out).mono ?_
    rintro e w' ⟨rfl, rfl⟩
    obtain ⟨c2, f2, hcnt⟩ := HH.out.count
    have HCT := Lib.hid (counter_add ⟨g, 2, none⟩ _ w c2 f2)
    have HX := Lib.hid (hcnt (wrap64 (m.wr + 1)))
    clear c2 f2 hcnt
    go_wp2_with fail
    refine (HCT.out).mono ?_
    rintro e w' ⟨rfl, rfl⟩
    generalize w.setCell ⟨g, 2, none⟩ (.int .i64 (wrap64 (m.wr + 1))) = w0 at HX
    go_wp2_with fail
    go_loopw [2, 8] (fun v i wr => ∃ (c p : Nat) (av : Option Addr) (F' : Nat → Prop), c ≤ n ∧ v = .slice av (n - c) (cap - c) ∧ i = .int .i64 p ∧ (c < n → p = a + c) ∧ p ≤ 4294967296 ∧ RamIs wr g { m with f := putL m.f a (l.take c), d := markL m.d a c, wr := wrap64 (m.wr + 1) } F' ∧ MemStep F F' w wr ∧ BytesAt wr av (l.drop c) F') (fun v i _ => lenV v)
    case atStart => exact ⟨0, a, ao, F, by omega, rfl, rfl, fun _ => rfl, by omega, by rw [List.take_zero, putL_nil, markL_zero]; exact HX.out.1, HX.out.2, HB.out.kx HX.out.2⟩
    case round =>
      obtain ⟨c, p, av, F', hc, rfl, rfl, hp, hp4, hri, hst, hby⟩ := hrel
      have HR := Lib.hid hri
      have HS := Lib.hid hst
      have HY := Lib.hid hby
      clear hri hst hby
      by_cases hlt : c < n
      · obtain rfl := hp hlt
        have hi : (a + c) / 4096 < m.n := by omega
        have HA := Lib.hid (HOW.out wr _ F' HR.out ((a + c) / 4096) hi)
        have hcn : (0 : Int) < ((n - c : Nat) : Int) := by omega
        obtain ⟨b, o, rfl, hbl, hbf, hbc⟩ := HY.out (fun e => by have := congrArg List.length e; simp at this; have := HN.out; omega)
        clear hp hbc
        go_wp2_with fail
        refine (HA.out).mono ?_
        rintro e w1 ⟨gp, gd, pg, bl, k, ck, F1, rfl, hck, hra, hpg, hf, hl1, hst1⟩
        have HRA := Lib.hid hra
        have HPG := Lib.hid hpg
        have HF := Lib.hid hf
        have HL := Lib.hid hl1
        have HS1 := Lib.hid (HS.out.trans hst1)
        have HY1 := Lib.hid (HY.out.kx hst1)
        obtain ⟨cur, hcur, hcs, _⟩ := hra.pb _ k hi hpg
        have hfk : F1 k := hf _ (.inr (.inr (.inr (.inr ⟨_, hi, hpg⟩))))
        have HCUR := Lib.hid hcur
        have HFK := Lib.hid hfk
        clear hra hpg hf hl1 hst1 hcur hfk hbl hbf
        by_cases hm : 4096 - (a + c) % 4096 ≤ n - c
        · have HQL : Hid (((l.drop c).take (4096 - (a + c) % 4096)).length = 4096 - (a + c) % 4096) := Lib.hid (by rw [List.length_take, List.length_drop, ← HN.out]; omega)
          have HQM : Hid ((((l.drop c).take (4096 - (a + c) % 4096)).map B8).length = 4096 - (a + c) % 4096) := Lib.hid (by rw [List.length_map, HQL.out])
          have HSRC := Lib.hid (HY1.out.cells (4096 - (a + c) % 4096))
          have H1C : Hid (∀ u ∈ ((l.drop c).take (4096 - (a + c) % 4096)).map B8, u.oneCell' = true) := Lib.hid (fun u hu => by
            obtain ⟨x, _, rfl⟩ := List.mem_map.1 hu
            rfl)
          have hlay := HRA.out.lay (o := (a + c) % 4096) hi HPG.out ((l.drop c).take (4096 - (a + c) % 4096)) (by rw [HQL.out]; omega) HCUR.out
          have hput : putL (putL m.f a (l.take c)) (4096 * ((a + c) / 4096) + (a + c) % 4096) ((l.drop c).take (4096 - (a + c) % 4096)) = putL m.f a (l.take (c + (4096 - (a + c) % 4096))) := by
            have e : 4096 * ((a + c) / 4096) + (a + c) % 4096 = a + (l.take c).length := by rw [List.length_take, ← HN.out]; omega
            rw [e, putL_append, List.take_add]
          have hmk := markL_step m.d a c (4096 - (a + c) % 4096) (by omega) (by omega)
          have HLAY : Hid (RamAt (w1.setRow k (cur.toList.take ((a + c) % 4096) ++ (((l.drop c).take (4096 - (a + c) % 4096)).map B8 ++ cur.toList.drop ((a + c) % 4096 + (((l.drop c).take (4096 - (a + c) % 4096)).map B8).length))).toArray) g gp gd pg bl { m with f := putL m.f a (l.take (c + (4096 - (a + c) % 4096))), d := markL m.d a (c + (4096 - (a + c) % 4096)), wr := wrap64 (m.wr + 1) }) := Lib.hid (by
            rw [← hput, ← hmk]
            exact hlay)
          have HYD := Lib.hid (HY1.out.drop (4096 - (a + c) % 4096))
          clear hlay hput hmk
          generalize ((l.drop c).take (4096 - (a + c) % 4096)).map B8 = cs at HQM HSRC H1C HLAY
          go_wp2_with (refine wpList_copy_to rfl _ _ 136 62 rfl 5 Tryd.underlying136 (by kernel_rfl) k ((a + c) % 4096) _ _ ⟨b, o, none⟩ _ _ rfl rfl cur 5 HCUR.out cs (4096 - (a + c) % 4096) HQM.out ?hn HSRC.out ?hfit H1C.out ?hK)
          case hn => simp only [Nat.min_def]; split <;> omega
          case hfit => omega
          intro w2 hw2
          rw [← hw2.out] at HLAY
          have HMS : Hid (MemStep F1 F1 w1 w2) := Lib.hid (by rw [hw2.out]; exact ⟨(KX.refl F1 w1).setRow (.inl HFK.out) _, fun _ h => .inl h⟩)
          have HSZ : Hid (w2.heap.size = w1.heap.size) := Lib.hid (by rw [hw2.out]; simp [World.setRow])
          clear hw2
          have hcq0 : (0 : Int) ≤ ((4096 - (a + c) % 4096 : Nat) : Int) := by omega
          have hcq1 : ((4096 - (a + c) % 4096 : Nat) : Int) ≤ ((n - c : Nat) : Int) := by omega
          have hcq2 : ((n - c : Nat) : Int) ≤ ((cap - c : Nat) : Int) := by omega
          by_cases hsel : cap - c = 4096 - (a + c) % 4096
          · have hsel1 : (if cap - c = 4096 - (a + c) % 4096 then some (⟨b, o, none⟩ : Addr) else some ⟨b, o + (4096 - (a + c) % 4096), none⟩) = some ⟨b, o, none⟩ := if_pos hsel
            have HE : Hid (c + (4096 - (a + c) % 4096) = n) := Lib.hid (by omega)
            clear hsel
            go_wp2_with fail
            go_roundw
            case rel => exact ⟨c + (4096 - (a + c) % 4096), ((a + c) / 4096 + 1) * 4096, _, F1, by omega, by first | rfl | (congr 1 <;> omega), by go_num, by omega, by omega, ⟨gp, gd, pg, bl, HLAY.out, HF.out, fun k hk => by rw [HSZ.out]; exact HL.out k hk⟩, HS1.out.trans HMS.out, fun hne => by exact absurd (List.drop_of_length_le (by rw [HE.out, HN.out]; exact Nat.le_refl _)) hne⟩
            case measure => simp [lenV]; omega
          · have hsel1 : (if cap - c = 4096 - (a + c) % 4096 then some (⟨b, o, none⟩ : Addr) else some ⟨b, o + (4096 - (a + c) % 4096), none⟩) = some ⟨b, o + (4096 - (a + c) % 4096), none⟩ := if_neg hsel
            clear hsel
            go_wp2_with fail
            go_roundw
            case rel => exact ⟨c + (4096 - (a + c) % 4096), ((a + c) / 4096 + 1) * 4096, _, F1, by omega, by first | rfl | (congr 1 <;> omega), by go_num, by omega, by omega, ⟨gp, gd, pg, bl, HLAY.out, HF.out, fun k hk => by rw [HSZ.out]; exact HL.out k hk⟩, HS1.out.trans HMS.out, by have h := HYD.out.kx HMS.out; rw [List.drop_drop] at h; exact h⟩
            case measure => simp [lenV]; omega
        · have HQL : Hid (((l.drop c).take (n - c)).length = n - c) := Lib.hid (by rw [List.length_take, List.length_drop, ← HN.out]; omega)
          have HQM : Hid ((((l.drop c).take (n - c)).map B8).length = n - c) := Lib.hid (by rw [List.length_map, HQL.out])
          have HSRC := Lib.hid (HY1.out.cells (n - c))
          have H1C : Hid (∀ u ∈ ((l.drop c).take (n - c)).map B8, u.oneCell' = true) := Lib.hid (fun u hu => by
            obtain ⟨x, _, rfl⟩ := List.mem_map.1 hu
            rfl)
          have hlay := HRA.out.lay (o := (a + c) % 4096) hi HPG.out ((l.drop c).take (n - c)) (by rw [HQL.out]; omega) HCUR.out
          have hput : putL (putL m.f a (l.take c)) (4096 * ((a + c) / 4096) + (a + c) % 4096) ((l.drop c).take (n - c)) = putL m.f a (l.take (c + (n - c))) := by
            have e : 4096 * ((a + c) / 4096) + (a + c) % 4096 = a + (l.take c).length := by rw [List.length_take, ← HN.out]; omega
            rw [e, putL_append, List.take_add]
          have hmk := markL_step m.d a c (n - c) (by omega) (by omega)
          have HLAY : Hid (RamAt (w1.setRow k (cur.toList.take ((a + c) % 4096) ++ (((l.drop c).take (n - c)).map B8 ++ cur.toList.drop ((a + c) % 4096 + (((l.drop c).take (n - c)).map B8).length))).toArray) g gp gd pg bl { m with f := putL m.f a (l.take (c + (n - c))), d := markL m.d a (c + (n - c)), wr := wrap64 (m.wr + 1) }) := Lib.hid (by
            rw [← hput, ← hmk]
            exact hlay)
          have HYD := Lib.hid (HY1.out.drop (n - c))
          clear hlay hput hmk
          generalize ((l.drop c).take (n - c)).map B8 = cs at HQM HSRC H1C HLAY
          go_wp2_with (refine wpList_copy_to rfl _ _ 136 62 rfl 5 Tryd.underlying136 (by kernel_rfl) k ((a + c) % 4096) _ _ ⟨b, o, none⟩ _ _ rfl rfl cur 5 HCUR.out cs (n - c) HQM.out ?hnn HSRC.out ?hfitn H1C.out ?hKn)
          case hnn => simp only [Nat.min_def]; split <;> omega
          case hfitn => omega
          intro w2 hw2
          rw [← hw2.out] at HLAY
          have HMS : Hid (MemStep F1 F1 w1 w2) := Lib.hid (by rw [hw2.out]; exact ⟨(KX.refl F1 w1).setRow (.inl HFK.out) _, fun _ h => .inl h⟩)
          have HSZ : Hid (w2.heap.size = w1.heap.size) := Lib.hid (by rw [hw2.out]; simp [World.setRow])
          clear hw2
          have hcq0 : (0 : Int) ≤ ((n - c : Nat) : Int) := by omega
          have hcq1 : ((n - c : Nat) : Int) ≤ ((n - c : Nat) : Int) := by omega
          have hcq2 : ((n - c : Nat) : Int) ≤ ((cap - c : Nat) : Int) := by omega
          by_cases hsel : cap - c = n - c
          · have hsel1 : (if cap - c = n - c then some (⟨b, o, none⟩ : Addr) else some ⟨b, o + (n - c), none⟩) = some ⟨b, o, none⟩ := if_pos hsel
            have HE : Hid (c + (n - c) = n) := Lib.hid (by omega)
            clear hsel
            go_wp2_with fail
            go_roundw
            case rel => exact ⟨c + (n - c), ((a + c) / 4096 + 1) * 4096, _, F1, by omega, by first | rfl | (congr 1 <;> omega), by go_num, by omega, by omega, ⟨gp, gd, pg, bl, HLAY.out, HF.out, fun k hk => by rw [HSZ.out]; exact HL.out k hk⟩, HS1.out.trans HMS.out, fun hne => by exact absurd (List.drop_of_length_le (by rw [HE.out, HN.out]; exact Nat.le_refl _)) hne⟩
            case measure => simp [lenV]; omega
          · have hsel1 : (if cap - c = n - c then some (⟨b, o, none⟩ : Addr) else some ⟨b, o + (n - c), none⟩) = some ⟨b, o + (n - c), none⟩ := if_neg hsel
            clear hsel
            go_wp2_with fail
            go_roundw
            case rel => exact ⟨c + (n - c), ((a + c) / 4096 + 1) * 4096, _, F1, by omega, by first | rfl | (congr 1 <;> omega), by go_num, by omega, by omega, ⟨gp, gd, pg, bl, HLAY.out, HF.out, fun k hk => by rw [HSZ.out]; exact HL.out k hk⟩, HS1.out.trans HMS.out, by have h := HYD.out.kx HMS.out; rw [List.drop_drop] at h; exact h⟩
            case measure => simp [lenV]; omega
      · obtain rfl : n = c := by omega
        clear hp
        go_wp2_with fail
        go_ret
        refine ⟨F', rfl, ?_, HS.out⟩
        have h1 := HR.out
        rw [List.take_of_length_le (by rw [HN.out]; exact Nat.le_refl _), HN.out] at h1
        have e : m.write a l = { m with f := putL m.f a l, d := markL m.d a l.length, wr := wrap64 (m.wr + 1) } := by
          unfold Mm.write
          rw [if_neg (fun e => h0 (by rw [HN.out, e]; rfl))]
        rw [e]
        exact h1
end Go.Proofs.YtcmbnkmbaghkdaaDoor
namespace Go.Proofs.YtcmbnkmbaghkdaaDoor
open Go.RowKit

def isErr (q : Nat) : Prop := q = 1 ∨ q = 2 ∨ q = 4 ∨ q = 5 ∨ q = 21
theorem errV_val {q : Nat} (h : 0 < q) : errV q = .iface 104 (.int .i64 (q : Int)) := by unfold errV; rw [if_neg (by omega)]
set_option maxRecDepth 100000 in
theorem mem_Store_err {g : Nat} (a : Nat) (k : Int) (v q : Nat) {w : World} (hq : 0 < q) (HC : Hid (Calls Tryd.prog 59 #[.pointer (some ⟨g, 0, none⟩), .int .u32 a, .int .i64 k] w fun e w' => e = .returned (errV q) ∧ w = w')) :
    Calls Tryd.prog 26 #[.pointer (some ⟨g, 0, none⟩), .int .u32 a, .int .i64 k, .int .u32 v] w fun e w' => e = .returned (errV q) ∧ w = w' := by
  rw [errV_val hq] at HC ⊢
  clear hq
  generalize (q : Int) = z at HC ⊢
  go_enter Tryd.func26, Tryd.ntmps26
  go_wp2_with fail
  refine (HC.out).mono ?_
  rintro e w' ⟨rfl, rfl⟩
  go_wp2_with fail
  go_ret
  exact ⟨rfl, rfl⟩
set_option maxRecDepth 100000 in
theorem mem_Read_err {g : Nat} (a : Nat) (k : Int) (q : Nat) {w : World} (hq : 0 < q) (HC : Hid (Calls Tryd.prog 53 #[.pointer (some ⟨g, 0, none⟩), .int .u32 a, .int .i64 k] w fun e w' => e = .returned (errV q) ∧ w = w')) :
    Calls Tryd.prog 21 #[.pointer (some ⟨g, 0, none⟩), .int .u32 a, .int .i64 k] w fun e w' => e = .returned (.tuple #[.slice none 0 0, errV q]) ∧ w = w' := by
  rw [errV_val hq] at HC ⊢
  clear hq
  generalize (q : Int) = z at HC ⊢
  go_enter Tryd.func21, Tryd.ntmps21
  go_wp2_with fail
  refine (HC.out).mono ?_
  rintro e w' ⟨rfl, rfl⟩
  go_wp2_with fail
  go_ret2
  exact ⟨rfl, rfl⟩
set_option maxRecDepth 100000 in
theorem mem_Write_err {g : Nat} (a n cap : Nat) (ao : Option Addr) (q : Nat) {w : World} (hq : 0 < q) (HC : Hid (Calls Tryd.prog 53 #[.pointer (some ⟨g, 0, none⟩), .int .u32 a, .int .i64 n] w fun e w' => e = .returned (errV q) ∧ w = w')) :
    Calls Tryd.prog 29 #[.pointer (some ⟨g, 0, none⟩), .int .u32 a, .slice ao n cap] w fun e w' => e = .returned (errV q) ∧ w = w' := by
  rw [errV_val hq] at HC ⊢
  clear hq
  generalize (q : Int) = z at HC ⊢
  go_enter Tryd.func29, Tryd.ntmps29
  go_wp2_with fail
  refine (HC.out).mono ?_
  rintro e w' ⟨rfl, rfl⟩
  go_wp2_with fail
  go_ret
  exact ⟨rfl, rfl⟩
theorem mem_Read_range {g : Nat} {m : Mm} {F : Nat → Prop} {w : World} (h : RamIs w g m F) (a k : Nat) (ha : a < 4294967296) (hk : k < 9223372036854775808) (hs : 4096 * m.n < a + k) :
    Calls Tryd.prog 21 #[.pointer (some ⟨g, 0, none⟩), .int .u32 a, .int .i64 k] w fun e w' => e = .returned (.tuple #[.slice none 0 0, errV 4]) ∧ w = w' := mem_Read_err a k 4 (by omega) (Lib.hid (mem_run_range h a k ha hk hs))
theorem mem_Write_range {g : Nat} {m : Mm} {F : Nat → Prop} {w : World} (h : RamIs w g m F) (a n cap : Nat) (ao : Option Addr) (ha : a < 4294967296) (hk : n < 9223372036854775808) (hs : 4096 * m.n < a + n) :
    Calls Tryd.prog 29 #[.pointer (some ⟨g, 0, none⟩), .int .u32 a, .slice ao n cap] w fun e w' => e = .returned (errV 4) ∧ w = w' := mem_Write_err a n cap ao 4 (by omega) (Lib.hid (mem_run_range h a n ha hk hs))
end Go.Proofs.YtcmbnkmbaghkdaaDoor
namespace Go.Proofs.YtcmbnkmbaghkdaaDoor
open Go.RowKit

def Mm.new (n : Nat) : Mm := { n := n, f := fun _ => 0, d := fun _ => false, wr := 0, dc := n, pc := fun _ => 4096 }
def nilPages (n : Nat) : Array Value := madeCells #[.slice none 0 0] n
def zeroInts (n : Nat) : Array Value := madeCells #[.int .i64 0] n
theorem nilPages_get {n j : Nat} (hj : j < n) : (nilPages n)[j]? = some (.slice none 0 0) := by
  unfold nilPages madeCells
  simp [hj, Nat.mod_one]
theorem zeroInts_get {n j : Nat} (hj : j < n) : (zeroInts n)[j]? = some (.int .i64 0) := by
  unfold zeroInts madeCells
  simp [hj, Nat.mod_one]
theorem make_pages (n : Nat) (h : n ≤ 16384) (w : World) : (Instr.makeSlice 142 (.int .i64 n) (.int .i64 n)).run Tryd.prog w = .ok (.slice (some ⟨w.heap.size, 0, none⟩) n n) (w.alloc (.cells (nilPages n) 136)) := by
  obtain ⟨i, hi, hz, hs, hb⟩ := info_of info_page
  have h := run_make (P := Tryd.prog) w 142 136 i _ Tryd.underlying142 hi hz .i64 .i64 n n (by omega) (by omega) (by rw [hb]; omega) (by omega)
  rw [hs, Int.toNat_natCast, Nat.mul_one] at h
  exact h
theorem make_ints (n : Nat) (h : n ≤ 16384) (w : World) : (Instr.makeSlice 143 (.int .i64 n) (.int .i64 n)).run Tryd.prog w = .ok (.slice (some ⟨w.heap.size, 0, none⟩) n n) (w.alloc (.cells (zeroInts n) 3)) := by
  obtain ⟨i, hi, hz, hs, hb⟩ := info_of info_int
  have h := run_make (P := Tryd.prog) w 143 3 i _ Tryd.underlying143 hi hz .i64 .i64 n n (by omega) (by omega) (by rw [hb]; omega) (by omega)
  rw [hs, Int.toNat_natCast, Nat.mul_one] at h
  exact h
theorem RamAt.fresh {W : World} {g gp gd n : Nat} (n1 : 1 ≤ n) (n2 : n ≤ 16384) (hg : W.heap[g]? = some (.cells (ramRow gp gd n n 0 none) 159 (0, 0))) (hp : W.heap[gp]? = some (.cells (nilPages n) 136 (0, 0))) (hd : W.heap[gd]? = some (.cells (zeroInts n) 3 (0, 0))) :
    RamAt W g gp gd (fun _ => none) none (Mm.new n) where
  n1 := n1
  n2 := n2
  r := hg
  p := ⟨_, hp, size_madeCells _ _, fun _ hi => nilPages_get hi⟩
  q := ⟨_, hd, by unfold zeroInts; rw [size_madeCells]; exact Nat.le_refl _, fun _ hi => zeroInts_get hi⟩
  pb := fun _ _ _ h => by cases h
  pz := fun _ _ _ _ _ => rfl
  bz := fun _ h => by cases h
  inj := fun _ _ _ _ _ h => by cases h
  nb := fun _ _ _ h => by cases h
  dl := Nat.le_refl _
  pl := fun _ _ => Nat.le_refl _
  pn := fun _ _ _ => rfl

theorem three_new (w : World) (A B C : Obj) : (((w.alloc A).alloc B).alloc C).drew.heap[w.heap.size]? = some A ∧ (((w.alloc A).alloc B).alloc C).drew.heap[w.heap.size + 1]? = some B ∧ (((w.alloc A).alloc B).alloc C).drew.heap[w.heap.size + 1 + 1]? = some C ∧
    (((w.alloc A).alloc B).alloc C).drew.heap.size = w.heap.size + 3 ∧ Below w.heap.size w (((w.alloc A).alloc B).alloc C).drew := by
  refine ⟨?_, ?_, ?_, by simp, ((((Below.refl _ _).alloc (Nat.le_refl _) _).alloc (by simp) _).alloc (by simp; omega) _).drew⟩
  · show (((w.alloc A).alloc B).alloc C).heap[w.heap.size]? = _
    rw [Below.heap_alloc _ _ _ (by simp; omega), Below.heap_alloc _ _ _ (by simp)]
    exact heap_alloc_new _ _
  · show (((w.alloc A).alloc B).alloc C).heap[w.heap.size + 1]? = _
    rw [Below.heap_alloc _ _ _ (by simp)]
    have := heap_alloc_new (w.alloc A) B
    simpa using this
  · show (((w.alloc A).alloc B).alloc C).heap[w.heap.size + 1 + 1]? = _
    have := heap_alloc_new ((w.alloc A).alloc B) C
    simpa using this
theorem new_is {W : World} {s n : Nat} {a b : Nat} (n1 : 1 ≤ n) (n2 : n ≤ 16384) (hg : W.heap[s + 1 + 1]? = some (.cells (ramRow a b n n 0 none) 159 (0, 0))) (hp : W.heap[a]? = some (.cells (nilPages n) 136 (0, 0))) (hd : W.heap[b]? = some (.cells (zeroInts n) 3 (0, 0))) (hs : W.heap.size = s + 3) (ha : s ≤ a) (hb : s ≤ b) :
    RamIs W (s + 1 + 1) (Mm.new n) (fun k => s ≤ k ∧ k < s + 3) := by
  have hlp := lt_heap hp
  have hld := lt_heap hd
  refine ⟨a, b, _, _, RamAt.fresh n1 n2 hg hp hd, fun k hk => ?_, fun k hk => ?_⟩
  · rcases hk with rfl | rfl | rfl | hb | ⟨i, hi, hb⟩
    · exact ⟨by omega, by omega⟩
    · exact ⟨ha, by omega⟩
    · exact ⟨hb, by omega⟩
    · cases hb
    · cases hb
  · have := hk.2
    omega

set_option maxRecDepth 100000 in
set_option maxHeartbeats 1600000 in
theorem mem_New_ok (n : Nat) (w : World) (n1 : 1 ≤ n) (n2 : n ≤ 16384) :
    Calls Tryd.prog 38 #[.int .i64 n] w fun e w' => ∃ g F', e = .returned (.tuple #[.pointer (some ⟨g, 0, none⟩), .nilIface]) ∧ RamIs w' g (Mm.new n) F' ∧ (∀ k, F' k → w.heap.size ≤ k) ∧ Below w.heap.size w w' := by
  have hm1 := make_pages n n2
  have hm2 := make_ints n n2
  go_enter Tryd.func38, Tryd.ntmps38
  go_wp2
  go_region
  all_goals go_wp2
  all_goals go_ret2
  · exact ⟨w.heap.size + 1 + 1, _, rfl, (new_is n1 n2 (three_new w _ _ _).2.2.1 (three_new w _ _ _).1 (three_new w _ _ _).2.1 (three_new w _ _ _).2.2.2.1 (Nat.le_refl _) (Nat.le_succ _)), fun k h => h.1, (three_new w _ _ _).2.2.2.2⟩
  · exact ⟨w.heap.size + 1 + 1, _, rfl, (new_is n1 n2 (three_new w _ _ _).2.2.1 (three_new w _ _ _).2.1 (three_new w _ _ _).1 (three_new w _ _ _).2.2.2.1 (Nat.le_succ _) (Nat.le_refl _)), fun k h => h.1, (three_new w _ _ _).2.2.2.2⟩
end Go.Proofs.YtcmbnkmbaghkdaaDoor
namespace Go.Proofs.YtcmbnkmbaghkdaaDoor
open Go.RowKit Go.Shelf

attribute [local go_sem] Oper.semAt_some

/-- What has come when k rounds are over. -/
def upto {α : Type} (f : Nat → α) (k : Nat) : List α := (List.range k).map f
theorem upto_succ {α : Type} (f : Nat → α) (k : Nat) : upto f (k + 1) = upto f k ++ [f k] := by simp [upto, List.range_succ]
theorem upto_length {α : Type} (f : Nat → α) (k : Nat) : (upto f k).length = k := by simp [upto]
/-- The pairs that come: from the end on. -/
def bkw (z : Nat → UInt8) (len k : Nat) : Nat × UInt8 := (len - 1 - k, z (len - 1 - k))

/-- What a round keeps: what lay below n₀, and the box of the slice. -/
def KpB (Bs n₀ : Nat) (W W' : World) : Prop := Below n₀ W W' ∧ ∀ c t fr, W.heap[Bs]? = some (.cells c t fr) → W'.heap[Bs]? = some (.cells c t fr)
theorem KpB.refl (Bs n₀ : Nat) (W : World) : KpB Bs n₀ W W := ⟨Below.refl _ _, fun _ _ _ h => h⟩
theorem KpB.trans {Bs n₀ : Nat} {A B C : World} (h : KpB Bs n₀ A B) (k : KpB Bs n₀ B C) : KpB Bs n₀ A C := ⟨h.1.trans k.1, fun c t fr hc => k.2 c t fr (h.2 c t fr hc)⟩
set_option maxRecDepth 100000 in
set_option maxHeartbeats 2000000 in
theorem back1_in (F : Fence) (n : Nat) (hf : F.fn 128) (hro : F.round = none) (hn : 1 ≤ n) (l Bs n₀ b off len cap : Nat) (z : Nat → UInt8) (hreach : len ≤ 67108864) (hb : b < n₀) (J Jx : List (Nat × UInt8) → World → Prop)
    (hY : ∀ pre x W, J pre W → pre.length < len → YieldAt F (n - 1) Tryd.prog l #[.int .i64 (x.1 : Int), .int .u8 (x.2.toNat : Int)] W fun e W' =>
      (e = .returned (.bool true) ∧ J (pre ++ [x]) W' ∧ KpB Bs n₀ W W') ∨ (e = .returned (.bool false) ∧ Jx (pre ++ [x]) W'))
    (W : World) (hBs : W.heap[Bs]? = some (.cells #[.slice (some ⟨b, off, none⟩) len cap] 62 (0, 0))) (hc : ∀ j, j < len → W.cell? ⟨b, off + j, none⟩ = some (.int .u8 ((z j).toNat : Int))) (h0 : J [] W) :
    CallsIn F n Tryd.prog 128 #[.func (.yield l) #[] #[], .pointer (some ⟨Bs, 0, none⟩)] W fun e W' => (∃ v, e = .returned v) ∧
      ((∃ ys, ys = upto (bkw z len) len ∧ J ys W') ∨ (∃ pre, (∃ k, k ≤ len ∧ pre = upto (bkw z len) k) ∧ Jx pre W')) := by
  refine callsIn_of_wp Tryd.func128 rfl hf ?_ hro
  simp only [Tryd.ntmps128, List.size_toArray, List.length_cons, List.length_nil, Nat.reduceAdd, Nat.reduceSub, Array.replicate_succ, Array.replicate_zero, List.push_toArray, List.append_toArray, List.nil_append, List.cons_append]
  have hl0 : (0 : Int) ≤ (len : Int) := by omega
  have hl1 : (len : Int) ≤ 67108864 := by omega
  have hBc := cell_of_row _ _ 0 _ _ _ hBs
  gi_wp2
  gi_loopw [3] (fun i wr => ∃ j : Nat, j ≤ len ∧ i = .int .i64 ((j : Int) - 1) ∧ J (upto (bkw z len) (len - j)) wr ∧ KpB Bs n₀ W wr)
    (fun i _ => (intOf i + 1).toNat)
  case atStart => exact ⟨len, Nat.le_refl _, rfl, by rw [Nat.sub_self]; exact h0, KpB.refl _ _ _⟩
  case round =>
    obtain ⟨j, hj, rfl, hJs, hnx⟩ := hrel
    have hBr := cell_of_row _ _ 0 _ _ _ (hnx.2 _ _ _ hBs)
    rcases j with _ | j
    · gi_wp2
      go_end0
      exact ⟨⟨_, rfl⟩, .inl ⟨_, rfl, hJs⟩⟩
    · have e1 : (((j + 1 : Nat) : Int) - 1) = (j : Int) := by omega
      rw [e1]
      have hjz : (0 : Int) ≤ (j : Int) := by omega
      have hjl : (j : Int) < (len : Int) := by omega
      have hcx := (hnx.1.cell (p := ⟨b, off + j, none⟩) hb).trans (hc j (by omega))
      have ek : bkw z len (len - (j + 1)) = (j, z j) := by unfold bkw; rw [show len - 1 - (len - (j + 1)) = j by omega]
      have es : upto (bkw z len) (len - j) = upto (bkw z len) (len - (j + 1)) ++ [(j, z j)] := by rw [show len - j = len - (j + 1) + 1 by omega, upto_succ, ek]
      obtain ⟨fn, tmps, assign, body, hy, hR⟩ := hY _ (j, z j) wr hJs (by rw [upto_length]; omega)
      dsimp only at hy
      gi_wp2
      refine hR.mono ?_
      rintro e W3 (⟨rfl, hJ3, hk3⟩ | ⟨rfl, hJx3⟩)
      · gi_wp2
        go_roundw
        case rel => exact ⟨j, by omega, by go_num, by rw [es]; exact hJ3, hnx.trans hk3⟩
        case measure => simp [intOf]
      · gi_wp2
        refine bodyPost_ret (results_none rfl _ _ _) rfl ?_
        exact ⟨⟨_, rfl⟩, .inr ⟨_, ⟨len - j, by omega, es.symm⟩, hJx3⟩⟩
theorem kpB_b {Bs n₀ : Nat} {w : World} (hn : n₀ ≤ w.heap.size) (W : World) (l : Nat) (o o' : Obj) (hl : w.heap.size ≤ l) (h : W.heap[l]? = some o) (h1 : o.isCells = false) (h2 : o.isWalk = false) : KpB Bs n₀ W (W.putObj l o') :=
  ⟨belowK_b hn W l o o' hl h h1 h2, fun c t fr hc => by
    have hne : Bs ≠ l := fun e => by
      subst e
      rw [hc] at h
      obtain rfl := Option.some.inj h
      cases h1
    have hlt := (Array.getElem?_eq_some_iff.1 hc).1
    rw [(grownBy_putObj' W l o').block Bs hlt (fun e => hne (Option.some.inj e))]
    exact hc⟩
set_option maxHeartbeats 1000000 in
theorem back_in (F : Fence) (n : Nat) (hf : F.fn 105) (hro : F.round = none) (a : Option Addr) (len cap : Nat) (w : World) :
    CallsIn F n Tryd.prog 105 #[.slice a len cap] w fun e w' => e = .returned (.func (.func 128) #[] #[.pointer (some ⟨w.heap.size, 0, none⟩)]) ∧ w' = w.alloc (.cells #[.slice a len cap] 62) := by
  refine callsIn_of_wp Tryd.func105 rfl hf ?_ hro
  simp only [Tryd.ntmps105, List.size_toArray, List.length_cons, List.length_nil, Nat.reduceAdd, Nat.reduceSub, Array.replicate_succ, Array.replicate_zero, List.push_toArray, List.append_toArray, List.nil_append, List.cons_append]
  gi_wp2
  go_ret
  exact ⟨rfl, rfl⟩
theorem back_stops (F : Fence) (n : Nat) (hf : F.fn 128) (hro : F.round = none) (hn : 1 ≤ n) (Bs n₀ b off len cap : Nat) (z : Nat → UInt8) (hreach : len ≤ 67108864) (w : World) (hb : b < n₀) (hn₀ : n₀ ≤ w.heap.size)
    (hBs : w.heap[Bs]? = some (.cells #[.slice (some ⟨b, off, none⟩) len cap] 62 (0, 0))) (hc : ∀ j, j < len → w.cell? ⟨b, off + j, none⟩ = some (.int .u8 ((z j).toNat : Int))) :
    SeqStopsK F n Tryd.prog 128 #[.pointer (some ⟨Bs, 0, none⟩)] (fun x : Nat × UInt8 => #[Value.int .i64 (x.1 : Int), Value.int .u8 (x.2.toNat : Int)]) (KpB Bs n₀) (fun ys => ys = upto (bkw z len) len)
      (fun pre => ∃ k, k ≤ len ∧ pre = upto (bkw z len) k) len w := fun l J Jx W hW _ _ hY h0 =>
  back1_in F n hf hro hn l Bs n₀ b off len cap z hreach hb J Jx hY W ((hW.block Bs (Array.getElem?_eq_some_iff.1 hBs).1).trans hBs) (fun j hj => (hW.cell (p := ⟨b, off + j, none⟩) (by show b < _; omega)).trans (hc j hj)) h0
theorem wraps_i64_63 (n : Int) (h₀ : 0 ≤ n) (h₁ : n < 2 ^ 63) : IntKind.i64.wrap n = n := by rw [IntKind.wrap_i64]; omega
theorem and_mask (a k : Nat) (hk : okN k) (ha : a ≤ 67108864) (hr : a % k = 0) : bits BinOp.and .i64 (a : Int) ((k : Int) - 1) = 0 := by
  rcases hk with rfl | rfl | rfl
  · have h := bits_mask .i64 63 (by decide) wraps_i64_63 0 (by decide) (a : Int) (by omega) (by omega)
    exact h.trans (by omega)
  · have h := bits_mask .i64 63 (by decide) wraps_i64_63 1 (by decide) (a : Int) (by omega) (by omega)
    exact h.trans (by omega)
  · have h := bits_mask .i64 63 (by decide) wraps_i64_63 2 (by decide) (a : Int) (by omega) (by omega)
    exact h.trans (by omega)
set_option maxRecDepth 100000 in
set_option maxHeartbeats 1000000 in
theorem word_check_ok (p : Option Addr) (N cap a k : Nat) (w : World) (hk : okN k) (hs : a + k ≤ N) (hr : a % k = 0) (hN : N ≤ 67108864) :
    Calls Tryd.prog 104 #[.slice p N cap, .int .i64 a, .int .i64 k] w fun e w' => e = .returned .nilIface ∧ w = w' := by
  have hm := and_mask a k hk (by omega) hr
  have h0 : ¬ (a : Int) < 0 := by omega
  have h1 : ¬ (N : Int) - (k : Int) < (a : Int) := by omega
  have ha1 : (a : Int) ≤ 67108864 := by omega
  have hN1 : (N : Int) ≤ 67108864 := by omega
  rcases hk with rfl | rfl | rfl
  all_goals
    try rw [show ((1 : Nat) : Int) - 1 = 0 from rfl] at hm
    try rw [show ((2 : Nat) : Int) - 1 = 1 from rfl] at hm
    try rw [show ((4 : Nat) : Int) - 1 = 3 from rfl] at hm
    go_enter Tryd.func104, Tryd.ntmps104
    go_wp2_with fail
    go_ret
    exact ⟨rfl, rfl⟩
end Go.Proofs.YtcmbnkmbaghkdaaDoor
namespace Go.Proofs.YtcmbnkmbaghkdaaDoor
open Go.RowKit Go.Shelf

attribute [local go_sem] Oper.semAt_some

def accI (l : List (Nat × UInt8)) : Int := l.foldl (fun v p => bits BinOp.or .u32 (v * 256 % 4294967296) (p.2.toNat : Int)) 0
theorem accI_snoc (l : List (Nat × UInt8)) (x : Nat × UInt8) : accI (l ++ [x]) = bits BinOp.or .u32 (accI l * 256 % 4294967296) (x.2.toNat : Int) := by simp [accI]
theorem or_step (v x : Int) (h0 : 0 ≤ v) (h1 : v < 16777216) (h2 : 0 ≤ x) (h3 : x < 256) : bits BinOp.or .u32 (v * 256 % 4294967296) x = v * 256 + x := by
  have e : v * 256 % 4294967296 = v * 256 := by omega
  rw [e]
  exact bits_join .u32 32 (by decide) wraps_u32 8 _ _ (by omega) (by omega) (by omega) (by omega) (by omega) (by omega)
theorem acc_gp (f : Nat → UInt8) (a k : Nat) (hk : okN k) : accI (upto (bkw (fun j => f (a + j)) k) k) = ((gp f a k : Nat) : Int) := by
  have h0 := (f a).toNat_lt
  have h1 := (f (a + 1)).toNat_lt
  have h2 := (f (a + 2)).toNat_lt
  have h3 := (f (a + 3)).toNat_lt
  rcases hk with rfl | rfl | rfl
  · show bits BinOp.or .u32 (0 * 256 % 4294967296) ((f (a + 0)).toNat : Int) = _
    simp only [Nat.add_zero]
    rw [or_step _ _ (by omega) (by omega) (by omega) (by omega)]
    simp only [gp, Nat.add_zero]
    omega
  · show bits BinOp.or .u32 (bits BinOp.or .u32 (0 * 256 % 4294967296) ((f (a + 1)).toNat : Int) * 256 % 4294967296) ((f (a + 0)).toNat : Int) = _
    simp only [Nat.add_zero]
    rw [or_step 0 _ (by omega) (by omega) (by omega) (by omega), or_step (0 * 256 + _) _ (by omega) (by omega) (by omega) (by omega)]
    simp only [gp, Nat.add_zero]
    omega
  · show bits BinOp.or .u32 (bits BinOp.or .u32 (bits BinOp.or .u32 (bits BinOp.or .u32 (0 * 256 % 4294967296) ((f (a + 3)).toNat : Int) * 256 % 4294967296) ((f (a + 2)).toNat : Int) * 256 % 4294967296) ((f (a + 1)).toNat : Int) * 256 % 4294967296) ((f (a + 0)).toNat : Int) = _
    simp only [Nat.add_zero]
    rw [or_step 0 _ (by omega) (by omega) (by omega) (by omega), or_step (0 * 256 + _) _ (by omega) (by omega) (by omega) (by omega), or_step ((0 * 256 + _) * 256 + _) _ (by omega) (by omega) (by omega) (by omega), or_step _ _ (by omega) (by omega) (by omega) (by omega)]
    simp only [gp, Nat.add_zero]
    omega
set_option maxRecDepth 100000 in
set_option maxHeartbeats 4000000 in
theorem word_Get_ok {w : World} {b N cap : Nat} {f : Nat → UInt8} (r : Row w b 5 N (cellU f)) (hcap : N ≤ cap) (a k : Nat) (hk : okN k) (hs : a + k ≤ N) (hr : a % k = 0) (hN : N ≤ 67108864) :
    Calls Tryd.prog 65 #[.slice (some ⟨b, 0, none⟩) N cap, .int .i64 a, .int .i64 k] w fun e w' => e = .returned (.tuple #[.int .u32 (gp f a k : Nat), .nilIface]) ∧ Below w.heap.size w w' := by
  have HC := fun W => word_check_ok (some ⟨b, 0, none⟩) N cap a k W hk hs hr hN
  have hk1 : 1 ≤ k ∧ k ≤ 4 := by rcases hk with rfl | rfl | rfl <;> omega
  have ha0 : (0 : Int) ≤ a := by omega
  have ha1 : (a : Int) ≤ 67108864 := by omega
  have hk0 : (0 : Int) ≤ k := by omega
  have hk4 : (k : Int) ≤ 4 := by omega
  have hac : (a : Int) ≤ (a : Int) + (k : Int) := by omega
  have hakc : (a : Int) + (k : Int) ≤ (cap : Int) := by omega
  have hca : ¬ cap = a := by omega
  refine (callsIn_wide (n := 5)).1 ?_
  refine callsIn_of_wp_marks Tryd.func65 rfl trivial ?_ rfl
  simp only [Tryd.ntmps65, List.size_toArray, List.length_cons, List.length_nil, Nat.reduceAdd, Nat.reduceSub, Array.replicate_succ, Array.replicate_zero, List.push_toArray, List.append_toArray, List.nil_append, List.cons_append]
  gi_wp2
  refine ⟨trivial, (callsIn_wide.2 (HC _)).mono ?_⟩
  rintro e w' ⟨rfl, rfl⟩
  gi_wp2
  refine ⟨trivial, (back_in Fence.wide _ trivial rfl _ _ _ _).mono ?_⟩
  rintro e w' ⟨rfl, rfl⟩
  gi_wp2
  have bV := Boxed.new w 25 (.int .u32 0)
  have bN := heap_alloc_new (w.alloc (.cells #[.int .u32 0] 25)) (.cells #[.slice (some ⟨b, a, none⟩) k (cap - a)] 62)
  rw [World.size_alloc] at bN
  have hB0 : Below w.heap.size w ((w.alloc (.cells #[.int .u32 0] 25)).alloc (.cells #[.slice (some ⟨b, a, none⟩) k (cap - a)] 62)) := ((Below.refl _ w).alloc (Nat.le_refl _) _).alloc (by simp) _
  have hrow := r.below hB0
  refine wpIn_rangeFunc_ownG (F := Fence.wide) rfl (by omega) (gf := 128) (lb := #[.pointer (some ⟨w.heap.size + 1, 0, none⟩)]) rfl trivial (enters_of Tryd.func128 (by kernel_rfl) rfl)
    (back_stops Fence.wide 4 trivial rfl (by omega) (w.heap.size + 1) w.heap.size b a k (cap - a) (fun j => f (a + j)) (by omega) _ r.lt (by simp; omega) bN (fun j hj => hrow.cell (by omega))) (fun h k => h.trans k) (kpB_b (by simp; omega)) (Below.refl _ _) (fun _ => rfl)
    (fun pre W => (W.cell? ⟨w.heap.size, 0, none⟩ = some (.int .u32 (accI pre)) ∧ W.frozen? ⟨w.heap.size, 0, none⟩ = false) ∧ Below w.heap.size w W)
    (fun _ _ _ => False)
    (OwnFrom.and (Own.from (fun s A B row hs hg hr => ⟨cell_kept hs.1 hg hr, (frozen_kept hs.1 hg hr).trans hs.2⟩) _) (ownFrom_below (Nat.le_refl _) (by simp; omega)))
    (fun _ _ _ _ _ hs _ _ => hs)
    ⟨⟨(bV.alloc _).cell, (bV.alloc _).frozen⟩, hB0⟩
    (fun x => { tmps := #[.slice (some ⟨b, 0, none⟩) N cap, .int .i64 a, .int .i64 k, undef, undef, undef, .int .u32 0, .nilIface, .nilIface, .pointer (some ⟨w.heap.size, 0, none⟩), undef, .int .u8 (x.2.toNat : Int),
      .slice (some ⟨b, 0, none⟩) N cap, .int .i64 a, .int .i64 k, .nilIface, .nilIface, .bool false, undef, .slice (some ⟨b, 0, none⟩) N cap, .int .i64 a, .int .i64 a, .int .i64 k, .int .i64 ((a : Int) + (k : Int)),
      .slice (some ⟨b, a, none⟩) k (cap - a), .func (.func 128) #[] #[.pointer (some ⟨w.heap.size + 1, 0, none⟩)], .int .i64 (x.1 : Int), .int .u8 (x.2.toNat : Int), undef, undef, undef, undef, undef, undef], defers := [] }) ?assign ?body ?done ?stop
  case assign =>
    intro l x W K hK
    gi_wp2
    exact hK
  case body =>
    rintro l pre x W ⟨⟨hc, hf⟩, hB⟩ _
    have hx0 := x.2.toNat_lt
    gi_wp2
    exact ⟨(KeepsOthers.setCell _ _ _).from _, ⟨(Below.refl w.heap.size W).setCell (p := ⟨w.heap.size, 0, none⟩) (Nat.le_refl _) _, fun c t fr h => (heap_cell_other (by show w.heap.size + 1 ≠ w.heap.size; omega)).trans h⟩, ⟨by rw [accI_snoc]; exact World.cell?_setCell_same' _ _ _ (by rw [hc]; rfl), by rw [World.frozen?_setCell]; exact hf⟩, hB.setCell (p := ⟨w.heap.size, 0, none⟩) (Nat.le_refl _) _⟩
  case done =>
    rintro D ys W hD rfl ⟨⟨hc, _⟩, hB⟩ hK
    rw [acc_gp f a k hk] at hc
    gi_wp2
    refine ⟨by simp, .inl ⟨_, _, rfl, run_takeDeferred hK, ?_⟩⟩
    exact ⟨_, results_tmp2 rfl _ _ _, rfl, hB.trans (belowK_b (w := w) (Nat.le_refl _) W D _ _ (by simp at hD; omega) hK rfl rfl)⟩
  case stop =>
    rintro D c pre W _ _ h _
    exact h.elim
end Go.Proofs.YtcmbnkmbaghkdaaDoor
namespace Go.Proofs.YtcmbnkmbaghkdaaDoor
open Go.RowKit
set_option linter.unusedVariables false

theorem gp_shift (f : Nat → UInt8) (b o k : Nat) : gp (fun j => f (b + j)) o k = gp f (b + o) k := by
  induction k with
  | zero => rfl
  | succ k ih => simp only [gp]; rw [ih, Nat.add_assoc]
set_option maxRecDepth 100000 in
set_option maxHeartbeats 1600000 in
theorem mem_Load_ok {g : Nat} {m : Mm} {F : Nat → Prop} {w : World} (h : RamIs w g m F) (a k : Nat) (ha : a < 4294967296) (hk : okN k) (hs : a + k ≤ 4096 * m.n) (hr : a % k = 0) :
    Calls Tryd.prog 30 #[.pointer (some ⟨g, 0, none⟩), .int .u32 a, .int .i64 k] w fun e w' => ∃ F', e = .returned (.tuple #[.int .u32 (gp m.f a k : Nat), .nilIface]) ∧ RamIs w' g m F' ∧ MemStep F F' w w' := by
  have HC := Lib.hid (mem_check_ok h a k ha hk hs hr)
  have hk1 : 1 ≤ k ∧ k ≤ 4 := by rcases hk with rfl | rfl | rfl <;> omega
  have hin : a / 4096 < m.n := by omega
  have hoff : a % 4096 + k ≤ 4096 := by rcases hk with rfl | rfl | rfl <;> omega
  have hr2 : a % 4096 % k = 0 := by rcases hk with rfl | rfl | rfl <;> omega
  have HAT := Lib.hid (mem_at h (a / 4096) hin)
  have HG := Lib.hid (fun W b c (r : Row W b 5 4096 (cellU (fun j => m.f (4096 * (a / 4096) + j)))) (hc : 4096 ≤ c) => word_Get_ok r hc (a % 4096) k hk hoff hr2 (by omega))
  have eg : gp (fun j => m.f (4096 * (a / 4096) + j)) (a % 4096) k = gp m.f a k := by rw [gp_shift]; congr 1; omega
  rw [eg] at HG
  have hn2 := h.n2
  have ha0 : (0 : Int) ≤ a := by omega
  have hai : (a : Int) < 4294967296 := by omega
  clear h hs hr hk eg
  go_enter Tryd.func30, Tryd.ntmps30
  go_wp2_with fail
  refine (HC.out).mono ?_
  rintro e w1 ⟨rfl, rfl⟩
  go_wp2_with fail
  refine (HAT.out).mono ?_
  rintro e w2 ⟨kk, c, F2, rfl, hc, h1, h2, h3, h4⟩
  have HGK := Lib.hid (HG.out w2 kk c h2 hc)
  have HK := Lib.hid (And.intro h1 h3)
  clear h1 h2 h3 h4 HG HAT hc
  go_wp2_with fail
  refine (HGK.out).mono ?_
  rintro e w3 ⟨rfl, hb⟩
  go_wp2_with fail
  go_ret2
  exact ⟨F2, rfl, HK.out.1.below hb, HK.out.2.below hb⟩
set_option maxRecDepth 100000 in
theorem mem_Load_err (p : Option Addr) (a : Nat) (k : Int) (q : Nat) {w : World} (hq : 0 < q) (HC : Hid (Calls Tryd.prog 59 #[.pointer p, .int .u32 a, .int .i64 k] w fun e w' => e = .returned (errV q) ∧ w = w')) :
    Calls Tryd.prog 30 #[.pointer p, .int .u32 a, .int .i64 k] w fun e w' => e = .returned (.tuple #[.int .u32 0, errV q]) ∧ w = w' := by
  rw [errV_val hq] at HC ⊢
  clear hq
  go_enter Tryd.func30, Tryd.ntmps30
  go_wp2_with fail
  refine (HC.out).mono ?_
  rintro e w' ⟨rfl, rfl⟩
  go_wp2_with fail
  go_ret2
  exact ⟨rfl, rfl⟩
end Go.Proofs.YtcmbnkmbaghkdaaDoor
namespace Go.Proofs.YtcmbnkmbaghkdaaDoor
open Go.RowKit

theorem BytesAt.of_owns {w : World} {base n : Nat} {v : Value} {l : List UInt8} {F : Nat → Prop} (h : w.ownsRow base 5 1 v n (l.map B8)) (hf : ∀ b, v.ownBlock = some b → ¬ F b) : ∃ ao c, v = .slice ao n c ∧ n ≤ c ∧ l.length = n ∧ BytesAt w ao l F := by
  have hl : l.length = n := by have := h.1; rw [List.length_map, Nat.mul_one] at this; exact this
  rcases h.2 with ⟨rfl, rfl⟩ | ⟨g, cap, cur, rfl, hg, hh, hc, _⟩
  · exact ⟨none, 0, rfl, Nat.le_refl _, hl, fun hne => absurd (List.eq_nil_of_length_eq_zero hl) hne⟩
  · refine ⟨some ⟨g, 0, none⟩, cap, rfl, hc, hl, fun _ => ⟨g, 0, rfl, lt_heap hh, hf g rfl, fun j x hj => ?_⟩⟩
    have hj' : j < n := by rw [← hl]; exact (List.getElem?_eq_some_iff.1 hj).1
    rw [Nat.zero_add, h.cellAt j (by omega), List.getElem?_map, hj]
    rfl
theorem store_at {g : Nat} {m : Mm} {F : Nat → Prop} {w : World} (h : RamIs w g m F) (a k v : Nat) (ai ki vi : Int) (ea : ai = a) (ek : ki = k) (ev : vi = v) (ha : a < 4294967296) (hk : okN k) (hs : a + k ≤ 4096 * m.n) (hr : a % k = 0) :
    Calls Tryd.prog 26 #[.pointer (some ⟨g, 0, none⟩), .int .u32 ai, .int .i64 ki, .int .u32 vi] w fun e w' => ∃ F', e = .returned .nilIface ∧ RamIs w' g (m.store a k v) F' ∧ MemStep F F' w w' := by
  subst ea ek ev
  exact mem_Store_ok h a k v ha hk hs hr
theorem new_at (n : Nat) (ni : Int) (en : ni = n) (w : World) (n1 : 1 ≤ n) (n2 : n ≤ 16384) :
    Calls Tryd.prog 38 #[.int .i64 ni] w fun e w' => ∃ g F', e = .returned (.tuple #[.pointer (some ⟨g, 0, none⟩), .nilIface]) ∧ RamIs w' g (Mm.new n) F' ∧ (∀ k, F' k → w.heap.size ≤ k) ∧ Below w.heap.size w w' := by
  subst en
  exact mem_New_ok n w n1 n2
/-- The memory of a law: what it leaves of the world that the law began in. -/
structure LawMem (w0 : World) (W : World) (g : Nat) (m : Mm) (F : Nat → Prop) : Prop where
  ram : RamIs W g m F
  lo : ∀ k, F k → w0.heap.size ≤ k
  fr : Below w0.heap.size w0 W
theorem LawMem.step {w0 W W' : World} {g : Nat} {m m' : Mm} {F F' : Nat → Prop} (h : LawMem w0 W g m F) (hr : RamIs W' g m' F') (hs : MemStep F F' W W') : LawMem w0 W' g m' F' :=
  ⟨hr, fun k hk => (hs.gr k hk).elim (h.lo k) (fun hl => Nat.le_trans h.fr.size hl), h.fr.trans (hs.toBelow (fun k' hk hf => absurd (h.lo k' hf) (Nat.not_le_of_lt hk)) h.fr.size)⟩
theorem LawMem.below {w0 W W' : World} {g : Nat} {m : Mm} {F : Nat → Prop} (h : LawMem w0 W g m F) (hb : Below W.heap.size W W') : LawMem w0 W' g m F :=
  ⟨h.ram.below hb, h.lo, h.fr.trans (hb.mono h.fr.size)⟩
theorem LawMem.own {w0 W W' : World} {g : Nat} {m : Mm} {F : Nat → Prop} {b : Nat} (h : LawMem w0 W g m F) (hk : KX (fun k => k = b) W W') (hb : w0.heap.size ≤ b) (hf : ¬ F b) : LawMem w0 W' g m F :=
  ⟨h.ram.kx hk (fun _ _ hfk e => hf (e ▸ hfk)), h.lo, h.fr.trans (hk.below (fun _ hl e => absurd (e ▸ hl) (Nat.not_lt_of_le hb)) h.fr.size)⟩
theorem str_of_bytes {w : World} {ao : Option Addr} {l : List UInt8} {cap : Nat} {F : Nat → Prop} (h : BytesAt w ao l F) : (convert 62 9 (.slice ao l.length cap)).run Tryd.prog w = .ok (.string ⟨l.toArray⟩) w := by
  cases ao with
  | some a =>
    refine run_convert_bytes_back (P := Tryd.prog) w 62 9 5 a cap l Tryd.underlying62 Tryd.underlying5 Tryd.underlying9 (fun j hj => ?_)
    obtain ⟨b, o, ha, _, _, hc⟩ := h (fun e => by subst e; simp at hj)
    obtain rfl : a = ⟨b, o, none⟩ := Option.some.inj ha
    rw [Addr.add_lit]
    exact hc j _ (List.getElem?_eq_getElem hj)
  | none =>
    have hl : l = [] := by
      apply Classical.byContradiction
      intro hne
      obtain ⟨b, o, ha, _⟩ := h hne
      cases ha
    subst hl
    rw [run_convert_bytes_string w 62 9 5 none _ cap Tryd.underlying62 Tryd.underlying5 Tryd.underlying9]
    rfl
set_option maxRecDepth 100000 in
theorem err_nil_eql (w : World) : (binOp BinOp.eql 34 .nilIface .nilIface).run Tryd.prog w = .ok (.bool true) w := by
  have h1 : (Op.equalIn (9999 + 1) 34 .nilIface .nilIface).run Tryd.prog w = .ok true w := by
    generalize 9999 = d
    simp [Op.equalIn, go_sem]
  have h2 : (Op.equalIn Op.maxDepth 34 .nilIface .nilIface).run Tryd.prog w = .ok true w := h1
  simp [binOp, Op.equal, go_sem, h2]
theorem MemStep.of_below {F : Nat → Prop} {w w' : World} (hb : Below w.heap.size w w') : MemStep F F w w' := ⟨KX.of_below hb, fun _ h => .inl h⟩
theorem keepB {a b : World} {g : Nat} {x : Obj} (h : a.heap[g]? = some x) (hb : Below a.heap.size a b) : b.heap[g]? = some x := (hb.block _ (lt_heap h)).trans h
theorem two_new (w : World) (A B : Obj) : ((w.alloc A).alloc B).heap[w.heap.size]? = some A ∧ ((w.alloc A).alloc B).heap[w.heap.size + 1]? = some B ∧ Below w.heap.size w ((w.alloc A).alloc B) :=
  ⟨heap_alloc2_old _ _ _, heap_alloc2_new _ _ _, ((Below.refl _ _).alloc (Nat.le_refl _) _).alloc (by simp) _⟩
theorem MemStep.own {F F' : Nat → Prop} {a w w' : World} {b : Nat} (h : MemStep F F' a w) (hk : KX (fun k => k = b) w w') (hb : a.heap.size ≤ b) : MemStep F F' a w' :=
  ⟨⟨hk.os.trans h.kx.os, hk.tape.trans h.kx.tape, hk.output.trans h.kx.output, Nat.le_trans h.kx.size hk.size, fun k hl hn => (hk.block k (Nat.lt_of_lt_of_le hl h.kx.size) (by omega)).trans (h.kx.block k hl hn)⟩, h.gr⟩
end Go.Proofs.YtcmbnkmbaghkdaaDoor
namespace Go.Proofs.YtcmbnkmbaghkdaaDoor
open Go.RowKit

def cellOf (x : Obj) (j : Nat) : Option Value := match x with | .cells cs _ _ => cs[j]? | _ => none
def frozenOf (x : Obj) (j : Nat) : Bool := match x with | .cells _ _ fr => decide (fr.1 ≤ j ∧ j < fr.2) | _ => false
theorem cellOf_cells (cs : Array Value) (t : TypeId) (fr : Nat × Nat) (j : Nat) : cellOf (.cells cs t fr) j = cs[j]? := rfl
theorem cell_by {w : World} {g j : Nat} {cs : Array Value} {t : TypeId} {fr : Nat × Nat} {x : Obj} (h : w.heap[g]? = some x) (hx : x = .cells cs t fr) : w.cell? ⟨g, j, none⟩ = cs[j]? := by
  subst hx
  exact cell_of_row w g j cs t fr h
theorem frozen_by {w : World} {g j : Nat} {cs : Array Value} {t : TypeId} {x : Obj} (h : w.heap[g]? = some x) (hx : x = .cells cs t (0, 0)) : w.frozen? ⟨g, j, none⟩ = false := by
  subst hx
  exact frozen_of_row w g j cs t h
/-- A row is stored: the world behind it under a name. -/
theorem wpList_store_to {P : Program} {ops : Array Oper} {rest : List Oper} {o : Oper} {a : Act} {w : World} {Q : Exit → Act → World → Prop} (hgd : o.guard = none) (ty : TypeId) (x y : Operand) (ho : o.op = .store ty x y)
    (g : Nat) (cells : Array Value) (hx : a.eval x = .pointer (some ⟨g, 0, none⟩)) (hy : a.eval y = .agg cells)
    (t : TypeId) (old : Array Value) (hg : w.heap[g]? = some (.cells old t (0, 0))) (hi : (P.info? ty).map (·.size) = some cells.size)
    (hold : old.size = cells.size) (h1 : cells.all (·.oneCell') = true)
    (h : ∀ w', Hid (KX (fun k => k = g) w w') → w'.heap[g]? = some (.cells cells t (0, 0)) → wpList P ops Q rest (a.put o.dst undef) w') : wpList P ops Q (o :: rest) a w :=
  wpList_store_row hgd ty x y ho g cells hx hy t old hg hi hold h1 (h _ (Lib.hid ((KX.refl (fun k => k = g) w).setRow (.inl rfl) _)) (setRow_heap _ _ _ _ _ _ hg))
theorem range_of_all {w : World} {b : Nat} {cs : Array Value} {t : TypeId} {fr : Nat × Nat} (h : w.heap[b]? = some (.cells cs t fr)) : w.rangeAt b 0 cs.toList := by
  intro j v hj
  rw [Nat.zero_add]
  exact (cell_of_row _ _ j _ _ _ h).trans (by rw [← hj, Array.getElem?_toList])
end Go.Proofs.YtcmbnkmbaghkdaaDoor
