/-
What a clone of memory holds while it is made.
No condition.
-/
import Derived.Test.YtcakcfeipfjmpaaDoorMemSame
import Derived.Test.YtcakcfeipfjmpaaDoorClone
import Derived.Test.YtcakcfeipfjmpaaDoorCounter
namespace Go.Proofs.YtcakcfeipfjmpaaDoor
open Go.RowKit

def updC (pc : Nat → Nat) (i c : Nat) : Nat → Nat := fun y => if y = i then c else pc y
def updG (f : Nat → UInt8) (i : Nat) (h : Nat → UInt8) : Nat → UInt8 := fun x => if 4096 * i ≤ x ∧ x < 4096 * i + 4096 then h (x - 4096 * i) else f x
theorem updG_in (f : Nat → UInt8) (i : Nat) (h : Nat → UInt8) {y : Nat} (hy : y < 4096) : updG f i h (4096 * i + y) = h y := by
  unfold updG
  rw [if_pos (by omega), Nat.add_sub_cancel_left]
theorem updG_out (f : Nat → UInt8) (i j : Nat) (h : Nat → UInt8) {y : Nat} (hy : y < 4096) (hj : j ≠ i) : updG f i h (4096 * j + y) = f (4096 * j + y) := by
  unfold updG
  rw [if_neg (by omega)]
/-- A page that has bytes is taken. -/
theorem RamAt.adopt2 {W : World} {g gp gd : Nat} {pg : Nat → Option Nat} {bl : Option Nat} {m : Mm} (h : RamAt W g gp gd pg bl m) {i k c : Nat} {u : Nat → UInt8} (hi : i < m.n) (hk : PageAt W k u) (hn : ¬ RamFoot g gp gd m.n pg bl k) (hpg : pg i = none) (hc4 : 4096 ≤ c) :
    RamAt (W.setCell ⟨gp, i, none⟩ (.slice (some ⟨k, 0, none⟩) 4096 c)) g gp gd (updP pg i k) bl { m with f := updG m.f i u, pc := updC m.pc i c } := by
  obtain ⟨n1, n2, n3, n4, n5⟩ := h.foot_ne
  have ho : ∀ k', k' ≠ gp → (W.setCell ⟨gp, i, none⟩ (.slice (some ⟨k, 0, none⟩) 4096 c)).heap[k']? = W.heap[k']? := fun k' hk => heap_cell_other hk
  have hkp : k ≠ gp := fun e => hn (.inr (.inl e))
  have hup : ∀ j k', j < m.n → updP pg i k j = some k' → (j = i ∧ k' = k) ∨ (j ≠ i ∧ pg j = some k') := fun j k' _ hj => by
    unfold updP at hj
    by_cases e : j = i
    · rw [if_pos e] at hj; exact .inl ⟨e, (Option.some.inj hj).symm⟩
    · rw [if_neg e] at hj; exact .inr ⟨e, hj⟩
  exact {
    n1 := h.n1
    n2 := h.n2
    r := (ho g n1).trans h.r
    p := by
      obtain ⟨c', hc, hs, h2⟩ := h.p
      refine ⟨_, set_cells hc, by simpa using hs, fun j hj => ?_⟩
      rw [set_get (by omega) (h2 j hj)]
      show _ = some (pgC (updP pg i k j) (updC m.pc i c j))
      unfold updP updC
      by_cases e : j = i
      · rw [if_pos e, if_pos e, if_pos e]; rfl
      · rw [if_neg e, if_neg e, if_neg e]
    q := by
      obtain ⟨c', hc, h2⟩ := h.q
      exact ⟨c', (ho gd (Ne.symm n3)).trans hc, h2⟩
    pb := fun j k' hj hk' => by
      rcases hup j k' hj hk' with ⟨rfl, rfl⟩ | ⟨hne, hp⟩
      · obtain ⟨c', hc, hs, h2⟩ := hk.keep (ho _ hkp)
        exact ⟨c', hc, hs, fun x hx => by rw [h2 x hx]; show _ = some (B8 (updG m.f j u (4096 * j + x))); rw [updG_in _ _ _ hx]⟩
      · obtain ⟨c', hc, hs, h2⟩ := (h.pb j k' hj hp).keep (ho k' (n4 j k' hj hp).2.1)
        exact ⟨c', hc, hs, fun x hx => by rw [h2 x hx]; show _ = some (B8 (updG m.f i u (4096 * j + x))); rw [updG_out _ _ _ _ hx hne]⟩
    pz := fun j hj hp x hx => by
      unfold updP at hp
      by_cases e : j = i
      · rw [if_pos e] at hp; cases hp
      · rw [if_neg e] at hp
        show updG m.f i u (4096 * j + x) = 0
        rw [updG_out _ _ _ _ hx e]
        exact h.pz j hj hp x hx
    bz := fun k' hk' => (h.bz k' hk').keep (ho k' (n5 k' hk').2.1)
    inj := fun a b k' ha hb h1 h2 => by
      rcases hup a k' ha h1 with ⟨e1, f1⟩ | ⟨e1, f1⟩ <;> rcases hup b k' hb h2 with ⟨e2, f2⟩ | ⟨e2, f2⟩
      · rw [e1, e2]
      · exact absurd (.inr (.inr (.inr (.inr ⟨b, hb, f1 ▸ f2⟩)))) hn
      · exact absurd (.inr (.inr (.inr (.inr ⟨a, ha, f2 ▸ f1⟩)))) hn
      · exact h.inj a b k' ha hb f1 f2
    nb := fun j k' hj hk' hb => by
      rcases hup j k' hj hk' with ⟨rfl, rfl⟩ | ⟨_, hp⟩
      · exact hn (.inr (.inr (.inr (.inl hb))))
      · exact h.nb j k' hj hp hb
    dl := h.dl
    pl := fun j hj => by
      show 4096 ≤ updC m.pc i c j
      unfold updC
      by_cases e : j = i
      · rw [if_pos e]; exact hc4
      · rw [if_neg e]; exact h.pl j hj
    pn := fun j hj hp => by
      unfold updP at hp
      by_cases e : j = i
      · rw [if_pos e] at hp; cases hp
      · rw [if_neg e] at hp
        show updC m.pc i c j = 4096
        unfold updC
        rw [if_neg e]
        exact h.pn j hj hp }
theorem RamAt.fresh2 {W : World} {g gp gd n dc : Nat} {d : Nat → Bool} (n1 : 1 ≤ n) (n2 : n ≤ 16384) (hg : W.heap[g]? = some (.cells (ramRow gp gd n dc 0 none) 127 (0, 0))) (hp : W.heap[gp]? = some (.cells (nilPages n) 107 (0, 0))) (hd : Row W gd 3 n (fun i => .int .i64 (bit01 (d i)))) (hdc : n ≤ dc) :
    RamAt W g gp gd (fun _ => none) none { Mm.new n with d := d, dc := dc } where
  n1 := n1
  n2 := n2
  r := hg
  p := ⟨_, hp, size_madeCells _ _, fun _ hi => nilPages_get hi⟩
  q := hd
  pb := fun _ _ _ h => by cases h
  pz := fun _ _ _ _ _ => rfl
  bz := fun _ h => by cases h
  inj := fun _ _ _ _ _ h => by cases h
  nb := fun _ _ _ h => by cases h
  dl := hdc
  pl := fun _ _ => Nat.le_refl _
  pn := fun _ _ _ => rfl
/-- The bytes below a page, noughts from there on. -/
def upF (f : Nat → UInt8) (j : Nat) : Nat → UInt8 := fun x => if x < 4096 * j then f x else 0
theorem upF_zero (f : Nat → UInt8) : upF f 0 = fun _ => 0 := by funext x; unfold upF; rw [if_neg (by omega)]
theorem upF_take (f : Nat → UInt8) (j : Nat) : updG (upF f j) j (fun y => f (4096 * j + y)) = upF f (j + 1) := by
  funext x
  unfold updG upF
  by_cases h : 4096 * j ≤ x ∧ x < 4096 * j + 4096
  · rw [if_pos h, if_pos (by omega)]
    show f (4096 * j + (x - 4096 * j)) = f x
    rw [show 4096 * j + (x - 4096 * j) = x by omega]
  · rw [if_neg h]
    by_cases h2 : x < 4096 * j
    · rw [if_pos h2, if_pos (by omega)]
    · rw [if_neg h2, if_neg (by omega)]
theorem upF_skip (f : Nat → UInt8) (j : Nat) (hz : ∀ y, y < 4096 → f (4096 * j + y) = 0) : upF f (j + 1) = upF f j := by
  funext x
  unfold upF
  by_cases h : x < 4096 * j
  · rw [if_pos h, if_pos (by omega)]
  · rw [if_neg h]
    by_cases h2 : x < 4096 * (j + 1)
    · rw [if_pos h2]
      have := hz (x - 4096 * j) (by omega)
      rwa [show 4096 * j + (x - 4096 * j) = x by omega] at this
    · rw [if_neg h2]
end Go.Proofs.YtcakcfeipfjmpaaDoor
