/-
at and own of package mem, walked: a page that is read, and one that is written.
No condition.
-/
import Derived.Test.YtcakcfeipfjmpaaDoorNoughts2
import Derived.WalkSpells
import Derived.Deep.Cut
namespace Go.Proofs.YtcakcfeipfjmpaaDoor
open Go.RowKit

/-- What a call on memory leaves of the world. -/
structure MemStep (F F' : Nat → Prop) (w w' : World) : Prop where
  kx : KX F w w'
  gr : ∀ k, F' k → F k ∨ w.heap.size ≤ k
theorem MemStep.refl (F : Nat → Prop) (w : World) : MemStep F F w w := ⟨KX.refl _ _, fun _ h => .inl h⟩
theorem MemStep.trans {F F' F'' : Nat → Prop} {a b c : World} (h : MemStep F F' a b) (k : MemStep F' F'' b c) : MemStep F F'' a c :=
  ⟨h.kx.trans k.kx (fun i hi hf => (h.gr i hf).resolve_right (by omega)), fun i hi => by
    rcases k.gr i hi with h1 | h1
    · exact h.gr i h1
    · exact .inr (Nat.le_trans h.kx.size h1)⟩
theorem MemStep.heap {F F' : Nat → Prop} {w w' : World} (h : MemStep F F' w w') {k : Nat} {x : Obj} (hk : w.heap[k]? = some x) (hn : ¬ F k) : w'.heap[k]? = some x := h.kx.heap hk hn
theorem MemStep.off {F F' : Nat → Prop} {w w' : World} (h : MemStep F F' w w') {k : Nat} (hk : k < w.heap.size) (hn : ¬ F k) : ¬ F' k := fun e => (h.gr k e).elim hn (by omega)
theorem MemStep.drew {F F' : Nat → Prop} {w w' : World} (h : MemStep F F' w w') : MemStep F F' w w'.drew := ⟨h.kx.drew, h.gr⟩
theorem MemStep.below {F F' : Nat → Prop} {a w w' : World} (h : MemStep F F' a w) (hb : Below w.heap.size w w') : MemStep F F' a w' := ⟨h.kx.trans (KX.of_below (X := F) hb) (fun _ _ h => h), h.gr⟩
theorem MemStep.toBelow {F F' : Nat → Prop} {w w' : World} {B : Nat} (h : MemStep F F' w w') (hf : ∀ k, k < B → ¬ F k) (hB : B ≤ w.heap.size) : Below B w w' := h.kx.below hf hB

theorem ne_of_types {w : World} {a b : Nat} {c c' : Array Value} {t t' : TypeId} (h : w.heap[a]? = some (.cells c t (0, 0))) (h' : w.heap[b]? = some (.cells c' t' (0, 0))) (hn : t ≠ t') : a ≠ b := fun e => by
  subst e
  rw [h] at h'
  injection h' with h'
  injection h' with _ h' _
  exact hn h'

theorem RamAt.pcell {W : World} {g gp gd : Nat} {pg : Nat → Option Nat} {bl : Option Nat} {m : Mm} (h : RamAt W g gp gd pg bl m) {i : Nat} (hi : i < m.n) : W.cell? ⟨gp, i, none⟩ = some (pgC (pg i) (m.pc i)) := by
  obtain ⟨c, hc, _, h2⟩ := h.p
  exact (cell_of_row _ _ i _ _ _ hc).trans (h2 i hi)
theorem RamAt.pfz {W : World} {g gp gd : Nat} {pg : Nat → Option Nat} {bl : Option Nat} {m : Mm} (h : RamAt W g gp gd pg bl m) (i : Nat) : W.frozen? ⟨gp, i, none⟩ = false := by
  obtain ⟨c, hc, _, h2⟩ := h.p
  exact frozen_of_row _ _ i _ _ hc
theorem RamAt.qcell {W : World} {g gp gd : Nat} {pg : Nat → Option Nat} {bl : Option Nat} {m : Mm} (h : RamAt W g gp gd pg bl m) {i : Nat} (hi : i < m.n) : W.cell? ⟨gd, i, none⟩ = some (.int .i64 (bit01 (m.d i))) := by
  obtain ⟨c, hc, _, h2⟩ := h.q
  exact (cell_of_row _ _ i _ _ _ hc).trans (h2 i hi)
theorem RamAt.qfz {W : World} {g gp gd : Nat} {pg : Nat → Option Nat} {bl : Option Nat} {m : Mm} (h : RamAt W g gp gd pg bl m) (i : Nat) : W.frozen? ⟨gd, i, none⟩ = false := by
  obtain ⟨c, hc, _, h2⟩ := h.q
  exact frozen_of_row _ _ i _ _ hc

theorem slice_neq_nil (w : World) (a : Option Addr) (n c : Nat) : (binOp .neq 107 (.slice a n c) (.slice none 0 0)).run Tryd.prog w = .ok (.bool (!a.isNone)) w := run_neq_slice_nil_any (P := Tryd.prog) w 107 5 a n c 0 0 Tryd.underlying107
theorem slice_eql_nil (w : World) (a : Option Addr) (n c : Nat) : (binOp .eql 107 (.slice a n c) (.slice none 0 0)).run Tryd.prog w = .ok (.bool a.isNone) w := Lib.run_eql_slice_nil (P := Tryd.prog) w 107 5 a n c 0 0 Tryd.underlying107
set_option maxRecDepth 100000 in
set_option maxHeartbeats 1600000 in
theorem mem_at {g : Nat} {m : Mm} {F : Nat → Prop} {w : World} (h : RamIs w g m F) (i : Nat) (hi : i < m.n) :
    Calls Tryd.prog 60 #[.pointer (some ⟨g, 0, none⟩), .int .i64 i] w fun e w' => ∃ k c F', e = .returned (.slice (some ⟨k, 0, none⟩) 4096 c) ∧ 4096 ≤ c ∧ RamIs w' g m F' ∧ PageAt w' k (fun j => m.f (4096 * i + j)) ∧ MemStep F F' w w' ∧ F' k := by
  obtain ⟨gp, gd, pg, bl, h, hf, hlt⟩ := h
  have c0 := h.c0
  have p0 := h.pcell hi
  have hn := h.n2
  have hpl := h.pl i hi
  have hin : (i : Int) < (m.n : Int) := by omega
  have hi0 : (0 : Int) ≤ (i : Int) := by omega
  cases hpg : pg i with
  | some k =>
    rw [hpg] at p0
    simp only [pgC] at p0
    have HR := Lib.hid (show RamIs w g m F from ⟨gp, gd, pg, bl, h, hf, hlt⟩)
    have HP := Lib.hid (h.pb i k hi hpg)
    have HF : Hid (F k) := Lib.hid (hf k (.inr (.inr (.inr (.inr ⟨i, hi, hpg⟩)))))
    clear h hf hlt hpg
    have hne := slice_neq_nil
    go_enter Tryd.func60, Tryd.ntmps60
    go_wp2_with fail
    go_ret
    exact ⟨k, _, F, rfl, hpl, HR.out, HP.out, MemStep.refl _ _, HF.out⟩
  | none =>
    rw [hpg] at p0
    simp only [pgC] at p0
    have hz := h.pz i hi hpg
    have HN := Lib.hid (mem_noughts h)
    have HR : Hid (∀ k W, RamAt W g gp gd pg (some k) m → KX (fun k => k = g) w W → (bl = some k ∨ w.heap.size ≤ k) → ∃ F', RamIs W g m F' ∧ PageAt W k (fun j => m.f (4096 * i + j)) ∧ MemStep F F' w W ∧ F' k) := Lib.hid (fun k W hr hx hk => ⟨fun j => F j ∨ j = k, ⟨gp, gd, pg, some k, hr, fun j hj => by
        rcases hj with rfl | rfl | rfl | hb | hb
        · exact .inl (hf _ (.inl rfl))
        · exact .inl (hf _ (.inr (.inl rfl)))
        · exact .inl (hf _ (.inr (.inr (.inl rfl))))
        · exact .inr (Option.some.inj hb).symm
        · exact .inl (hf _ (.inr (.inr (.inr (.inr hb))))), fun j hj => by
        rcases hj with hj | rfl
        · exact Nat.lt_of_lt_of_le (hlt j hj) hx.size
        · exact (hr.bz _ rfl).lt⟩, by
        obtain ⟨c, h1, h2, h3⟩ := hr.bz k rfl
        exact ⟨c, h1, h2, fun j hj => by rw [h3 j hj]; show _ = some (B8 (m.f (4096 * i + j))); rw [hz j hj]⟩, ⟨hx.mono (fun j _ e => by subst e; exact hf _ (.inl rfl)), fun j hj => by
        rcases hj with hj | rfl
        · exact .inl hj
        · rcases hk with hk | hk
          · exact .inl (hf _ (.inr (.inr (.inr (.inl hk)))))
          · exact .inr hk⟩, .inr rfl⟩)
    clear h hf hlt hpg hz
    have hne := slice_neq_nil
    go_enter Tryd.func60, Tryd.ntmps60
    go_wp2_with fail
    refine (HN.out).mono ?_
    rintro e w' ⟨k, rfl, hr, hx, hk⟩
    obtain ⟨F', h1⟩ := HR.out k w' hr hx hk
    have H1 := Lib.hid h1
    clear h1 hr hx hk HR HN
    go_wp2_with fail
    go_ret
    exact ⟨k, 4096, F', rfl, Nat.le_refl _, H1.out⟩

def updD (d : Nat → Bool) (i : Nat) : Nat → Bool := fun j => if j = i then true else d j
def updP (pg : Nat → Option Nat) (i k : Nat) : Nat → Option Nat := fun j => if j = i then some k else pg j
def updF (f : Nat → UInt8) (a : Nat) (x : UInt8) : Nat → UInt8 := fun j => if j = a then x else f j
theorem set_get {c : Array Value} {i j : Nat} {v x : Value} (hi : i < c.size) (h : c[j]? = some x) : (c.setIfInBounds i v)[j]? = some (if j = i then v else x) := by
  by_cases e : j = i
  · subst e; rw [if_pos rfl]; simp [hi]
  · rw [if_neg e, Array.getElem?_setIfInBounds_ne (fun e' => e e'.symm)]; exact h
theorem RamAt.foot_ne {W : World} {g gp gd : Nat} {pg : Nat → Option Nat} {bl : Option Nat} {m : Mm} (h : RamAt W g gp gd pg bl m) :
    g ≠ gp ∧ g ≠ gd ∧ gp ≠ gd ∧ (∀ i k, i < m.n → pg i = some k → k ≠ g ∧ k ≠ gp ∧ k ≠ gd) ∧ (∀ k, bl = some k → k ≠ g ∧ k ≠ gp ∧ k ≠ gd) := by
  obtain ⟨cp, hp, _⟩ := h.p
  obtain ⟨cq, hq, _⟩ := h.q
  refine ⟨ne_of_types h.r hp (by decide), ne_of_types h.r hq (by decide), ne_of_types hp hq (by decide), fun i k hi hk => ?_, fun k hk => ?_⟩
  · obtain ⟨c, hc, _⟩ := h.pb i k hi hk
    exact ⟨ne_of_types hc h.r (by decide), ne_of_types hc hp (by decide), ne_of_types hc hq (by decide)⟩
  · obtain ⟨c, hc, _⟩ := h.bz k hk
    exact ⟨ne_of_types hc h.r (by decide), ne_of_types hc hp (by decide), ne_of_types hc hq (by decide)⟩
/-- A page is marked. -/
theorem RamAt.mark {W : World} {g gp gd : Nat} {pg : Nat → Option Nat} {bl : Option Nat} {m : Mm} (h : RamAt W g gp gd pg bl m) (i : Nat) :
    RamAt (W.setCell ⟨gd, i, none⟩ (.int .i64 1)) g gp gd pg bl { m with d := updD m.d i } := by
  obtain ⟨n1, n2, n3, n4, n5⟩ := h.foot_ne
  have ho : ∀ k, k ≠ gd → (W.setCell ⟨gd, i, none⟩ (.int .i64 1)).heap[k]? = W.heap[k]? := fun k hk => heap_cell_other hk
  exact {
    n1 := h.n1
    n2 := h.n2
    r := (ho g n2).trans h.r
    p := by
      obtain ⟨c, hc, h2⟩ := h.p
      exact ⟨c, (ho gp n3).trans hc, h2⟩
    q := by
      obtain ⟨c, hc, hs, h2⟩ := h.q
      refine ⟨_, set_cells hc, by simpa using hs, fun j hj => ?_⟩
      by_cases hi : i < c.size
      · rw [set_get hi (h2 j hj)]
        show _ = some (Value.int .i64 (bit01 (updD m.d i j)))
        unfold updD
        by_cases e : j = i
        · rw [if_pos e, if_pos e]; rfl
        · rw [if_neg e, if_neg e]
      · rw [Array.setIfInBounds_eq_of_size_le (by omega), h2 j hj]
        show _ = some (Value.int .i64 (bit01 (updD m.d i j)))
        unfold updD
        rw [if_neg (by have : j < m.n := hj; omega)]
    pb := fun i k hi hk => (h.pb i k hi hk).keep (ho k (n4 i k hi hk).2.2)
    pz := h.pz
    bz := fun k hk => (h.bz k hk).keep (ho k (n5 k hk).2.2)
    inj := h.inj
    nb := h.nb
    dl := h.dl
    pl := h.pl
    pn := h.pn }
/-- A page is made. -/
theorem RamAt.adopt {W : World} {g gp gd : Nat} {pg : Nat → Option Nat} {bl : Option Nat} {m : Mm} (h : RamAt W g gp gd pg bl m) {i k : Nat} (hi : i < m.n) (hk : W.heap[k]? = some (.cells zeroPage 5 (0, 0))) (hn : ¬ RamFoot g gp gd m.n pg bl k) (hpg : pg i = none) :
    RamAt (W.setCell ⟨gp, i, none⟩ (.slice (some ⟨k, 0, none⟩) 4096 4096)) g gp gd (updP pg i k) bl m := by
  obtain ⟨n1, n2, n3, n4, n5⟩ := h.foot_ne
  have ho : ∀ k', k' ≠ gp → (W.setCell ⟨gp, i, none⟩ (.slice (some ⟨k, 0, none⟩) 4096 4096)).heap[k']? = W.heap[k']? := fun k' hk => heap_cell_other hk
  have hkp : k ≠ gp := fun e => hn (.inr (.inl e))
  have hpz := h.pz i hi hpg
  have hup : ∀ j k', j < m.n → updP pg i k j = some k' → (j = i ∧ k' = k) ∨ (j ≠ i ∧ pg j = some k') := fun j k' _ hj => by
    unfold updP at hj
    by_cases e : j = i
    · rw [if_pos e] at hj; exact .inl ⟨e, (Option.some.inj hj).symm⟩
    · rw [if_neg e] at hj; exact .inr ⟨e, hj⟩
  exact {
    n1 := h.n1
    n2 := h.n2
    r := (ho g n1).trans h.r
    p := by
      obtain ⟨c, hc, hs, h2⟩ := h.p
      refine ⟨_, set_cells hc, by simpa using hs, fun j hj => ?_⟩
      rw [set_get (by omega) (h2 j hj)]
      unfold updP
      by_cases e : j = i
      · rw [if_pos e, if_pos e, e, h.pn i hi hpg]; rfl
      · rw [if_neg e, if_neg e]
    q := by
      obtain ⟨c, hc, h2⟩ := h.q
      exact ⟨c, (ho gd (Ne.symm n3)).trans hc, h2⟩
    pb := fun j k' hj hk' => by
      rcases hup j k' hj hk' with ⟨rfl, rfl⟩ | ⟨_, hp⟩
      · exact ⟨zeroPage, (ho _ hkp).trans hk, by rw [zeroPage_size]; exact Nat.le_refl _, fun x hx => by rw [zeroPage_get hx]; show _ = some (B8 (m.f (4096 * j + x))); rw [hpz x hx]⟩
      · exact (h.pb j k' hj hp).keep (ho k' (n4 j k' hj hp).2.1)
    pz := fun j hj hp => by
      unfold updP at hp
      by_cases e : j = i
      · rw [if_pos e] at hp; cases hp
      · rw [if_neg e] at hp; exact h.pz j hj hp
    bz := fun k' hk' => (h.bz k' hk').keep (ho k' (n5 k' hk').2.1)
    inj := fun a b k' ha hb h1 h2 => by
      rcases hup a k' ha h1 with ⟨e1, f1⟩ | ⟨e1, f1⟩ <;> rcases hup b k' hb h2 with ⟨e2, f2⟩ | ⟨e2, f2⟩
      · rw [e1, e2]
      · exact absurd (.inr (.inr (.inr (.inr ⟨b, hb, f1 ▸ f2⟩)))) hn
      · exact absurd (.inr (.inr (.inr (.inr ⟨a, ha, f2 ▸ f1⟩)))) hn
      · exact h.inj a b k' ha hb f1 f2
    nb := fun j k' hj hk' hb => by
      rcases hup j k' hj hk' with ⟨rfl, rfl⟩ | ⟨_, hp⟩
      · exact hn (.inr (.inr (.inr (.inl hb))))
      · exact h.nb j k' hj hp hb
    dl := h.dl
    pl := h.pl
    pn := fun j hj hp => by
      unfold updP at hp
      by_cases e : j = i
      · rw [if_pos e] at hp; cases hp
      · rw [if_neg e] at hp; exact h.pn j hj hp }
/-- A byte is written. -/
theorem RamAt.poke {W : World} {g gp gd : Nat} {pg : Nat → Option Nat} {bl : Option Nat} {m : Mm} (h : RamAt W g gp gd pg bl m) {i k j : Nat} (hi : i < m.n) (hk : pg i = some k) (hj : j < 4096) (x : UInt8) :
    RamAt (W.setCell ⟨k, j, none⟩ (B8 x)) g gp gd pg bl { m with f := updF m.f (4096 * i + j) x } := by
  obtain ⟨n1, n2, n3, n4, n5⟩ := h.foot_ne
  obtain ⟨k1, k2, k3⟩ := n4 i k hi hk
  have ho : ∀ k', k' ≠ k → (W.setCell ⟨k, j, none⟩ (B8 x)).heap[k']? = W.heap[k']? := fun k' hk => heap_cell_other hk
  exact {
    n1 := h.n1
    n2 := h.n2
    r := (ho g (Ne.symm k1)).trans h.r
    p := by
      obtain ⟨c, hc, h2⟩ := h.p
      exact ⟨c, (ho gp (Ne.symm k2)).trans hc, h2⟩
    q := by
      obtain ⟨c, hc, h2⟩ := h.q
      exact ⟨c, (ho gd (Ne.symm k3)).trans hc, h2⟩
    pb := fun i' k' hi' hk' => by
      by_cases e : i' = i
      · subst e
        obtain rfl : k = k' := Option.some.inj (hk.symm.trans hk')
        obtain ⟨c, hc, hs, h2⟩ := h.pb i' k hi hk
        refine ⟨_, set_cells hc, by simpa using hs, fun y hy => ?_⟩
        rw [set_get (by omega) (h2 y hy)]
        show _ = some (B8 (updF m.f (4096 * i' + j) x (4096 * i' + y)))
        unfold updF
        by_cases e : y = j
        · rw [if_pos e, if_pos (by omega)]
        · rw [if_neg e, if_neg (by omega)]
      · have hne : k' ≠ k := fun e' => e (h.inj i' i k hi' hi (e' ▸ hk') hk)
        obtain ⟨c, hc, hs, h2⟩ := (h.pb i' k' hi' hk').keep (ho k' hne)
        refine ⟨c, hc, hs, fun y hy => ?_⟩
        rw [h2 y hy]
        show _ = some (B8 (updF m.f (4096 * i + j) x (4096 * i' + y)))
        unfold updF
        rw [if_neg (by omega)]
    pz := fun i' hi' hp y hy => by
      show updF m.f (4096 * i + j) x (4096 * i' + y) = 0
      unfold updF
      rw [if_neg (fun e => by
        have : i' = i := by omega
        subst this
        rw [hk] at hp; cases hp)]
      exact h.pz i' hi' hp y hy
    bz := fun k' hk' => (h.bz k' hk').keep (ho k' (fun e => h.nb i k hi hk (e ▸ hk')))
    inj := h.inj
    nb := h.nb
    dl := h.dl
    pl := h.pl
    pn := h.pn }
/-- A write is counted. -/
theorem RamAt.count {W : World} {g gp gd : Nat} {pg : Nat → Option Nat} {bl : Option Nat} {m : Mm} (h : RamAt W g gp gd pg bl m) (v : Int) :
    RamAt (W.setCell ⟨g, 2, none⟩ (.int .i64 v)) g gp gd pg bl { m with wr := v } := by
  obtain ⟨n1, n2, n3, n4, n5⟩ := h.foot_ne
  have ho : ∀ k', k' ≠ g → (W.setCell ⟨g, 2, none⟩ (.int .i64 v)).heap[k']? = W.heap[k']? := fun k' hk => heap_cell_other hk
  exact {
    n1 := h.n1
    n2 := h.n2
    r := (set_cells h.r).trans rfl
    p := by
      obtain ⟨c, hc, h2⟩ := h.p
      exact ⟨c, (ho gp (Ne.symm n1)).trans hc, h2⟩
    q := by
      obtain ⟨c, hc, h2⟩ := h.q
      exact ⟨c, (ho gd (Ne.symm n2)).trans hc, h2⟩
    pb := fun i k hi hk => (h.pb i k hi hk).keep (ho k (n4 i k hi hk).1)
    pz := h.pz
    bz := fun k hk => (h.bz k hk).keep (ho k (n5 k hk).1)
    inj := h.inj
    nb := h.nb
    dl := h.dl
    pl := h.pl
    pn := h.pn }

set_option maxRecDepth 100000 in
set_option maxHeartbeats 1600000 in
theorem mem_own {g : Nat} {m : Mm} {F : Nat → Prop} {w : World} (h : RamIs w g m F) (i : Nat) (hi : i < m.n) :
    Calls Tryd.prog 69 #[.pointer (some ⟨g, 0, none⟩), .int .i64 i] w fun e w' => ∃ gp gd pg bl k c F', e = .returned (.slice (some ⟨k, 0, none⟩) 4096 c) ∧ 4096 ≤ c ∧ RamAt w' g gp gd pg bl { m with d := updD m.d i } ∧ pg i = some k ∧ (∀ k, RamFoot g gp gd m.n pg bl k → F' k) ∧ (∀ k, F' k → k < w'.heap.size) ∧ MemStep F F' w w' := by
  obtain ⟨gp, gd, pg, bl, h, hf, hlt⟩ := h
  have c0 := h.c0
  have c1 := h.c1
  have p0 := h.pcell hi
  have q0 := h.qcell hi
  have qf := h.qfz i
  have pf := h.pfz i
  have hn := h.n2
  have hpl := h.pl i hi
  have hin : (i : Int) < (m.n : Int) := by omega
  have hi0 : (0 : Int) ≤ (i : Int) := by omega
  obtain ⟨n1, n2, n3, n4, n5⟩ := h.foot_ne
  have hgd : gd < w.heap.size := h.lt (.inr (.inr (.inl rfl)))
  cases hpg : pg i with
  | some k =>
    rw [hpg] at p0
    simp only [pgC] at p0
    have HR := Lib.hid (h.mark i)
    have HP := Lib.hid hpg
    have HF := Lib.hid hf
    have HX : Hid (MemStep F F w (w.setCell ⟨gd, i, none⟩ (.int .i64 1))) := Lib.hid ⟨(KX.refl F w).setCell (p := ⟨gd, i, none⟩) (.inl (hf _ (.inr (.inr (.inl rfl))))) _, fun _ h => .inl h⟩
    have hs : gd ≠ g := Ne.symm n2
    have hs2 : gd ≠ gp := Ne.symm n3
    have HL : Hid (∀ k, F k → k < (w.setCell ⟨gd, i, none⟩ (.int .i64 1)).heap.size) := Lib.hid (fun k hk => by simpa [World.setCell] using hlt k hk)
    clear h hf hlt hpg n4 n5
    have hne := slice_eql_nil
    go_enter Tryd.func69, Tryd.ntmps69
    go_wp2_with fail
    go_ret
    exact ⟨gp, gd, pg, bl, k, _, F, rfl, hpl, HR.out, HP.out, HF.out, HL.out, HX.out⟩
  | none =>
    rw [hpg] at p0
    simp only [pgC] at p0
    have hgp : gp < w.heap.size := h.lt (.inr (.inl rfl))
    have hgg : g < w.heap.size := h.lt (.inl rfl)
    obtain ⟨W1, hW1⟩ : ∃ W1, W1 = ((w.setCell ⟨gp, i, none⟩ (.slice (some ⟨w.heap.size, 0, none⟩) 4096 4096)).alloc (.cells zeroPage 5)).drew := ⟨_, rfl⟩
    have hR1 : RamAt W1 g gp gd (updP pg i w.heap.size) bl m := by
      have ha := h.keep (W' := w.alloc (.cells zeroPage 5)) (fun k hk => Below.heap_alloc _ _ _ (h.lt hk))
      have hb := ha.adopt hi (heap_alloc_new w _) (fun hk => by have := h.lt hk; omega) hpg
      refine hb.keep (fun k hk => ?_)
      rw [hW1]
      by_cases hkw : k = w.heap.size
      · subst hkw
        rw [heap_cell_other (by simp; omega), heap_alloc_new]
        have e : (w.setCell ⟨gp, i, none⟩ (.slice (some ⟨w.heap.size, 0, none⟩) 4096 4096)).heap.size = w.heap.size := by simp [World.setCell]
        have := heap_alloc_new (w.setCell ⟨gp, i, none⟩ (.slice (some ⟨w.heap.size, 0, none⟩) 4096 4096)) (.cells zeroPage 5)
        rw [e] at this
        exact this
      · have hkl : k < w.heap.size := by
          have := hb.lt hk
          simp [World.setCell] at this
          omega
        show ((w.setCell ⟨gp, i, none⟩ (.slice (some ⟨w.heap.size, 0, none⟩) 4096 4096)).alloc (.cells zeroPage 5)).heap[k]? = _
        rw [Below.heap_alloc _ _ _ (by simp [World.setCell]; exact hkl)]
        by_cases hkg : k = gp
        · subst hkg
          obtain ⟨c, hc, _⟩ := h.p
          rw [set_cells hc, set_cells ((Below.heap_alloc _ _ _ hkl).trans hc)]
        · rw [heap_cell_other hkg, heap_cell_other hkg, Below.heap_alloc _ _ _ hkl]
    have hX1 : MemStep F (fun k => F k ∨ k = w.heap.size) w W1 := by
      rw [hW1]
      exact ⟨(((KX.refl F w).setCell (p := ⟨gp, i, none⟩) (.inl (hf _ (.inr (.inl rfl)))) _).alloc _).drew, fun k hk => hk.imp id (fun e => by omega)⟩
    have e0 := hR1.c0
    have e1 := hR1.c1
    have ep := hR1.pcell hi
    have eq := hR1.qcell hi
    have ef := hR1.qfz i
    have hup : updP pg i w.heap.size i = some w.heap.size := if_pos rfl
    rw [hup] at ep
    simp only [pgC] at ep
    have HR := Lib.hid (hR1.mark i)
    have HP := Lib.hid hup
    have HF : Hid (∀ k, RamFoot g gp gd m.n (updP pg i w.heap.size) bl k → F k ∨ k = w.heap.size) := Lib.hid (fun k hk => by
      rcases hk with rfl | rfl | rfl | hb | ⟨j, hj, hb⟩
      · exact .inl (hf _ (.inl rfl))
      · exact .inl (hf _ (.inr (.inl rfl)))
      · exact .inl (hf _ (.inr (.inr (.inl rfl))))
      · exact .inl (hf _ (.inr (.inr (.inr (.inl hb)))))
      · unfold updP at hb
        by_cases e : j = i
        · rw [if_pos e] at hb; exact .inr (Option.some.inj hb).symm
        · rw [if_neg e] at hb; exact .inl (hf _ (.inr (.inr (.inr (.inr ⟨j, hj, hb⟩))))))
    have HX : Hid (MemStep F (fun k => F k ∨ k = w.heap.size) w (W1.setCell ⟨gd, i, none⟩ (.int .i64 1))) := Lib.hid (hX1.trans ⟨(KX.refl _ W1).setCell (p := ⟨gd, i, none⟩) (.inl (.inl (hf _ (.inr (.inr (.inl rfl)))))) _, fun _ h => .inl h⟩)
    have hs : gd ≠ g := Ne.symm n2
    have hs2 : gd ≠ gp := Ne.symm n3
    have HW := Lib.hid hW1
    have a0 : (w.alloc (.cells zeroPage 5)).cell? ⟨g, 0, none⟩ = _ := (World.cell?_alloc_past _ _ _ hgg).trans c0
    have a1 : (w.alloc (.cells zeroPage 5)).cell? ⟨gp, i, none⟩ = _ := (World.cell?_alloc_past _ _ _ hgp).trans p0
    have a2 : (w.alloc (.cells zeroPage 5)).frozen? ⟨gp, i, none⟩ = _ := (World.frozen?_alloc_past _ _ _ hgp).trans pf
    have HL : Hid (∀ k, (F k ∨ k = w.heap.size) → k < (W1.setCell ⟨gd, i, none⟩ (.int .i64 1)).heap.size) := Lib.hid (fun k hk => by
      have e : W1.heap.size = w.heap.size + 1 := by rw [hW1]; simp [World.setCell]
      rcases hk with hk | rfl
      · have := hlt k hk
        simp [World.setCell]
        omega
      · simp [World.setCell]
        omega)
    clear h hf hlt hpg n4 n5 hW1 hR1 hX1 hup
    have hne := slice_eql_nil
    have hm := make_page
    go_enter Tryd.func69, Tryd.ntmps69
    go_upto_region 2 with fail
    go_region
    all_goals rw [← HW.out]
    all_goals clear a0 a1 a2 HW c0 c1 p0 q0 qf pf
    all_goals generalize w.heap.size = k1 at ep HR HP HF HX HL
    all_goals go_wp2_with fail
    all_goals go_ret
    all_goals exact ⟨gp, gd, _, bl, k1, _, _, rfl, hpl, HR.out, HP.out, HF.out, HL.out, HX.out⟩
end Go.Proofs.YtcakcfeipfjmpaaDoor
