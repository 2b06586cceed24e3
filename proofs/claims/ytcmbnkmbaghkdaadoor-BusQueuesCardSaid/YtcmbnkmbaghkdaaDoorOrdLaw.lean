/-
The state of BusOrder's loop: the queue, what went in, what came out; what each step keeps.
No condition.
-/
import Derived.Test.YtcmbnkmbaghkdaaDoorBusPop
import Derived.Maps.AppendAt
namespace Go.Proofs.YtcmbnkmbaghkdaaDoor
open Go.RowKit

theorem owns_below {w w' : World} {base e size n : Nat} {v : Value} {xs : List Value} (h : w.ownsRow base e size v n xs) (hb : Below w.heap.size w w') : w'.ownsRow base e size v n xs := by
  refine ⟨h.1, ?_⟩
  rcases h.2 with h2 | ⟨g, cap, cur, rfl, h3, h4, h5⟩
  · exact .inl h2
  · exact .inr ⟨g, cap, cur, rfl, h3, keepB h4 hb, h5⟩
theorem owns_setRow {w : World} {base e size n b : Nat} {v : Value} {xs : List Value} (h : w.ownsRow base e size v n xs) (cs : Array Value) (hb : b < base) : (w.setRow b cs).ownsRow base e size v n xs := by
  refine ⟨h.1, ?_⟩
  rcases h.2 with h2 | ⟨g, cap, cur, rfl, h3, h4, h5⟩
  · exact .inl h2
  · exact .inr ⟨g, cap, cur, rfl, h3, (row_keep1 (by omega)).trans h4, h5⟩
theorem posts_block {w w' : World} {ao : Option Addr} {l : List Pst} (h : PostsAt w ao l) (hk : ∀ a, ao = some a → w'.heap[a.block]? = w.heap[a.block]?) : PostsAt w' ao l := fun k p hp => by
  obtain ⟨b, o, h1, h2, c0, c1, c2, c3⟩ := h k p hp
  have e := hk _ h1
  have hlt : b < w'.heap.size := by
    have h3 : (w.heap[b]?).isSome = true := by rw [Array.getElem?_eq_getElem h2]; rfl
    rw [← e] at h3
    cases h4 : w'.heap[b]? with
    | none => rw [h4] at h3; cases h3
    | some x => exact (Array.getElem?_eq_some_iff.1 h4).1
  exact ⟨b, o, h1, hlt, (World.cell?_of_block (a := ⟨b, o + k * 4, none⟩) e).trans c0, (World.cell?_of_block (a := ⟨b, o + k * 4 + 1, none⟩) e).trans c1, (World.cell?_of_block (a := ⟨b, o + k * 4 + 2, none⟩) e).trans c2, (World.cell?_of_block (a := ⟨b, o + k * 4 + 3, none⟩) e).trans c3⟩

/-- The state of the loop. -/
structure OrdAt (w0 : World) (bx : Nat) (L IN OUT : List Pst) (ao : Option Addr) (cap : Nat) (vin vout : Value) (w : World) : Prop where
  q : w.heap[bx]? = some (.cells #[.slice ao L.length cap] 31 (0, 0))
  p : PostsAt w ao L
  ok : queueOk L
  lc : L.length ≤ cap
  no : ao = none → L.length = 0 ∧ cap = 0
  fm : ao = none ∨ ∃ g, ao = some ⟨g, 0, none⟩
  oi : w.ownsRow (bx + 1) 37 4 vin IN.length (flat IN)
  oo : w.ownsRow (bx + 1) 37 4 vout OUT.length (flat OUT)
  ap : ∀ g, vin.ownBlock = some g → vout.ownBlock ≠ some g
  aq : ∀ a, ao = some a → 0 < L.length → a.block < w.heap.size ∧ vin.ownBlock ≠ some a.block ∧ vout.ownBlock ≠ some a.block
  b : Below bx w0 w
theorem OrdAt.lt {w0 w : World} {bx cap : Nat} {L IN OUT : List Pst} {ao : Option Addr} {vin vout : Value} (h : OrdAt w0 bx L IN OUT ao cap vin vout w) : bx < w.heap.size := (Array.getElem?_eq_some_iff.1 h.q).1
theorem OrdAt.below {w0 w w' : World} {bx cap : Nat} {L IN OUT : List Pst} {ao : Option Addr} {vin vout : Value} (h : OrdAt w0 bx L IN OUT ao cap vin vout w) (hb : Below w.heap.size w w') : OrdAt w0 bx L IN OUT ao cap vin vout w' :=
  ⟨keepB h.q hb, h.p.below hb, h.ok, h.lc, h.no, h.fm, owns_below h.oi hb, owns_below h.oo hb, h.ap, fun a ha h0 => ⟨Nat.lt_of_lt_of_le (h.aq a ha h0).1 hb.size, (h.aq a ha h0).2⟩, h.b.trans (hb.mono (Nat.le_of_lt h.lt))⟩
theorem OrdAt.setq {w0 w : World} {bx cap cap' g : Nat} {L L' IN OUT : List Pst} {ao : Option Addr} {vin vout : Value} (h : OrdAt w0 bx L IN OUT ao cap vin vout w) (hp : PostsAt w (some ⟨g, 0, none⟩) L') (hq : queueOk L') (hl : L'.length ≤ cap')
    (hg : bx < g) (h1 : vin.ownBlock ≠ some g) (h2 : vout.ownBlock ≠ some g) : OrdAt w0 bx L' IN OUT (some ⟨g, 0, none⟩) cap' vin vout (w.setRow bx #[.slice (some ⟨g, 0, none⟩) L'.length cap']) := by
  refine ⟨setRow_heap _ _ _ _ _ _ h.q, posts_setRow hp _ (by omega), hq, hl, (fun e => by cases e), .inr ⟨g, rfl⟩, owns_setRow h.oi _ (by omega), owns_setRow h.oo _ (by omega), h.ap, fun a ha h0 => ?_, below_setRow h.b (Nat.le_refl _) _⟩
  obtain rfl : (⟨g, 0, none⟩ : Addr) = a := Option.some.inj ha
  refine ⟨?_, h1, h2⟩
  cases hL : L' with
  | nil => rw [hL] at h0; exact absurd h0 (by simp)
  | cons x l =>
    obtain ⟨b', o', e1, e2, _⟩ := hp 0 x (by rw [hL]; rfl)
    obtain ⟨rfl, _⟩ : g = b' ∧ 0 = o' := by simpa using e1
    simpa [World.setRow] using e2
theorem OrdAt.appendIn {w0 w w' : World} {bx cap : Nat} {L IN OUT : List Pst} {ao : Option Addr} {vin vout v' : Value} {x : Pst} (h : OrdAt w0 bx L IN OUT ao cap vin vout w)
    (ho : w'.ownsRow (bx + 1) 37 4 v' (IN.length + 1) (flat IN ++ x.c.toList)) (hg : w.grownBy w' vin.ownBlock) (hv : v'.ownBlock = vin.ownBlock ∨ v'.ownBlock = some w.heap.size) : OrdAt w0 bx L (IN ++ [x]) OUT ao cap v' vout w' := by
  have hin : ∀ k, vin.ownBlock = some k → bx + 1 ≤ k ∧ k < w.heap.size := h.oi.lt
  have hout : ∀ k, vout.ownBlock = some k → bx + 1 ≤ k ∧ k < w.heap.size := h.oo.lt
  have hlt := h.lt
  have hpp : PostsAt w' ao L := by
    cases hL : L with
    | nil => exact posts_nil _ _
    | cons p l =>
      rw [← hL]
      refine posts_block h.p (fun a ha => ?_)
      obtain ⟨k1, k2, _⟩ := h.aq a ha (by rw [hL]; simp)
      exact hg.block _ k1 (fun e => k2 e.symm)
  refine ⟨(hg.block bx hlt (fun e => by have := (hin bx e.symm).1; omega)).trans h.q, hpp, h.ok, h.lc, h.no, h.fm, ?_, ?_, fun g hgv hgo => ?_, fun a ha h0 => ?_, Below.grown h.b hg (by omega) (fun k hk => by have := (hin k hk).1; omega)⟩
  · rw [show flat (IN ++ [x]) = flat IN ++ x.c.toList by simp [flat], List.length_append]
    exact ho
  · exact h.oo.kept hg (by
      cases hvo : vout.ownBlock with
      | none => exact .inl rfl
      | some k =>
        refine .inr fun e => ?_
        exact h.ap k e.symm hvo)
  · rcases hv with e | e
    · exact h.ap g (e.symm.trans hgv) hgo
    · have h1 : g = w.heap.size := Option.some.inj (hgv.symm.trans e)
      have := (hout g hgo).2
      omega
  · obtain ⟨k1, k2, k3⟩ := h.aq a ha h0
    refine ⟨Nat.lt_of_lt_of_le k1 hg.size, fun e => ?_, k3⟩
    rcases hv with e2 | e2
    · exact k2 (e2.symm.trans e)
    · have : w.heap.size = a.block := Option.some.inj (e2.symm.trans e)
      omega
theorem OrdAt.appendOut {w0 w w' : World} {bx cap : Nat} {L IN OUT : List Pst} {ao : Option Addr} {vin vout v' : Value} {x : Pst} (h : OrdAt w0 bx L IN OUT ao cap vin vout w)
    (ho : w'.ownsRow (bx + 1) 37 4 v' (OUT.length + 1) (flat OUT ++ x.c.toList)) (hg : w.grownBy w' vout.ownBlock) (hv : v'.ownBlock = vout.ownBlock ∨ v'.ownBlock = some w.heap.size) : OrdAt w0 bx L IN (OUT ++ [x]) ao cap vin v' w' := by
  have hin : ∀ k, vin.ownBlock = some k → bx + 1 ≤ k ∧ k < w.heap.size := h.oi.lt
  have hout : ∀ k, vout.ownBlock = some k → bx + 1 ≤ k ∧ k < w.heap.size := h.oo.lt
  have hlt := h.lt
  have hpp : PostsAt w' ao L := by
    cases hL : L with
    | nil => exact posts_nil _ _
    | cons p l =>
      rw [← hL]
      refine posts_block h.p (fun a ha => ?_)
      obtain ⟨k1, _, k2⟩ := h.aq a ha (by rw [hL]; simp)
      exact hg.block _ k1 (fun e => k2 e.symm)
  refine ⟨(hg.block bx hlt (fun e => by have := (hout bx e.symm).1; omega)).trans h.q, hpp, h.ok, h.lc, h.no, h.fm, ?_, ?_, fun g hgv hgo => ?_, fun a ha h0 => ?_, Below.grown h.b hg (by omega) (fun k hk => by have := (hout k hk).1; omega)⟩
  · exact h.oi.kept hg (by
      cases hvo : vin.ownBlock with
      | none => exact .inl rfl
      | some k =>
        refine .inr fun e => ?_
        exact h.ap k hvo e.symm)
  · rw [show flat (OUT ++ [x]) = flat OUT ++ x.c.toList by simp [flat], List.length_append]
    exact ho
  · rcases hv with e | e
    · exact h.ap g hgv (e.symm.trans hgo)
    · have h1 : g = w.heap.size := Option.some.inj (hgo.symm.trans e)
      have := (hin g hgv).2
      omega
  · obtain ⟨k1, k2, k3⟩ := h.aq a ha h0
    refine ⟨Nat.lt_of_lt_of_le k1 hg.size, k2, fun e => ?_⟩
    rcases hv with e2 | e2
    · exact k3 (e2.symm.trans e)
    · have : w.heap.size = a.block := Option.some.inj (e2.symm.trans e)
      omega
end Go.Proofs.YtcmbnkmbaghkdaaDoor
