/-
What the reference's Send holds from round to round, in plain Lean: its boxes, its frames, its memory.
No condition.
-/
import Derived.Test.YtcmbnkmbaghkdaaDoorRef16Gv
import Derived.Test.YtcmbnkmbaghkdaaDoorNicSt
import Derived.Test.YtcmbnkmbaghkdaaDoorWalkAll
import Derived.Test.YtcmbnkmbaghkdaaDoorRef13N
namespace Go.Proofs.YtcmbnkmbaghkdaaDoor
open Go.RowKit
set_option linter.unusedVariables false

theorem KX.of_grown {W W' : World} {o : Option Nat} (h : W.grownBy W' o) : KX (fun k => o = some k) W W' := ⟨h.os, h.tape, h.output, h.size, fun k hk hn => h.block k hk (fun e => hn e.symm)⟩
structure R16 (w0 W : World) (B : Nat) (F : Nat → Prop) (s : NS) (rc : Array Value) (m : Mm) (fv : Value) (vs : List Value) (acc : List (List UInt8)) : Prop where
  low : Below w0.heap.size w0 W
  k0 : W.heap[w0.heap.size]? = some (.cells s.c 59 (0, 0))
  k1 : W.heap[w0.heap.size + 1]? = some (.cells rc 65 (0, 0))
  k2 : W.heap[w0.heap.size + 1 + 1]? = some (.cells NS.zero.c 59 (0, 0))
  k3 : W.heap[w0.heap.size + 1 + 1 + 1]? = some (.cells #[(.slice none 0 0 : Value), .slice none 0 0, .int .i64 0] 65 (0, 0))
  c3 : rc.size = 3
  co : rc.all (·.oneCell') = true
  ref : RefF W B (.agg rc) m (fun k => F k ∨ (w0.heap.size ≤ k ∧ k < w0.heap.size + 4) ∨ fv.ownBlock = some k)
  ow : W.ownsRow (w0.heap.size + 4) 62 1 fv vs.length vs
  len : acc.length = vs.length
  fr : Fr W vs acc (fun k => k < w0.heap.size + 4 ∨ fv.ownBlock = some k)
namespace R16
variable {w0 W W' : World} {B : Nat} {F : Nat → Prop} {s s' : NS} {rc rc' : Array Value} {m m' : Mm} {fv fv' : Value} {vs : List Value} {acc : List (List UInt8)}
theorem below (h : R16 w0 W B F s rc m fv vs acc) (hb : Below W.heap.size W W') : R16 w0 W' B F s rc m fv vs acc :=
  ⟨h.low.trans (hb.mono h.low.size), keepB h.k0 hb, keepB h.k1 hb, keepB h.k2 hb, keepB h.k3 hb, h.c3, h.co, h.ref.below hb, ownsRow_keep h.ow (fun q hq => hb.block q (ownsRow_lt h.ow hq).2), h.len, h.fr.keep hb.size (fun k hk _ => hb.block k hk) (fun _ _ hp => hp)⟩
theorem own (h : R16 w0 W B F s rc m fv vs acc) (kx : KX (fun k => w0.heap.size ≤ k ∧ k < w0.heap.size + 4) W W') (g0 : W'.heap[w0.heap.size]? = some (.cells s'.c 59 (0, 0))) (g1 : W'.heap[w0.heap.size + 1]? = some (.cells rc' 65 (0, 0)))
    (g2 : W'.heap[w0.heap.size + 1 + 1]? = W.heap[w0.heap.size + 1 + 1]?) (g3 : W'.heap[w0.heap.size + 1 + 1 + 1]? = W.heap[w0.heap.size + 1 + 1 + 1]?) (c3 : rc'.size = 3) (co : rc'.all (·.oneCell') = true)
    (hr : RefF W B (.agg rc') m' (fun k => F k ∨ (w0.heap.size ≤ k ∧ k < w0.heap.size + 4) ∨ fv.ownBlock = some k)) : R16 w0 W' B F s' rc' m' fv vs acc :=
  ⟨h.low.trans (kx.below (B := w0.heap.size) (fun k hk e => by omega) h.low.size), g0, g1, g2.trans h.k2, g3.trans h.k3, c3, co, hr.kx kx (fun k e => .inl (.inr (.inl e))),
    ownsRow_keep h.ow (fun q hq => kx.block q (ownsRow_lt h.ow hq).2 (fun e => by have := (ownsRow_lt h.ow hq).1; omega)), h.len, h.fr.keep kx.size (fun k hk hp => kx.block k hk (fun e => hp (.inl e.2))) (fun _ _ hp => hp)⟩
theorem setS (h : R16 w0 W B F s rc m fv vs acc) (kx : KX (fun k => k = w0.heap.size) W W') (g0 : W'.heap[w0.heap.size]? = some (.cells s'.c 59 (0, 0))) : R16 w0 W' B F s' rc m fv vs acc :=
  h.own (kx.mono (fun k _ e => by omega)) g0 (kx.heap h.k1 (by omega)) (kx.block _ (lt_heap h.k2) (by omega)) (kx.block _ (lt_heap h.k3) (by omega)) h.c3 h.co h.ref
theorem setM (h : R16 w0 W B F s rc m fv vs acc) (kx : KX (fun k => k = w0.heap.size + 1) W W') (g1 : W'.heap[w0.heap.size + 1]? = some (.cells rc' 65 (0, 0))) (c3 : rc'.size = 3) (co : rc'.all (·.oneCell') = true)
    (hr : RefF W B (.agg rc') m' (fun k => F k ∨ (w0.heap.size ≤ k ∧ k < w0.heap.size + 4) ∨ fv.ownBlock = some k)) : R16 w0 W' B F s rc' m' fv vs acc :=
  h.own (kx.mono (fun k _ e => by omega)) (kx.heap h.k0 (by omega)) g1 (kx.block _ (lt_heap h.k2) (by omega)) (kx.block _ (lt_heap h.k3) (by omega)) c3 co hr
theorem app (h : R16 w0 W B F s rc m fv vs acc) {gb o cap : Nat} {x : List UInt8} (hx : x.length ≤ cap) (hgb : gb < W.heap.size) (hgf : ¬ (gb < w0.heap.size + 4 ∨ fv.ownBlock = some gb)) (hc : ∀ (j : Nat) (y : UInt8), x[j]? = some y → W.cell? ⟨gb, o + j, none⟩ = some (B8 y))
    (hown : W'.ownsRow (w0.heap.size + 4) 62 1 fv' (vs.length + 1) (vs ++ [Value.slice (some ⟨gb, o, none⟩) x.length cap])) (hgr : W.grownBy W' fv.ownBlock) (hvb : fv'.ownBlock = fv.ownBlock ∨ fv'.ownBlock = some W.heap.size) :
    R16 w0 W' B F s rc m fv' (vs ++ [Value.slice (some ⟨gb, o, none⟩) x.length cap]) (acc ++ [x]) where
  low := ⟨hgr.os.trans h.low.os, hgr.tape.trans h.low.tape, hgr.output.trans h.low.output, Nat.le_trans h.low.size hgr.size, fun k hk => (hgr.block k (Nat.lt_of_lt_of_le hk h.low.size) (fun e => by have := (ownsRow_lt h.ow e.symm).1; omega)).trans (h.low.block k hk)⟩
  k0 := (hgr.block _ (lt_heap h.k0) (fun e => by have := (ownsRow_lt h.ow e.symm).1; omega)).trans h.k0
  k1 := (hgr.block _ (lt_heap h.k1) (fun e => by have := (ownsRow_lt h.ow e.symm).1; omega)).trans h.k1
  k2 := (hgr.block _ (lt_heap h.k2) (fun e => by have := (ownsRow_lt h.ow e.symm).1; omega)).trans h.k2
  k3 := (hgr.block _ (lt_heap h.k3) (fun e => by have := (ownsRow_lt h.ow e.symm).1; omega)).trans h.k3
  c3 := h.c3
  co := h.co
  ref := by
    refine ((h.ref.new (Nat.le_refl _)).kx (KX.of_grown hgr) (fun k e => .inl (.inl (.inr (.inr e))))).weak (fun k hk => ?_)
    rcases hk with hk | hk | hk
    · exact .inl (.inl hk)
    · exact .inl (.inr (.inl hk))
    · rcases hvb with e | e
      · exact .inl (.inr (.inr (by rw [← e]; exact hk)))
      · exact .inr (Option.some.inj (hk.symm.trans e))
  ow := by rw [List.length_append]; exact hown
  len := by rw [List.length_append, List.length_append, h.len]; rfl
  fr := by
    have hP : ∀ k, k < W.heap.size → (k < w0.heap.size + 4 ∨ fv'.ownBlock = some k) → (k < w0.heap.size + 4 ∨ fv.ownBlock = some k) := fun k hk hp => by
      rcases hp with hp | hp
      · exact .inl hp
      · rcases hvb with e | e
        · exact .inr (by rw [← e]; exact hp)
        · exact absurd hk (by have : k = W.heap.size := Option.some.inj (hp.symm.trans e); omega)
    have hE : ∀ k, k < W.heap.size → ¬ (k < w0.heap.size + 4 ∨ fv.ownBlock = some k) → W'.heap[k]? = W.heap[k]? := fun k hk hp => hgr.block k hk (fun e => hp (.inr e.symm))
    intro k y hk
    by_cases hlt : k < acc.length
    · rw [List.getElem?_append_left hlt] at hk
      obtain ⟨b, q, c, h1, h2⟩ := h.fr.keep hgr.size hE hP k y hk
      exact ⟨b, q, c, by rw [List.getElem?_append_left (by rw [← h.len]; exact hlt)]; exact h1, h2⟩
    · have hkl : k = acc.length := by
        have := (List.getElem?_eq_some_iff.1 hk).1
        rw [List.length_append] at this
        simp at this
        omega
      subst hkl
      rw [List.getElem?_append_right (Nat.le_refl _), Nat.sub_self] at hk
      obtain rfl : x = y := by simpa using hk
      exact ⟨gb, o, cap, by rw [List.getElem?_append_right (by rw [h.len]; exact Nat.le_refl _), h.len, Nat.sub_self]; rfl, hx, Nat.lt_of_lt_of_le hgb hgr.size, fun hp => hgf (hP gb hgb hp), fun j y hj => (World.cell?_of_block (w := W) (a := ⟨gb, o + j, none⟩) (hE gb hgb hgf)).trans (hc j y hj)⟩
end R16
/-- What the reference's Send answers. -/
def Send16Post (w : World) (B : Nat) (F : Nat → Prop) (R : NS × Mm × List (List UInt8)) (e : Ending) (w' : World) : Prop :=
  ∃ v' fv vs, e = .returned (.tuple #[.agg R.1.c, v', fv]) ∧ RefF w' B v' R.2.1 F ∧ Below w.heap.size w w' ∧ w'.ownsRow w.heap.size 62 1 fv vs.length vs ∧ R.2.2.length = vs.length ∧ Fr w' vs R.2.2 (fun k => k < w.heap.size)
theorem R16.fin {w0 W W' : World} {B : Nat} {F : Nat → Prop} {s : NS} {rc : Array Value} {m : Mm} {fv : Value} {vs : List Value} {acc : List (List UInt8)} (h : R16 w0 W B F s rc m fv vs acc) (kx : KX (fun k => k = w0.heap.size + 1 + 1 ∨ k = w0.heap.size + 1 + 1 + 1) W W') :
    Send16Post w0 B F (s, m, acc) (.returned (.tuple #[.agg s.c, .agg rc, fv])) W' :=
  ⟨_, _, vs, rfl, (h.ref.kx kx (fun k e => .inl (.inr (.inl (by omega))))).weak (fun k hk => .inl hk), h.low.trans (kx.below (B := w0.heap.size) (fun k hk e => by omega) h.low.size), (ownsRow_keep h.ow (fun q hq => kx.block q (ownsRow_lt h.ow hq).2 (fun e => by have := (ownsRow_lt h.ow hq).1; omega))).mono (by omega), h.len,
    h.fr.keep kx.size (fun k hk hp => kx.block k hk (fun e => hp (.inl (by omega)))) (fun k _ hf => .inl (by omega))⟩
theorem live_fail (s : VS) : ¬ s.fail.live := fun h => by
  have h6 : Nat.testBit ((s.st ||| 64) &&& 76) 6 = Nat.testBit 12 6 := by rw [show (s.st ||| 64) &&& 76 = 12 from h]
  rw [Nat.testBit_and, Nat.testBit_or, show Nat.testBit 64 6 = true by decide, show Nat.testBit 76 6 = true by decide, show Nat.testBit 12 6 = false by decide, Bool.or_true, Bool.and_true] at h6
  cases h6
end Go.Proofs.YtcmbnkmbaghkdaaDoor
