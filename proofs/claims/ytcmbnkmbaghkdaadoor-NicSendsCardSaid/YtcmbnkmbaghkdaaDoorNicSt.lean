/-
What nic's Send holds from round to round, in plain Lean: its box, its frames, its memory; what it answers.
No condition.
-/
import Derived.Test.YtcmbnkmbaghkdaaDoorNicAll
import Derived.Test.YtcmbnkmbaghkdaaDoorWalkSum
namespace Go.Proofs.YtcmbnkmbaghkdaaDoor
open Go.RowKit
set_option linter.unusedVariables false

/-- Frames that lie in memory, by their slices. -/
def Fr (W : World) (vs : List Value) (acc : List (List UInt8)) (P : Nat → Prop) : Prop := ∀ (k : Nat) (x : List UInt8), acc[k]? = some x → ∃ (b o cap : Nat), vs[k]? = some (Value.slice (some ⟨b, o, none⟩) x.length cap) ∧ x.length ≤ cap ∧ b < W.heap.size ∧ ¬ P b ∧ ∀ (j : Nat) (y : UInt8), x[j]? = some y → W.cell? ⟨b, o + j, none⟩ = some (B8 y)
theorem Fr.keep {W W' : World} {vs : List Value} {acc : List (List UInt8)} {P P' : Nat → Prop} (h : Fr W vs acc P) (hs : W.heap.size ≤ W'.heap.size) (he : ∀ k, k < W.heap.size → ¬ P k → W'.heap[k]? = W.heap[k]?) (hp : ∀ k, k < W.heap.size → P' k → P k) : Fr W' vs acc P' := fun k x hk => by
  obtain ⟨b, o, cap, h1, h2, h3, h4, h5⟩ := h k x hk
  exact ⟨b, o, cap, h1, h2, Nat.lt_of_lt_of_le h3 hs, fun hq => h4 (hp b h3 hq), fun j y hj => (World.cell?_of_block (w := W) (a := ⟨b, o + j, none⟩) (he b h3 h4)).trans (h5 j y hj)⟩
structure SendSt (w0 W : World) (g b0 : Nat) (m : Mm) (F F' : Nat → Prop) (s : NS) (fv : Value) (vs : List Value) (acc : List (List UInt8)) : Prop where
  ram : RamIs W g m F'
  st : MemStep F F' w0 W
  row : W.heap[b0]? = some (.cells s.c 75 (0, 0))
  zrow : W.heap[b0 + 1]? = some (.cells NS.zero.c 75 (0, 0))
  nb : ¬ F' b0 ∧ ¬ F' (b0 + 1)
  ow : W.ownsRow w0.heap.size 62 1 fv vs.length vs
  nf : ∀ b, fv.ownBlock = some b → ¬ F' b ∧ b ≠ b0 ∧ b ≠ b0 + 1
  len : acc.length = vs.length
  fr : Fr W vs acc (fun k => F' k ∨ k = b0 ∨ k = b0 + 1 ∨ fv.ownBlock = some k)
  lo : w0.heap.size ≤ b0
namespace SendSt
variable {w0 W W' : World} {g b0 : Nat} {m m' : Mm} {F F1 F2 : Nat → Prop} {s s' : NS} {fv fv' : Value} {vs : List Value} {acc : List (List UInt8)}
theorem below (h : SendSt w0 W g b0 m F F1 s fv vs acc) (hb : Below W.heap.size W W') : SendSt w0 W' g b0 m F F1 s fv vs acc :=
  ⟨h.ram.below hb, h.st.below hb, keepB h.row hb, keepB h.zrow hb, h.nb, ownsRow_keep h.ow (fun q hq => hb.block q (ownsRow_lt h.ow hq).2), h.nf, h.len, h.fr.keep hb.size (fun k hk _ => hb.block k hk) (fun _ _ hp => hp), h.lo⟩
theorem mem (h : SendSt w0 W g b0 m F F1 s fv vs acc) (h1 : RamIs W' g m' F2) (h2 : MemStep F1 F2 W W') : SendSt w0 W' g b0 m' F F2 s fv vs acc where
  ram := h1
  st := h.st.trans h2
  row := h2.heap h.row h.nb.1
  zrow := h2.heap h.zrow h.nb.2
  nb := ⟨h2.off (lt_heap h.row) h.nb.1, h2.off (lt_heap h.zrow) h.nb.2⟩
  ow := ownsRow_keep h.ow (fun q hq => h2.kx.block q (ownsRow_lt h.ow hq).2 (h.nf q hq).1)
  nf := fun b hb => ⟨h2.off (ownsRow_lt h.ow hb).2 (h.nf b hb).1, (h.nf b hb).2⟩
  len := h.len
  fr := h.fr.keep h2.kx.size (fun k hk hp => h2.kx.block k hk (fun hf => hp (.inl hf))) (fun k hk hp => by
    rcases hp with hf | hp
    · by_cases h3 : F1 k
      · exact .inl h3
      · exact absurd hf (h2.off hk h3)
    · exact .inr hp)
  lo := h.lo
theorem give (h : SendSt w0 W g b0 m F F1 s fv vs acc) (h1 : RamIs W' g m' F2) (gr : ∀ k, F2 k → F1 k ∨ W.heap.size ≤ k) (kx : KX (fun k => F1 k ∨ k = b0) W W') (hk : W'.heap[b0]? = some (.cells s'.c 75 (0, 0))) : SendSt w0 W' g b0 m' F F2 s' fv vs acc where
  ram := h1
  st := ⟨h.st.kx.trans (kx.mono (Y := fun k => F1 k ∨ k = b0) (fun k _ hp => hp)) (fun k hk hp => by
      rcases hp with hf | e
      · rcases h.st.gr k hf with h3 | h3
        · exact h3
        · exact absurd hk (Nat.not_lt_of_le h3)
      · exact absurd hk (by have := h.lo; omega)), fun k hf => by
      rcases gr k hf with h3 | h3
      · exact h.st.gr k h3
      · exact .inr (Nat.le_trans h.st.kx.size h3)⟩
  row := hk
  zrow := (kx.block _ (lt_heap h.zrow) (fun hp => hp.elim h.nb.2 (fun e => by omega))).trans h.zrow
  nb := ⟨fun hf => (gr _ hf).elim h.nb.1 (fun hl => absurd (lt_heap h.row) (Nat.not_lt_of_le hl)), fun hf => (gr _ hf).elim h.nb.2 (fun hl => absurd (lt_heap h.zrow) (Nat.not_lt_of_le hl))⟩
  ow := ownsRow_keep h.ow (fun q hq => kx.block q (ownsRow_lt h.ow hq).2 (fun hp => hp.elim (h.nf q hq).1 (h.nf q hq).2.1))
  nf := fun b hb => ⟨fun hf => (gr _ hf).elim (h.nf b hb).1 (fun hl => absurd (ownsRow_lt h.ow hb).2 (Nat.not_lt_of_le hl)), (h.nf b hb).2⟩
  len := h.len
  fr := h.fr.keep kx.size (fun k hk hp => kx.block k hk (fun hq => hp (hq.elim .inl (fun e => .inr (.inl e))))) (fun k hk hp => by
    rcases hp with hf | hp
    · rcases gr k hf with h3 | h3
      · exact .inl h3
      · exact absurd hk (Nat.not_lt_of_le h3)
    · exact .inr hp)
  lo := h.lo
theorem put (h : SendSt w0 W g b0 m F F1 s fv vs acc) (kx : KX (fun k => k = b0) W W') (hk : W'.heap[b0]? = some (.cells s'.c 75 (0, 0))) : SendSt w0 W' g b0 m F F1 s' fv vs acc :=
  h.give (h.ram.kx kx (fun k _ hf e => h.nb.1 (e ▸ hf))) (fun k hf => .inl hf) (kx.mono (fun k _ e => .inr e)) hk
theorem app (h : SendSt w0 W g b0 m F F1 s fv vs acc) {gb o cap : Nat} {x : List UInt8} (hx : x.length ≤ cap) (hgb : gb < W.heap.size) (hgf : ¬ (F1 gb ∨ gb = b0 ∨ gb = b0 + 1 ∨ fv.ownBlock = some gb)) (hc : ∀ (j : Nat) (y : UInt8), x[j]? = some y → W.cell? ⟨gb, o + j, none⟩ = some (B8 y))
    (hown : W'.ownsRow w0.heap.size 62 1 fv' (vs.length + 1) (vs ++ [Value.slice (some ⟨gb, o, none⟩) x.length cap])) (hgr : W.grownBy W' fv.ownBlock) (hvb : fv'.ownBlock = fv.ownBlock ∨ fv'.ownBlock = some W.heap.size) :
    SendSt w0 W' g b0 m F F1 s fv' (vs ++ [Value.slice (some ⟨gb, o, none⟩) x.length cap]) (acc ++ [x]) where
  ram := h.ram.grown hgr (fun b hb => (h.nf b hb).1)
  st := h.st.grown hgr (fun b hb => (ownsRow_lt h.ow hb).1)
  row := (hgr.block _ (lt_heap h.row) (fun e => (h.nf b0 e.symm).2.1 rfl)).trans h.row
  zrow := (hgr.block _ (lt_heap h.zrow) (fun e => (h.nf (b0 + 1) e.symm).2.2 rfl)).trans h.zrow
  nb := h.nb
  ow := by rw [List.length_append]; exact hown
  nf := fun b hb => by
    rcases hvb with e | e
    · exact h.nf b (by rw [← e]; exact hb)
    · obtain rfl : b = W.heap.size := Option.some.inj (hb.symm.trans e)
      exact ⟨fun hf => absurd (h.ram.lt _ hf) (Nat.lt_irrefl _), by have := lt_heap h.row; omega, by have := lt_heap h.zrow; omega⟩
  len := by rw [List.length_append, List.length_append, h.len]; rfl
  fr := by
    have hP : ∀ k, k < W.heap.size → (F1 k ∨ k = b0 ∨ k = b0 + 1 ∨ fv'.ownBlock = some k) → (F1 k ∨ k = b0 ∨ k = b0 + 1 ∨ fv.ownBlock = some k) := fun k hk hp => by
      rcases hp with hp | hp | hp | hp
      · exact .inl hp
      · exact .inr (.inl hp)
      · exact .inr (.inr (.inl hp))
      · rcases hvb with e | e
        · exact .inr (.inr (.inr (by rw [← e]; exact hp)))
        · exact absurd hk (by have : k = W.heap.size := Option.some.inj (hp.symm.trans e); omega)
    have hE : ∀ k, k < W.heap.size → ¬ (F1 k ∨ k = b0 ∨ k = b0 + 1 ∨ fv.ownBlock = some k) → W'.heap[k]? = W.heap[k]? := fun k hk hp => hgr.block k hk (fun e => hp (.inr (.inr (.inr e.symm))))
    intro k y hk
    by_cases hlt : k < acc.length
    · rw [List.getElem?_append_left hlt] at hk
      obtain ⟨b, q, c, h1, h2⟩ := h.fr.keep hgr.size hE hP k y hk
      exact ⟨b, q, c, by rw [List.getElem?_append_left (by rw [← h.len]; exact hlt)]; exact h1, h2⟩
    · have hkl : k = acc.length := by
        have := (List.getElem?_eq_some_iff.1 hk).1
        rw [List.length_append] at this
        simp at this
        omega
      subst hkl
      rw [List.getElem?_append_right (Nat.le_refl _), Nat.sub_self] at hk
      obtain rfl : x = y := by simpa using hk
      exact ⟨gb, o, cap, by rw [List.getElem?_append_right (by rw [h.len]; exact Nat.le_refl _), h.len, Nat.sub_self]; rfl, hx, Nat.lt_of_lt_of_le hgb hgr.size, fun hp => hgf (hP gb hgb hp), fun j y hj => (World.cell?_of_block (w := W) (a := ⟨gb, o + j, none⟩) (hE gb hgb hgf)).trans (hc j y hj)⟩
  lo := h.lo
end SendSt
/-- Send, round by round. -/
def sendF : Nat → NS → Mm → List (List UInt8) → NS × Mm × List (List UInt8)
  | 0, s, m, acc => (s, m, acc)
  | k + 1, s, m, acc =>
    match rnext s.p.b.rg m with
    | none => ({ s with p := s.p.fail }, m, acc)
    | some none => ({ s with bell := false }, m, acc)
    | some (some hd) =>
      match rwalk s.p.b.de s.p.b.size.toNat m hd with
      | none => ({ s with p := s.p.fail }, m, acc)
      | some l => if (gath m l).length ≤ 12 ∨ 1526 < (gath m l).length then ({ s with p := s.p.fail }, m, acc) else
        let s1 := s.setR true s.p.b.rg.took
        let r := rgive s1.p.b.rg m hd 0
        if r.1 then sendF k (s1.gave true true) r.2 (acc ++ [(gath m l).drop 12]) else (s1.gave true false, r.2, acc ++ [(gath m l).drop 12])
def nsend (s : NS) (m : Mm) : NS × Mm × List (List UInt8) := if s.bell = true ∧ s.works true then sendF 4 s m [] else (s, m, [])
end Go.Proofs.YtcmbnkmbaghkdaaDoor
namespace Go.Proofs.YtcmbnkmbaghkdaaDoor
open Go.RowKit
set_option linter.unusedVariables false
theorem SendSt.fin {w0 W W' : World} {g b0 : Nat} {m : Mm} {F F1 : Nat → Prop} {s : NS} {fv : Value} {vs : List Value} {acc : List (List UInt8)} (h : SendSt w0 W g b0 m F F1 s fv vs acc) (kx : KX (fun k => k = b0 + 1) W W') :
    RamIs W' g m F1 ∧ MemStep F F1 w0 W' ∧ W'.ownsRow w0.heap.size 62 1 fv vs.length vs ∧ acc.length = vs.length ∧ (∀ b, fv.ownBlock = some b → ¬ F1 b) ∧ Fr W' vs acc F1 :=
  ⟨h.ram.kx kx (fun k _ hf e => h.nb.2 (e ▸ hf)), h.st.own kx (by have := h.lo; omega), ownsRow_keep h.ow (fun q hq => kx.block q (ownsRow_lt h.ow hq).2 (h.nf q hq).2.2), h.len, fun b hb => (h.nf b hb).1,
    h.fr.keep kx.size (fun k hk hp => kx.block k hk (fun e => hp (.inr (.inr (.inl e))))) (fun k hk hf => .inl hf)⟩
def SendPost (w : World) (g : Nat) (F : Nat → Prop) (R : NS × Mm × List (List UInt8)) (e : Ending) (w' : World) : Prop :=
  ∃ fv vs F2, e = .returned (.tuple #[.agg R.1.c, fv]) ∧ RamIs w' g R.2.1 F2 ∧ MemStep F F2 w w' ∧ w'.ownsRow w.heap.size 62 1 fv vs.length vs ∧ R.2.2.length = vs.length ∧ (∀ b, fv.ownBlock = some b → ¬ F2 b) ∧ Fr w' vs R.2.2 F2
theorem or_lt32' {a b : Nat} (h : a < 4294967296) (h2 : b < 4294967296) : a ||| b < 4294967296 := Nat.or_lt_two_pow (n := 32) h h2
theorem VS.fail_wf {s : VS} (h : s.wf) : s.fail.wf := ⟨or_lt32' h.hst (by omega), h.hfs, h.hds, h.hse, or_lt32' h.hirq (by omega), h.hd0, h.hd1, h.ha, h.hb⟩
theorem VS.used_wf {s : VS} (h : s.wf) : s.used.wf := ⟨h.hst, h.hfs, h.hds, h.hse, or_lt32' h.hirq (by omega), h.hd0, h.hd1, h.ha, h.hb⟩
theorem NS.setR_wf {s : NS} {one : Bool} {r : Rg} (h : s.p.wf) (hr : r.wf) : (s.setR one r).p.wf := by
  cases one
  · exact ⟨h.hst, h.hfs, h.hds, h.hse, h.hirq, h.hd0, h.hd1, ⟨hr.lo, hr.hi, hr.hde, hr.hav, hr.hus, hr.hla, hr.hpu⟩, h.hb⟩
  · exact ⟨h.hst, h.hfs, h.hds, h.hse, h.hirq, h.hd0, h.hd1, h.ha, ⟨hr.lo, hr.hi, hr.hde, hr.hav, hr.hus, hr.hla, hr.hpu⟩⟩
theorem Rg.took_wf {q : Rg} (h : q.wf) : q.took.wf := ⟨h.lo, h.hi, h.hde, h.hav, h.hus, Nat.mod_lt _ (by omega), h.hpu⟩
theorem Rg.gave_wf {q : Rg} (h : q.wf) : q.gave.wf := ⟨h.lo, h.hi, h.hde, h.hav, h.hus, h.hla, Nat.mod_lt _ (by omega)⟩
theorem NS.q_wf {s : NS} {one : Bool} (h : s.p.wf) : (s.q one).wf := by cases one; exact h.ha; exact h.hb
theorem NS.gave_wf {s : NS} {one ok : Bool} (h : s.p.wf) : (s.gave one ok).p.wf := by
  cases ok
  · exact VS.fail_wf h
  · exact VS.used_wf (NS.setR_wf h (Rg.gave_wf (VQ.rg_wf (NS.q_wf h))))
end Go.Proofs.YtcmbnkmbaghkdaaDoor
