/-
What the laws share: memory asked with literal arguments; memory beside a law's own blocks; bytes as a string.
No condition.
-/
import Derived.Test.YtcakcfeipfjmpaaDoorMemNew
import Derived.Test.YtcakcfeipfjmpaaDoorMemErr
import Derived.Test.YtcakcfeipfjmpaaDoorMemStore
import Derived.Test.YtcakcfeipfjmpaaDoorMemRead
import Derived.Test.YtcakcfeipfjmpaaDoorMemWrite
import Derived.Lib.ConvBytes
namespace Go.Proofs.YtcakcfeipfjmpaaDoor
open Go.RowKit

theorem BytesAt.of_owns {w : World} {base n : Nat} {v : Value} {l : List UInt8} {F : Nat → Prop} (h : w.ownsRow base 5 1 v n (l.map B8)) (hf : ∀ b, v.ownBlock = some b → ¬ F b) : ∃ ao c, v = .slice ao n c ∧ n ≤ c ∧ l.length = n ∧ BytesAt w ao l F := by
  have hl : l.length = n := by have := h.1; rw [List.length_map, Nat.mul_one] at this; exact this
  rcases h.2 with ⟨rfl, rfl⟩ | ⟨g, cap, cur, rfl, hg, hh, hc, _⟩
  · exact ⟨none, 0, rfl, Nat.le_refl _, hl, fun hne => absurd (List.eq_nil_of_length_eq_zero hl) hne⟩
  · refine ⟨some ⟨g, 0, none⟩, cap, rfl, hc, hl, fun _ => ⟨g, 0, rfl, lt_heap hh, hf g rfl, fun j x hj => ?_⟩⟩
    have hj' : j < n := by rw [← hl]; exact (List.getElem?_eq_some_iff.1 hj).1
    rw [Nat.zero_add, h.cellAt j (by omega), List.getElem?_map, hj]
    rfl
theorem store_at {g : Nat} {m : Mm} {F : Nat → Prop} {w : World} (h : RamIs w g m F) (a k v : Nat) (ai ki vi : Int) (ea : ai = a) (ek : ki = k) (ev : vi = v) (ha : a < 4294967296) (hk : okN k) (hs : a + k ≤ 4096 * m.n) (hr : a % k = 0) :
    Calls Tryd.prog 21 #[.pointer (some ⟨g, 0, none⟩), .int .u32 ai, .int .i64 ki, .int .u32 vi] w fun e w' => ∃ F', e = .returned .nilIface ∧ RamIs w' g (m.store a k v) F' ∧ MemStep F F' w w' := by
  subst ea ek ev
  exact mem_Store_ok h a k v ha hk hs hr
theorem new_at (n : Nat) (ni : Int) (en : ni = n) (w : World) (n1 : 1 ≤ n) (n2 : n ≤ 16384) :
    Calls Tryd.prog 35 #[.int .i64 ni] w fun e w' => ∃ g F', e = .returned (.tuple #[.pointer (some ⟨g, 0, none⟩), .nilIface]) ∧ RamIs w' g (Mm.new n) F' ∧ (∀ k, F' k → w.heap.size ≤ k) ∧ Below w.heap.size w w' := by
  subst en
  exact mem_New_ok n w n1 n2
/-- The memory of a law: what it leaves of the world that the law began in. -/
structure LawMem (w0 : World) (W : World) (g : Nat) (m : Mm) (F : Nat → Prop) : Prop where
  ram : RamIs W g m F
  lo : ∀ k, F k → w0.heap.size ≤ k
  fr : Below w0.heap.size w0 W
theorem LawMem.step {w0 W W' : World} {g : Nat} {m m' : Mm} {F F' : Nat → Prop} (h : LawMem w0 W g m F) (hr : RamIs W' g m' F') (hs : MemStep F F' W W') : LawMem w0 W' g m' F' :=
  ⟨hr, fun k hk => (hs.gr k hk).elim (h.lo k) (fun hl => Nat.le_trans h.fr.size hl), h.fr.trans (hs.toBelow (fun k' hk hf => absurd (h.lo k' hf) (Nat.not_le_of_lt hk)) h.fr.size)⟩
theorem LawMem.below {w0 W W' : World} {g : Nat} {m : Mm} {F : Nat → Prop} (h : LawMem w0 W g m F) (hb : Below W.heap.size W W') : LawMem w0 W' g m F :=
  ⟨h.ram.below hb, h.lo, h.fr.trans (hb.mono h.fr.size)⟩
theorem LawMem.own {w0 W W' : World} {g : Nat} {m : Mm} {F : Nat → Prop} {b : Nat} (h : LawMem w0 W g m F) (hk : KX (fun k => k = b) W W') (hb : w0.heap.size ≤ b) (hf : ¬ F b) : LawMem w0 W' g m F :=
  ⟨h.ram.kx hk (fun _ _ hfk e => hf (e ▸ hfk)), h.lo, h.fr.trans (hk.below (fun _ hl e => absurd (e ▸ hl) (Nat.not_lt_of_le hb)) h.fr.size)⟩
theorem str_of_bytes {w : World} {ao : Option Addr} {l : List UInt8} {cap : Nat} {F : Nat → Prop} (h : BytesAt w ao l F) : (convert 27 9 (.slice ao l.length cap)).run Tryd.prog w = .ok (.string ⟨l.toArray⟩) w := by
  cases ao with
  | some a =>
    refine run_convert_bytes_back (P := Tryd.prog) w 27 9 5 a cap l Tryd.underlying27 Tryd.underlying5 Tryd.underlying9 (fun j hj => ?_)
    obtain ⟨b, o, ha, _, _, hc⟩ := h (fun e => by subst e; simp at hj)
    obtain rfl : a = ⟨b, o, none⟩ := Option.some.inj ha
    rw [Addr.add_lit]
    exact hc j _ (List.getElem?_eq_getElem hj)
  | none =>
    have hl : l = [] := by
      apply Classical.byContradiction
      intro hne
      obtain ⟨b, o, ha, _⟩ := h hne
      cases ha
    subst hl
    rw [run_convert_bytes_string w 27 9 5 none _ cap Tryd.underlying27 Tryd.underlying5 Tryd.underlying9]
    rfl
set_option maxRecDepth 100000 in
theorem err_nil_eql (w : World) : (binOp BinOp.eql 39 .nilIface .nilIface).run Tryd.prog w = .ok (.bool true) w := by
  have h1 : (Op.equalIn (9999 + 1) 39 .nilIface .nilIface).run Tryd.prog w = .ok true w := by
    generalize 9999 = d
    simp [Op.equalIn, go_sem]
  have h2 : (Op.equalIn Op.maxDepth 39 .nilIface .nilIface).run Tryd.prog w = .ok true w := h1
  simp [binOp, Op.equal, go_sem, h2]
theorem MemStep.of_below {F : Nat → Prop} {w w' : World} (hb : Below w.heap.size w w') : MemStep F F w w' := ⟨KX.of_below hb, fun _ h => .inl h⟩
theorem keepB {a b : World} {g : Nat} {x : Obj} (h : a.heap[g]? = some x) (hb : Below a.heap.size a b) : b.heap[g]? = some x := (hb.block _ (lt_heap h)).trans h
theorem two_new (w : World) (A B : Obj) : ((w.alloc A).alloc B).heap[w.heap.size]? = some A ∧ ((w.alloc A).alloc B).heap[w.heap.size + 1]? = some B ∧ Below w.heap.size w ((w.alloc A).alloc B) :=
  ⟨heap_alloc2_old _ _ _, heap_alloc2_new _ _ _, ((Below.refl _ _).alloc (Nat.le_refl _) _).alloc (by simp) _⟩
theorem MemStep.own {F F' : Nat → Prop} {a w w' : World} {b : Nat} (h : MemStep F F' a w) (hk : KX (fun k => k = b) w w') (hb : a.heap.size ≤ b) : MemStep F F' a w' :=
  ⟨⟨hk.os.trans h.kx.os, hk.tape.trans h.kx.tape, hk.output.trans h.kx.output, Nat.le_trans h.kx.size hk.size, fun k hl hn => (hk.block k (Nat.lt_of_lt_of_le hl h.kx.size) (by omega)).trans (h.kx.block k hl hn)⟩, h.gr⟩
end Go.Proofs.YtcakcfeipfjmpaaDoor
