/-
bus.Push, walked.
Condition: the package's table of regions reads as its text lays it.
-/
import Derived.Test.YtcmbnkmbaghkdaaDoorBusQ
import Derived.Test.YtcmbnkmbaghkdaaDoorG2
import Derived.ArgAppend
import Derived.Deep.RegionHeld3
namespace Go.Proofs.YtcmbnkmbaghkdaaDoor
open Go.RowKit

theorem keep1 {w : World} {g : Nat} {x o : Obj} (h : w.heap[g]? = some x) : (w.alloc o).heap[g]? = some x :=
  (heap_alloc_old w o (Array.getElem?_eq_some_iff.1 h).1).trans h
theorem three_blocks (w : World) (A B C : Obj) : (((w.alloc A).alloc B).alloc C).heap[w.heap.size]? = some A ∧ (((w.alloc A).alloc B).alloc C).heap[w.heap.size + 1]? = some B ∧ (((w.alloc A).alloc B).alloc C).heap[w.heap.size + 1 + 1]? = some C ∧
    Below w.heap.size w (((w.alloc A).alloc B).alloc C) := by
  refine ⟨keep1 (heap_alloc2_old _ _ _), keep1 (heap_alloc2_new _ _ _), ?_, (((Below.refl _ _).alloc (Nat.le_refl _) _).alloc (by simp) _).alloc (by simp; omega) _⟩
  have := heap_alloc_new ((w.alloc A).alloc B) C
  simpa using this

set_option maxRecDepth 100000 in
set_option maxHeartbeats 1000000 in
theorem push_bad1 (ao : Option Addr) (l : List Pst) (cap : Nat) (p : Pst) (w : World) (hp : PostsAt w ao l) (hl : l.length < 4611686018427387904) (hr : RegAt w) (hq : ¬ queueOk l) :
    Calls Tryd.prog 9 #[.agg #[.slice ao l.length cap], p.v] w fun e w' => e = .returned (.tuple #[.agg #[.slice none 0 0], .iface 104 (.int .i64 1)]) ∧ Below w.heap.size w w' := by
  have HW0 := three_blocks w (.cells #[.slice ao l.length cap] 31) (.cells #[.int .i64 p.dev, .int .u32 p.at_, .int .i64 p.n, .int .u32 p.val] 37) (.cells #[.slice none 0 0] 31)
  obtain ⟨k0, k1, k2, hb0⟩ := HW0
  have HC := Lib.hid (bus_Check ao l cap _ (hp.below hb0) hl (hr.below hb0))
  rw [if_neg hq] at HC
  simp only [errV] at HC
  have HB := Lib.hid hb0
  have HK0 := Lib.hid k0
  have HK1 := Lib.hid k1
  have HK2 := Lib.hid k2
  clear hb0 k0 k1 k2 hr hl
  unfold Pst.v Pst.c
  clear hp hq
  generalize l.length = n at HC HB HK0 HK1 HK2 ⊢
  go_enter Tryd.func9, Tryd.ntmps9
  go_wp2_with fail
  refine (HC.out).mono ?_
  rintro e w1 ⟨rfl, hb⟩
  have f2 := frozen_of_row _ _ 0 _ _ (keepB HK2.out hb)
  have c2 := (cell_of_row _ _ 0 _ _ _ (keepB HK2.out hb)).trans (rfl : _ = some (Value.slice none 0 0))
  have RB1 := Lib.hid (HB.out.trans (hb.mono HB.out.size))
  have HZ := keepB HK2.out hb
  clear hb
  go_wp2_with fail
  exact bodyPost_ret (v := .tuple #[.agg #[.slice none 0 0], .iface 104 (.int .i64 1)]) (results_cell_tmp Tryd.results9 _ _ (w.heap.size + 1 + 1) 31 #[.slice none 0 0] (0, 0) _ rfl (heap_setCell_same _ _ _ _ _ _ HZ) Tryd.underlying31 rfl (by kernel_rfl)) rfl ⟨rfl, RB1.out.setCell (p := ⟨w.heap.size + 1 + 1, 0, none⟩) (by show w.heap.size ≤ w.heap.size + 1 + 1; omega) _⟩
set_option maxRecDepth 100000 in
set_option maxHeartbeats 1000000 in
theorem push_bad2 (ao : Option Addr) (l : List Pst) (cap : Nat) (p : Pst) (w : World) (hp : PostsAt w ao l) (hl : l.length < 4611686018427387904) (hr : RegAt w) (hq : queueOk l) (hm : ¬ p.may) :
    Calls Tryd.prog 9 #[.agg #[.slice ao l.length cap], p.v] w fun e w' => e = .returned (.tuple #[.agg #[.slice none 0 0], .iface 104 (.int .i64 1)]) ∧ Below w.heap.size w w' := by
  have HW0 := three_blocks w (.cells #[.slice ao l.length cap] 31) (.cells #[.int .i64 p.dev, .int .u32 p.at_, .int .i64 p.n, .int .u32 p.val] 37) (.cells #[.slice none 0 0] 31)
  obtain ⟨k0, k1, k2, hb0⟩ := HW0
  have HC := Lib.hid (bus_Check ao l cap _ (hp.below hb0) hl (hr.below hb0))
  rw [if_pos hq] at HC
  simp only [errV, if_pos] at HC
  have HM := Lib.hid (fun W hW => post_may p W hW)
  rw [decide_eq_false hm] at HM
  unfold Pst.v Pst.c at HM
  have HR := Lib.hid (hr.below hb0)
  have HB := Lib.hid hb0
  have HK0 := Lib.hid k0
  have HK1 := Lib.hid k1
  have HK2 := Lib.hid k2
  clear hb0 k0 k1 k2 hr hl
  unfold Pst.v Pst.c
  clear hp hq hm
  generalize l.length = n at HC HB HK0 HK1 HK2 HR ⊢
  go_enter Tryd.func9, Tryd.ntmps9
  go_wp2_with fail
  refine (HC.out).mono ?_
  rintro e w1 ⟨rfl, hb⟩
  have K1 := Lib.hid (keepB HK1.out hb)
  have K2 := Lib.hid (keepB HK2.out hb)
  have R1 := Lib.hid (HR.out.below hb)
  have RB1 := Lib.hid (HB.out.trans (hb.mono HB.out.size))
  clear hb
  have e0 : w1.cell? ⟨w.heap.size + 1, 0, none⟩ = some (.int .i64 p.dev) := (cell_of_row _ _ 0 _ _ _ K1.out).trans rfl
  have e1 : w1.cell? ⟨w.heap.size + 1, 1, none⟩ = some (.int .u32 p.at_) := (cell_of_row _ _ 1 _ _ _ K1.out).trans rfl
  have e2 : w1.cell? ⟨w.heap.size + 1, 2, none⟩ = some (.int .i64 p.n) := (cell_of_row _ _ 2 _ _ _ K1.out).trans rfl
  have e3 : w1.cell? ⟨w.heap.size + 1, 3, none⟩ = some (.int .u32 p.val) := (cell_of_row _ _ 3 _ _ _ K1.out).trans rfl
  go_wp2_with fail
  refine (HM.out _ R1.out).mono ?_
  rintro e w2 ⟨rfl, hb⟩
  have f2 := frozen_of_row _ _ 0 _ _ (keepB K2.out hb)
  have c2 := (cell_of_row _ _ 0 _ _ _ (keepB K2.out hb)).trans (rfl : _ = some (Value.slice none 0 0))
  have RB2 := Lib.hid (RB1.out.trans (hb.mono RB1.out.size))
  have HZ := keepB K2.out hb
  clear hb
  go_wp2_with fail
  exact bodyPost_ret (v := .tuple #[.agg #[.slice none 0 0], .iface 104 (.int .i64 1)]) (results_cell_tmp Tryd.results9 _ _ (w.heap.size + 1 + 1) 31 #[.slice none 0 0] (0, 0) _ rfl (heap_setCell_same _ _ _ _ _ _ HZ) Tryd.underlying31 rfl (by kernel_rfl)) rfl ⟨rfl, RB2.out.setCell (p := ⟨w.heap.size + 1 + 1, 0, none⟩) (by show w.heap.size ≤ w.heap.size + 1 + 1; omega) _⟩
set_option maxRecDepth 100000 in
set_option maxHeartbeats 4000000 in
theorem push_full (ao : Option Addr) (l : List Pst) (cap : Nat) (p : Pst) (w : World) (hp : PostsAt w ao l) (hl : l.length < 4611686018427387904) (hr : RegAt w) (hq : queueOk l) (hm : p.may) (h8 : l.length = 8) :
    Calls Tryd.prog 9 #[.agg #[.slice ao l.length cap], p.v] w fun e w' => e = .returned (.tuple #[.agg #[.slice none 0 0], .iface 104 (.int .i64 10)]) ∧ Below w.heap.size w w' := by
  have HW0 := three_blocks w (.cells #[.slice ao l.length cap] 31) (.cells #[.int .i64 p.dev, .int .u32 p.at_, .int .i64 p.n, .int .u32 p.val] 37) (.cells #[.slice none 0 0] 31)
  obtain ⟨k0, k1, k2, hb0⟩ := HW0
  have HC := Lib.hid (bus_Check ao l cap _ (hp.below hb0) hl (hr.below hb0))
  rw [if_pos hq] at HC
  simp only [errV, if_pos] at HC
  have HM := Lib.hid (fun W hW => post_may p W hW)
  rw [decide_eq_true hm] at HM
  unfold Pst.v Pst.c at HM
  have HR := Lib.hid (hr.below hb0)
  have HB := Lib.hid hb0
  have HK0 := Lib.hid k0
  have HK1 := Lib.hid k1
  have HK2 := Lib.hid k2
  clear hb0 k0 k1 k2 hr hl
  unfold Pst.v Pst.c
  clear hp hq hm
  rw [h8] at HC HB HK0 HK1 HK2 HR ⊢
  clear h8
  go_enter Tryd.func9, Tryd.ntmps9
  go_wp2_with fail
  refine (HC.out).mono ?_
  rintro e w1 ⟨rfl, hb⟩
  have K0 := Lib.hid (keepB HK0.out hb)
  have K1 := Lib.hid (keepB HK1.out hb)
  have K2 := Lib.hid (keepB HK2.out hb)
  have R1 := Lib.hid (HR.out.below hb)
  have RB1 := Lib.hid (HB.out.trans (hb.mono HB.out.size))
  clear hb
  have e0 : w1.cell? ⟨w.heap.size + 1, 0, none⟩ = some (.int .i64 p.dev) := (cell_of_row _ _ 0 _ _ _ K1.out).trans rfl
  have e1 : w1.cell? ⟨w.heap.size + 1, 1, none⟩ = some (.int .u32 p.at_) := (cell_of_row _ _ 1 _ _ _ K1.out).trans rfl
  have e2 : w1.cell? ⟨w.heap.size + 1, 2, none⟩ = some (.int .i64 p.n) := (cell_of_row _ _ 2 _ _ _ K1.out).trans rfl
  have e3 : w1.cell? ⟨w.heap.size + 1, 3, none⟩ = some (.int .u32 p.val) := (cell_of_row _ _ 3 _ _ _ K1.out).trans rfl
  go_wp2_with fail
  refine (HM.out _ R1.out).mono ?_
  rintro e w2 ⟨rfl, hb⟩
  have K02 := Lib.hid (keepB K0.out hb)
  have K12 := Lib.hid (keepB K1.out hb)
  have K22 := Lib.hid (keepB K2.out hb)
  have RB2 := Lib.hid (RB1.out.trans (hb.mono RB1.out.size))
  clear hb e0 e1 e2 e3
  have f2 := frozen_of_row _ _ 0 _ _ K22.out
  have c2 := (cell_of_row _ _ 0 _ _ _ K22.out).trans (rfl : _ = some (Value.slice none 0 0))
  have c0 := (cell_of_row _ _ 0 _ _ _ K02.out).trans (rfl : _ = some (Value.slice ao 8 cap))
  go_wp2_with fail
  exact bodyPost_ret (v := .tuple #[.agg #[.slice none 0 0], .iface 104 (.int .i64 10)]) (results_cell_tmp Tryd.results9 _ _ (w.heap.size + 1 + 1) 31 #[.slice none 0 0] (0, 0) _ rfl (heap_setCell_same _ _ _ _ _ _ K22.out) Tryd.underlying31 rfl (by kernel_rfl)) rfl ⟨rfl, RB2.out.setCell (p := ⟨w.heap.size + 1 + 1, 0, none⟩) (by show w.heap.size ≤ w.heap.size + 1 + 1; omega) _⟩

def flat (l : List Pst) : List Value := l.flatMap fun p => p.c.toList
theorem flat_length : ∀ l : List Pst, (flat l).length = l.length * 4
  | [] => rfl
  | p :: l => by
    have := flat_length l
    unfold flat at this ⊢
    simp only [List.flatMap_cons, List.length_append, this, List.length_cons]
    show 4 + l.length * 4 = _
    omega
theorem flat_get : ∀ (l : List Pst) (k : Nat) (p : Pst) (r : Nat), l[k]? = some p → r < 4 → (flat l)[k * 4 + r]? = p.c[r]?
  | [], k, p, r, h, _ => by simp at h
  | q :: l, 0, p, r, h, hr => by
    obtain rfl : q = p := by simpa using h
    unfold flat
    rw [List.flatMap_cons, List.getElem?_append_left (by show _ < 4; omega)]
    simp
  | q :: l, k + 1, p, r, h, hr => by
    have ih := flat_get l k p r (by simpa using h) hr
    unfold flat at ih ⊢
    rw [List.flatMap_cons, List.getElem?_append_right (by show 4 ≤ _; omega)]
    rw [← ih]
    congr 1
    show (k + 1) * 4 + r - 4 = _
    omega
theorem Pst.c_get (p : Pst) {r : Nat} (hr : r < 4) : p.c[r]? = [Value.int .i64 p.dev, .int .u32 p.at_, .int .i64 p.n, .int .u32 p.val][r]? := by
  have : r = 0 ∨ r = 1 ∨ r = 2 ∨ r = 3 := by omega
  rcases this with rfl | rfl | rfl | rfl <;> rfl
theorem posts_cells {w : World} {a : Addr} {l : List Pst} (h : PostsAt w (some a) l) : ∀ j u, (flat l)[j]? = some u → w.cell? (a.add j) = some u := fun j u hj => by
  have hlt : j < l.length * 4 := by rw [← flat_length]; exact (List.getElem?_eq_some_iff.1 hj).1
  obtain ⟨p, hp⟩ : ∃ p, l[j / 4]? = some p := ⟨l[j / 4]'(by omega), List.getElem?_eq_getElem (by omega)⟩
  have hf := flat_get l (j / 4) p (j % 4) hp (Nat.mod_lt _ (by omega))
  rw [show j / 4 * 4 + j % 4 = j by omega, hj] at hf
  obtain ⟨b, o, ha, _, c0, c1, c2, c3⟩ := h _ p hp
  obtain rfl : a = ⟨b, o, none⟩ := Option.some.inj ha
  rw [Addr.add_lit]
  have hr : j % 4 = 0 ∨ j % 4 = 1 ∨ j % 4 = 2 ∨ j % 4 = 3 := by omega
  have ej : j = j / 4 * 4 + j % 4 := by omega
  rcases hr with hr | hr | hr | hr <;> rw [hr] at hf ej <;> rw [hf]
  · rw [show o + j = o + j / 4 * 4 by omega, c0]; rfl
  · rw [show o + j = o + j / 4 * 4 + 1 by omega, c1]; rfl
  · rw [show o + j = o + j / 4 * 4 + 2 by omega, c2]; rfl
  · rw [show o + j = o + j / 4 * 4 + 3 by omega, c3]; rfl
/-- The writes that a row of the call's own holds. -/
theorem posts_of_owns {w : World} {base e g n cap : Nat} {l : List Pst} (h : w.ownsRow base e 4 (.slice (some ⟨g, 0, none⟩) n cap) n (flat l)) (hn : n = l.length) : PostsAt w (some ⟨g, 0, none⟩) l := fun k p hk => by
  have hkl : k < l.length := (List.getElem?_eq_some_iff.1 hk).1
  have hg : g < w.heap.size := by
    rcases h.2 with ⟨h1, _⟩ | ⟨g', cap', cur, h1, _, h2, _⟩
    · exact absurd h1 (by simp)
    · obtain ⟨rfl, _⟩ : g = g' ∧ cap = cap' := by simpa using h1
      exact (Array.getElem?_eq_some_iff.1 h2).1
  have key : ∀ r, r < 4 → w.cell? ⟨g, 0 + k * 4 + r, none⟩ = p.c[r]? := fun r hr => by
    rw [Nat.zero_add, h.cellAt (k * 4 + r) (by omega)]
    exact flat_get l k p r hk hr
  exact ⟨g, 0, rfl, hg, (key 0 (by omega)).trans rfl, (key 1 (by omega)).trans rfl, (key 2 (by omega)).trans rfl, (key 3 (by omega)).trans rfl⟩
theorem wp_append_grows {P : Program} (w : World) {o : Oper} {a : Act} {K : Act → World → Prop} {Q : Exit → Act → World → Prop}
    (s x : Operand) (t : TypeId) (hop : o.op = Op.call { callee := Callee.builtin Builtin.append, args := #[s, x], argTypes := #[t, t] })
    (e : TypeId) (i : TypeInfo) (z : Value) (size bytes : Nat) (h1 : P.underlying t = some (.slice e)) (h2 : P.info? e = some i) (h3 : i.zero = some z) (h4 : i.size = size) (h5 : i.bytes = bytes) (h6 : z.cells.size = size) (h7 : 0 < size)
    (ao : Option Addr) (n cap : Nat) (olds : List Value) (hs : a.eval s = .slice ao n cap) (hnone : ao = none → n = 0 ∧ cap = 0) (hlo : olds.length = n * size) (holds : ∀ b, ao = some b → ∀ j u, olds[j]? = some u → w.cell? (b.add j) = some u)
    (ad : Addr) (m c : Nat) (news : List Value) (hx : a.eval x = .slice (some ad) m c) (hn : news.length = m * size) (hc : ∀ j u, news[j]? = some u → w.cell? (ad.add j) = some u) (h1c : ∀ u ∈ news, u.oneCell' = true)
    (hfull : cap < n + m) (b1 : n + m ≤ maxLen) (b2 : (n + m) * bytes ≤ 140737488355328)
    (hK : ∀ v' w', w'.ownsRow w.heap.size e size v' (n + m) (olds ++ news) → w.grownBy w' none → K (a.put o.dst v') w') :
    Oper.wp P o a w K Q := by
  cases ao with
  | some b =>
    obtain ⟨v', w', hrun, r1, r2⟩ := run_append_arg_grows (P := P) w t o.type e i z size bytes h1 h2 h3 h4 h5 h6 h7 b n cap olds hlo (holds b rfl) ad m c news hn hc hfull b1 b2
    unfold Oper.wp
    simp [execOp, hop, resolve, invoke, builtin, hs, hx, hrun, Result.andThen]
    exact hK v' w' r1 r2
  | none =>
    obtain ⟨rfl, rfl⟩ := hnone rfl
    obtain rfl : olds = [] := List.eq_nil_of_length_eq_zero (by simpa using hlo)
    obtain ⟨v', w', hrun, r1, r2, _⟩ := run_append_own (P := P) w w.heap.size t o.type e i z size bytes h1 h2 h3 h4 h5 h6 h7 (.slice none 0 0) 0 [] (World.ownsRow_nil w _ e size) ad m c news hn hc h1c b1 b2 (Nat.le_refl _)
    unfold Oper.wp
    simp [execOp, hop, resolve, invoke, builtin, hs, hx, hrun, Result.andThen]
    exact hK v' w' r1 r2
theorem info_post : ∃ i, Tryd.prog.info? 37 = some i ∧ i.zero = some (.agg #[.int .i64 0, .int .u32 0, .int .i64 0, .int .u32 0]) ∧ i.size = 4 ∧ i.bytes = 32 := by
  have h : (Tryd.prog.info? 37).map (fun i => (i.zero, i.size, i.bytes)) = some (some (.agg #[.int .i64 0, .int .u32 0, .int .i64 0, .int .u32 0]), 4, 32) := by kernel_rfl
  cases hq : Tryd.prog.info? 37 with
  | none => rw [hq] at h; cases h
  | some i =>
    rw [hq] at h
    simp only [Option.map_some, Option.some.injEq, Prod.mk.injEq] at h
    exact ⟨i, rfl, h.1, h.2.1, h.2.2⟩

end Go.Proofs.YtcmbnkmbaghkdaaDoor
