/-
Small laws for calls that answer two structs: two stores in a region that draws its order; several new boxes; results of two boxes.
No condition.
-/
import Derived.Test.YtcmbnkmbaghkdaaDoorG2
import Derived.Deep.RegionHeld
namespace Go.Proofs.YtcmbnkmbaghkdaaDoor
open Go.RowKit

theorem act_put_none {a : Act} {o : Oper} (h : o.dst = none) : a.put o.dst undef = a := by rw [h]; rfl
theorem wanted_plain {ops : Array Oper} {a : Act} {o : Oper} (h : o.guard = none) : Region.wanted o (yielded ops a.tmps) = true := by unfold Region.wanted; rw [h]
theorem wpAnyH_two_stores {P : Program} {md : Region.Mode} {ops : Array Oper} {Q : Exit → Act → World → Prop} {W0 : World} {i j : Nat} {oi oj : Oper} {fuel : Nat} {listed : Array Bool} {a : Act} {w : World} (p1 p2 : Nat) (X Y oX oY : Array Value) (t1 t2 : TypeId)
    (hi : ops[i]? = some oi) (hj : ops[j]? = some oj) (hr : Region.ready md ops listed = [i]) (hri : Region.ready md ops (listed.setIfInBounds i true) = [j])
    (gi : oi.guard = none) (gj : oj.guard = none) (di : oi.dst = none) (dj : oj.dst = none) (ty1 ty2 : TypeId) (x1 y1 x2 y2 : Operand) (ho1 : oi.op = .store ty1 x1 y1) (ho2 : oj.op = .store ty2 x2 y2)
    (hx1 : a.eval x1 = .pointer (some ⟨p1, 0, none⟩)) (hy1 : a.eval y1 = .agg X) (hx2 : a.eval x2 = .pointer (some ⟨p2, 0, none⟩)) (hy2 : a.eval y2 = .agg Y)
    (hg1 : w.heap[p1]? = some (.cells oX t1 (0, 0))) (hg2 : w.heap[p2]? = some (.cells oY t2 (0, 0))) (hz1 : (P.info? ty1).map (·.size) = some X.size) (hz2 : (P.info? ty2).map (·.size) = some Y.size)
    (hold1 : oX.size = X.size) (hold2 : oY.size = Y.size) (h11 : X.all (·.oneCell') = true) (h12 : Y.all (·.oneCell') = true) (hne : p1 ≠ p2) (hS : KX (fun k => k = p1 ∨ k = p2) W0 w)
    (hQ : ∀ w', KX (fun k => k = p1 ∨ k = p2) W0 w' → w'.heap[p1]? = some (.cells X t1 (0, 0)) → w'.heap[p2]? = some (.cells Y t2 (0, 0)) → wpAnyH P md ops Q (KX (fun k => k = p1 ∨ k = p2) W0) fuel ((listed.setIfInBounds i true).setIfInBounds j true) a w') :
    wpAnyH P md ops Q (KX (fun k => k = p1 ∨ k = p2) W0) (fuel + 2) listed a w := by
  refine wpAnyH_ready hr (by simp) (AllReadyH.cons hi (fun K hK => ?_) AllReadyH.nil)
  rw [if_pos (wanted_plain gi)]
  refine wp_store_row ty1 x1 y1 ho1 p1 X hx1 hy1 t1 oX hg1 hz1 hold1 h11 ?_
  rw [act_put_none di]
  have hA : KX (fun k => k = p1 ∨ k = p2) W0 (w.setRow p1 X) := hS.setRow (.inl (.inl rfl)) X
  have hA1 : (w.setRow p1 X).heap[p1]? = some (.cells X t1 (0, 0)) := setRow_heap _ _ _ _ _ _ hg1
  have hA2 : (w.setRow p1 X).heap[p2]? = some (.cells oY t2 (0, 0)) := (heap_row_other (Ne.symm hne)).trans hg2
  refine hK.out _ _ hA (fun _ => ?_)
  refine wpAnyH_ready hri (by simp) (AllReadyH.cons hj (fun K hK => ?_) AllReadyH.nil)
  rw [if_pos (wanted_plain gj)]
  refine wp_store_row ty2 x2 y2 ho2 p2 Y hx2 hy2 t2 oY hA2 hz2 hold2 h12 ?_
  rw [act_put_none dj]
  have hB : KX (fun k => k = p1 ∨ k = p2) W0 ((w.setRow p1 X).setRow p2 Y) := hA.setRow (.inl (.inr rfl)) Y
  refine hK.out _ _ hB (fun _ => ?_)
  exact hQ _ hB ((heap_row_other hne).trans hA1) (setRow_heap _ _ _ _ _ _ hA2)
theorem new3 (w : World) (A B C : Obj) : (((w.alloc A).alloc B).alloc C).heap[w.heap.size]? = some A ∧ (((w.alloc A).alloc B).alloc C).heap[w.heap.size + 1]? = some B ∧ (((w.alloc A).alloc B).alloc C).heap[w.heap.size + 1 + 1]? = some C ∧
    Below w.heap.size w (((w.alloc A).alloc B).alloc C) := by
  have hb : Below w.heap.size w ((w.alloc A).alloc B) := ((Below.refl _ _).alloc (Nat.le_refl _) _).alloc (by simp) _
  have hs : ((w.alloc A).alloc B).heap.size = w.heap.size + 1 + 1 := by simp
  refine ⟨(heap_alloc_old _ _ (by simp; omega)).trans (heap_alloc2_old _ _ _), (heap_alloc_old _ _ (by simp)).trans (heap_alloc2_new _ _ _), ?_, hb.alloc (by omega) _⟩
  have := heap_alloc_new ((w.alloc A).alloc B) C
  rw [hs] at this
  exact this
theorem new4 (w : World) (A B C D : Obj) : ((((w.alloc A).alloc B).alloc C).alloc D).heap[w.heap.size]? = some A ∧ ((((w.alloc A).alloc B).alloc C).alloc D).heap[w.heap.size + 1]? = some B ∧ ((((w.alloc A).alloc B).alloc C).alloc D).heap[w.heap.size + 1 + 1]? = some C ∧
    ((((w.alloc A).alloc B).alloc C).alloc D).heap[w.heap.size + 1 + 1 + 1]? = some D ∧ Below w.heap.size w ((((w.alloc A).alloc B).alloc C).alloc D) := by
  obtain ⟨h1, h2, h3, hb⟩ := new3 w A B C
  have hs : (((w.alloc A).alloc B).alloc C).heap.size = w.heap.size + 1 + 1 + 1 := by simp
  refine ⟨(heap_alloc_old _ _ (by omega)).trans h1, (heap_alloc_old _ _ (by omega)).trans h2, (heap_alloc_old _ _ (by omega)).trans h3, ?_, hb.alloc (by omega) _⟩
  have := heap_alloc_new (((w.alloc A).alloc B).alloc C) D
  rw [hs] at this
  exact this
theorem results_2cell_tmp {P : Program} {fn : Func} {p q b : Tmp} {ty ty' : TypeId} (h : fn.results = #[.cell p ty, .cell q ty', .tmp b]) (tmps : Array Value) (w : World) (g g' : Nat) (t t' : TypeId) (cs cs' : Array Value) (fr fr' : Nat × Nat) (d d' : TypeDesc)
    (hp : tmps.getD p undef = .pointer (some ⟨g, 0, none⟩)) (hp' : tmps.getD q undef = .pointer (some ⟨g', 0, none⟩)) (hg : w.heap[g]? = some (.cells cs t fr)) (hg' : w.heap[g']? = some (.cells cs' t' fr'))
    (hu : P.underlying ty = some d) (hd : (match d with | .struct _ | .array _ _ => true | _ => false) = true) (hi : (P.info? ty).map (·.size) = some cs.size)
    (hu' : P.underlying ty' = some d') (hd' : (match d' with | .struct _ | .array _ _ => true | _ => false) = true) (hi' : (P.info? ty').map (·.size) = some cs'.size) :
    (results fn tmps).run P w = .ok (.tuple #[.agg cs, .agg cs', tmps.getD b undef]) w := by
  have hp1 : tmps[p]?.getD undef = .pointer (some ⟨g, 0, none⟩) := by simpa using hp
  have hp2 : tmps[q]?.getD undef = .pointer (some ⟨g', 0, none⟩) := by simpa using hp'
  simp [results, h, hp1, hp2, asAddr, run_loadVar_row w g t ty cs fr d hg hu hd hi, run_loadVar_row w g' t' ty' cs' fr' d' hg' hu' hd' hi']
theorem results_2cell {P : Program} {fn : Func} {p q : Tmp} {ty ty' : TypeId} (h : fn.results = #[.cell p ty, .cell q ty']) (tmps : Array Value) (w : World) (g g' : Nat) (t t' : TypeId) (cs cs' : Array Value) (fr fr' : Nat × Nat) (d d' : TypeDesc)
    (hp : tmps.getD p undef = .pointer (some ⟨g, 0, none⟩)) (hp' : tmps.getD q undef = .pointer (some ⟨g', 0, none⟩)) (hg : w.heap[g]? = some (.cells cs t fr)) (hg' : w.heap[g']? = some (.cells cs' t' fr'))
    (hu : P.underlying ty = some d) (hd : (match d with | .struct _ | .array _ _ => true | _ => false) = true) (hi : (P.info? ty).map (·.size) = some cs.size)
    (hu' : P.underlying ty' = some d') (hd' : (match d' with | .struct _ | .array _ _ => true | _ => false) = true) (hi' : (P.info? ty').map (·.size) = some cs'.size) :
    (results fn tmps).run P w = .ok (.tuple #[.agg cs, .agg cs']) w := by
  have hp1 : tmps[p]?.getD undef = .pointer (some ⟨g, 0, none⟩) := by simpa using hp
  have hp2 : tmps[q]?.getD undef = .pointer (some ⟨g', 0, none⟩) := by simpa using hp'
  simp [results, h, hp1, hp2, asAddr, run_loadVar_row w g t ty cs fr d hg hu hd hi, run_loadVar_row w g' t' ty' cs' fr' d' hg' hu' hd' hi']
end Go.Proofs.YtcmbnkmbaghkdaaDoor
