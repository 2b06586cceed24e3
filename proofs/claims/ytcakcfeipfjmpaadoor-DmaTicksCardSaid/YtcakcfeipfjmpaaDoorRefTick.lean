/-
pinnaceref12.Tick, walked: its leaves.
No condition.
-/
import Derived.Test.YtcakcfeipfjmpaaDoorRef12
import Derived.Test.YtcakcfeipfjmpaaDoorRefWrite
import Derived.Test.YtcakcfeipfjmpaaDoorRowAuto
namespace Go.Proofs.YtcakcfeipfjmpaaDoor
open Go.RowKit
set_option linter.unusedVariables false

theorem results_two_cells {P : Program} {fn : Func} {p a : Tmp} {ty ty2 : TypeId} (h : fn.results = #[.cell p ty, .cell a ty2]) (tmps : Array Value) (w : World) (g g2 : Nat) (t t2 : TypeId) (cs cs2 : Array Value) (fr fr2 : Nat × Nat) (d d2 : TypeDesc)
    (hp : tmps.getD p undef = .pointer (some ⟨g, 0, none⟩)) (ha : tmps.getD a undef = .pointer (some ⟨g2, 0, none⟩)) (hg : w.heap[g]? = some (.cells cs t fr)) (hg2 : w.heap[g2]? = some (.cells cs2 t2 fr2))
    (hu : P.underlying ty = some d) (hd : (match d with | .struct _ | .array _ _ => true | _ => false) = true) (hi : (P.info? ty).map (·.size) = some cs.size)
    (hu2 : P.underlying ty2 = some d2) (hd2 : (match d2 with | .struct _ | .array _ _ => true | _ => false) = true) (hi2 : (P.info? ty2).map (·.size) = some cs2.size) :
    (results fn tmps).run P w = .ok (.tuple #[.agg cs, .agg cs2]) w := by
  have hp' : tmps[p]?.getD undef = .pointer (some ⟨g, 0, none⟩) := by simpa using hp
  have ha' : tmps[a]?.getD undef = .pointer (some ⟨g2, 0, none⟩) := by simpa using ha
  simp [results, h, hp', ha', asAddr, run_loadVar_row w g t ty cs fr d hg hu hd hi, run_loadVar_row w g2 t2 ty2 cs2 fr2 d2 hg2 hu2 hd2 hi2]
theorem load_rowH {P : Program} {ops : Array Oper} {rest : List Oper} {o : Oper} {a : Act} {w : World} {Q : Exit → Act → World → Prop} (hw : Region.wanted o (yielded ops a.tmps) = true) (ty : TypeId) (x : Operand) (ho : o.op = .load ty x)
    (g : Nat) (hx : a.eval x = .pointer (some ⟨g, 0, none⟩)) (t : TypeId) (cs : Array Value) (fr : Nat × Nat) (d : TypeDesc) (hg : w.heap[g]? = some (.cells cs t fr))
    (hu : P.underlying ty = some d) (hd : (match d with | .struct _ | .array _ _ => true | _ => false) = true) (hi : (P.info? ty).map (·.size) = some cs.size)
    (h : wpList P ops Q rest (a.put o.dst (.agg cs)) w) : wpList P ops Q (o :: rest) a w :=
  BigFrame.wpList_want hw fun _ hK => wp_load_row ty x ho g hx t cs fr d hg hu hd hi (hK _ _ h)
theorem four_new (w : World) (A B C D : Obj) : ((((w.alloc A).alloc B).alloc C).alloc D).heap[w.heap.size]? = some A ∧ ((((w.alloc A).alloc B).alloc C).alloc D).heap[w.heap.size + 1]? = some B ∧ ((((w.alloc A).alloc B).alloc C).alloc D).heap[w.heap.size + 1 + 1]? = some C ∧
    ((((w.alloc A).alloc B).alloc C).alloc D).heap[w.heap.size + 1 + 1 + 1]? = some D ∧ Below w.heap.size w ((((w.alloc A).alloc B).alloc C).alloc D) := by
  refine ⟨?_, ?_, ?_, ?_, (((((Below.refl _ _).alloc (Nat.le_refl _) _).alloc (by simp) _).alloc (by simp; omega) _).alloc (by simp; omega) _)⟩
  · rw [Below.heap_alloc _ _ _ (by simp; omega), Below.heap_alloc _ _ _ (by simp; omega), Below.heap_alloc _ _ _ (by simp)]; exact heap_alloc_new _ _
  · rw [Below.heap_alloc _ _ _ (by simp), Below.heap_alloc _ _ _ (by simp)]; have := heap_alloc_new (w.alloc A) B; simpa using this
  · rw [Below.heap_alloc _ _ _ (by simp)]; have := heap_alloc_new ((w.alloc A).alloc B) C; simpa using this
  · have := heap_alloc_new (((w.alloc A).alloc B).alloc C) D; simpa using this

set_option maxRecDepth 100000 in
set_option maxHeartbeats 8000000 in
theorem r12_tk_bad (code : Nat) (head : Nat) (at_ : Nat) (steps : Nat) (moved : Nat) (have_ : Bool) (from_ : Nat) (to_ : Nat) (left : Nat) (next : Nat) (asks : Bool) {b1 c1 b2 n c2 : Nat} {q : Int} (w : World)  (HC : Hid (∀ W, Calls Tryd.prog 41 #[.agg #[.int .u32 code, .int .u32 head, .int .u32 at_, .int .u32 steps, .int .u32 moved, .bool have_, .int .u32 from_, .int .u32 to_, .int .u32 left, .int .u32 next, .bool asks]] W fun e w' => e = .returned (.int .i64 1) ∧ Below W.heap.size W w')) : Calls Tryd.prog 12 #[.agg #[.int .u32 code, .int .u32 head, .int .u32 at_, .int .u32 steps, .int .u32 moved, .bool have_, .int .u32 from_, .int .u32 to_, .int .u32 left, .int .u32 next, .bool asks], .agg #[.slice (some ⟨b1, 0, none⟩) (4096 * n) c1, .slice (some ⟨b2, 0, none⟩) n c2, .int .i64 q]] w fun e w' => e = .returned (.tuple #[.agg #[.int .u32 code, .int .u32 head, .int .u32 at_, .int .u32 steps, .int .u32 moved, .bool have_, .int .u32 from_, .int .u32 to_, .int .u32 left, .int .u32 next, .bool asks], .agg #[.slice (some ⟨b1, 0, none⟩) (4096 * n) c1, .slice (some ⟨b2, 0, none⟩) n c2, .int .i64 q]]) ∧ Below w.heap.size w w' := by
  obtain ⟨k0, k1, k2, k3, hb0⟩ := four_new w (.cells #[.int .u32 code, .int .u32 head, .int .u32 at_, .int .u32 steps, .int .u32 moved, .bool have_, .int .u32 from_, .int .u32 to_, .int .u32 left, .int .u32 next, .bool asks] 24) (.cells #[.slice (some ⟨b1, 0, none⟩) (4096 * n) c1, .slice (some ⟨b2, 0, none⟩) n c2, .int .i64 q] 30) (.cells #[.int .u32 0, .int .u32 0, .int .u32 0, .int .u32 0, .int .u32 0, .bool false, .int .u32 0, .int .u32 0, .int .u32 0, .int .u32 0, .bool false] 24) (.cells #[.slice none 0 0, .slice none 0 0, .int .i64 0] 30)
  have K00 := Lib.hid k0
  have K01 := Lib.hid k1
  have K02 := Lib.hid k2
  have K03 := Lib.hid k3
  have HB0 := Lib.hid hb0
  clear k0 k1 k2 k3 hb0
  go_enter Tryd.func12, Tryd.ntmps12
  go_wp2_with fail
  refine (HC.out _).mono ?_
  rintro e w1 ⟨rfl, hb⟩
  have K2 := Lib.hid (keepB K00.out hb)
  clear K00
  have K3 := Lib.hid (keepB K01.out hb)
  clear K01
  have K4 := Lib.hid (keepB K02.out hb)
  clear K02
  have K5 := Lib.hid (keepB K03.out hb)
  clear K03
  have HB6 := Lib.hid (HB0.out.trans (hb.mono HB0.out.size))
  clear HB0
  clear hb
  have c7 := (cell_of_row _ _ 0 _ _ _ K2.out).trans (rfl : _ = some (.int .u32 code : Value))
  have f8 := fun j => frozen_of_row _ _ j _ _ K2.out
  go_upto_region 2 with fail
  clear c7 f8
  have HR9 := HB6
  refine wp_region_held_drew (S := fun W => KX (fun k => k = w.heap.size + 1 + 1 ∨ k = w.heap.size + 1 + 1 + 1) (w1) W) (by kernel_rfl) ((KX.refl (fun k => k = w.heap.size + 1 + 1 ∨ k = w.heap.size + 1 + 1 + 1) _).drew) (fun hHeld => ?_)
  refine wpAnyH_take (i := 0) rfl (by kernel_rfl) (by kernel_rfl) (by kernel_rfl) (fun _ _ _ h => h) (yieldsIf_load_mid (by rfl) 24 _ rfl (w.heap.size) 0 rfl #[.int .u32 code, .int .u32 head, .int .u32 at_, .int .u32 steps, .int .u32 moved, .bool have_, .int .u32 from_, .int .u32 to_, .int .u32 left, .int .u32 next, .bool asks].toList _ (fun W hSw => range_of_all (hSw.heap K2.out (by omega))) Tryd.underlying24 rfl ?hi0) (by assumption) ?rest0
  case hi0 => kernel_rfl
  simp only [Act.put, List.getElem_toArray, List.getElem_cons_zero, List.setIfInBounds_toArray, List.set_cons_zero, List.set_cons_succ]
  refine wpAnyH_take (i := 1) rfl (by kernel_rfl) (by kernel_rfl) (by kernel_rfl) (fun _ _ _ h => h) (yieldsIf_load_mid (by rfl) 30 _ rfl (w.heap.size + 1) 0 rfl #[.slice (some ⟨b1, 0, none⟩) (4096 * n) c1, .slice (some ⟨b2, 0, none⟩) n c2, .int .i64 q].toList _ (fun W hSw => range_of_all (hSw.heap K3.out (by omega))) Tryd.underlying30 rfl ?hi1) (by assumption) ?rest1
  case hi1 => kernel_rfl
  simp only [Act.put, List.getElem_toArray, List.getElem_cons_zero, List.getElem_cons_succ, List.setIfInBounds_toArray, List.set_cons_zero, List.set_cons_succ]
  have HO10 := Lib.hid (show (#[.int .u32 code, .int .u32 head, .int .u32 at_, .int .u32 steps, .int .u32 moved, .bool have_, .int .u32 from_, .int .u32 to_, .int .u32 left, .int .u32 next, .bool asks] : Array Value).all (·.oneCell') = true by simp [Value.oneCell'])
  have HO11 := Lib.hid (show (#[.slice (some ⟨b1, 0, none⟩) (4096 * n) c1, .slice (some ⟨b2, 0, none⟩) n c2, .int .i64 q] : Array Value).all (·.oneCell') = true by simp [Value.oneCell'])
  refine wpAnyH_ready (rs := [2]) (by kernel_rfl) (by simp) ?_
  refine AllReadyH.cons (o := _) rfl (fun K hK => ?_) (AllReadyH.nil)
  simp only [List.getElem_toArray, List.getElem_cons_zero, List.getElem_cons_succ]
  rw [if_pos (by rfl)]
  refine wp_store_row 24 _ _ rfl (w.heap.size + 1 + 1) #[.int .u32 code, .int .u32 head, .int .u32 at_, .int .u32 steps, .int .u32 moved, .bool have_, .int .u32 from_, .int .u32 to_, .int .u32 left, .int .u32 next, .bool asks] rfl rfl 24 #[.int .u32 0, .int .u32 0, .int .u32 0, .int .u32 0, .int .u32 0, .bool false, .int .u32 0, .int .u32 0, .int .u32 0, .int .u32 0, .bool false] K4.out (by kernel_rfl) rfl HO10.out ?_
  refine hK.out _ _ (hHeld.setRow (.inl (by omega)) _) (fun hq1 => ?_)
  clear hK K
  try simp only [Act.put]
  have ka : (((w1).drew).setRow (w.heap.size + 1 + 1) #[.int .u32 code, .int .u32 head, .int .u32 at_, .int .u32 steps, .int .u32 moved, .bool have_, .int .u32 from_, .int .u32 to_, .int .u32 left, .int .u32 next, .bool asks]).heap[w.heap.size + 1 + 1]? = some (.cells #[.int .u32 code, .int .u32 head, .int .u32 at_, .int .u32 steps, .int .u32 moved, .bool have_, .int .u32 from_, .int .u32 to_, .int .u32 left, .int .u32 next, .bool asks] 24 (0, 0)) := setRow_heap _ _ _ _ _ _ K4.out
  have kb : (((w1).drew).setRow (w.heap.size + 1 + 1) #[.int .u32 code, .int .u32 head, .int .u32 at_, .int .u32 steps, .int .u32 moved, .bool have_, .int .u32 from_, .int .u32 to_, .int .u32 left, .int .u32 next, .bool asks]).heap[w.heap.size + 1 + 1 + 1]? = some (.cells #[.slice none 0 0, .slice none 0 0, .int .i64 0] 30 (0, 0)) := (heap_row_other (by omega)).trans K5.out
  generalize ((w1).drew).setRow (w.heap.size + 1 + 1) #[.int .u32 code, .int .u32 head, .int .u32 at_, .int .u32 steps, .int .u32 moved, .bool have_, .int .u32 from_, .int .u32 to_, .int .u32 left, .int .u32 next, .bool asks] = wq at ka kb hq1 ⊢
  refine wpAnyH_ready (rs := [3]) (by kernel_rfl) (by simp) ?_
  refine AllReadyH.cons (o := _) rfl (fun K hK => ?_) (AllReadyH.nil)
  simp only [List.getElem_toArray, List.getElem_cons_zero, List.getElem_cons_succ]
  rw [if_pos (by rfl)]
  refine wp_store_row 30 _ _ rfl (w.heap.size + 1 + 1 + 1) #[.slice (some ⟨b1, 0, none⟩) (4096 * n) c1, .slice (some ⟨b2, 0, none⟩) n c2, .int .i64 q] rfl rfl 30 #[.slice none 0 0, .slice none 0 0, .int .i64 0] kb (by kernel_rfl) rfl HO11.out ?_
  refine hK.out _ _ (hq1.setRow (.inl (by omega)) _) (fun hq2 => ?_)
  clear hK K
  try simp only [Act.put]
  have kc : (wq.setRow (w.heap.size + 1 + 1 + 1) #[.slice (some ⟨b1, 0, none⟩) (4096 * n) c1, .slice (some ⟨b2, 0, none⟩) n c2, .int .i64 q]).heap[w.heap.size + 1 + 1]? = some (.cells #[.int .u32 code, .int .u32 head, .int .u32 at_, .int .u32 steps, .int .u32 moved, .bool have_, .int .u32 from_, .int .u32 to_, .int .u32 left, .int .u32 next, .bool asks] 24 (0, 0)) := (heap_row_other (by omega)).trans ka
  have kd : (wq.setRow (w.heap.size + 1 + 1 + 1) #[.slice (some ⟨b1, 0, none⟩) (4096 * n) c1, .slice (some ⟨b2, 0, none⟩) n c2, .int .i64 q]).heap[w.heap.size + 1 + 1 + 1]? = some (.cells #[.slice (some ⟨b1, 0, none⟩) (4096 * n) c1, .slice (some ⟨b2, 0, none⟩) n c2, .int .i64 q] 30 (0, 0)) := setRow_heap _ _ _ _ _ _ kb
  generalize wq.setRow (w.heap.size + 1 + 1 + 1) #[.slice (some ⟨b1, 0, none⟩) (4096 * n) c1, .slice (some ⟨b2, 0, none⟩) n c2, .int .i64 q] = wz at kc kd hq2 ⊢
  clear ka kb hq1
  refine wpAnyH_done (by kernel_rfl) ?_ _
  have HBE := Lib.hid (HR9.out.trans (hq2.below (B := w.heap.size) (fun k hk e => by omega) HR9.out.size))
  go_wp2_with fail
  exact bodyPost_ret (v := .tuple #[.agg #[.int .u32 code, .int .u32 head, .int .u32 at_, .int .u32 steps, .int .u32 moved, .bool have_, .int .u32 from_, .int .u32 to_, .int .u32 left, .int .u32 next, .bool asks], .agg #[.slice (some ⟨b1, 0, none⟩) (4096 * n) c1, .slice (some ⟨b2, 0, none⟩) n c2, .int .i64 q]]) (results_two_cells Tryd.results12 _ _ (w.heap.size + 1 + 1) (w.heap.size + 1 + 1 + 1) 24 30 #[.int .u32 code, .int .u32 head, .int .u32 at_, .int .u32 steps, .int .u32 moved, .bool have_, .int .u32 from_, .int .u32 to_, .int .u32 left, .int .u32 next, .bool asks] #[.slice (some ⟨b1, 0, none⟩) (4096 * n) c1, .slice (some ⟨b2, 0, none⟩) n c2, .int .i64 q] (0, 0) (0, 0) _ _ rfl rfl kc kd Tryd.underlying24 rfl (by kernel_rfl) Tryd.underlying30 rfl (by kernel_rfl)) rfl ⟨rfl, HBE.out⟩

set_option maxRecDepth 100000 in
set_option maxHeartbeats 8000000 in
theorem r12_tk_idle (code : Nat) (head : Nat) (at_ : Nat) (steps : Nat) (moved : Nat) (have_ : Bool) (from_ : Nat) (to_ : Nat) (left : Nat) (next : Nat) (asks : Bool) {b1 c1 b2 n c2 : Nat} {q : Int} (w : World) (hc : code ≠ 1) (HC : Hid (∀ W, Calls Tryd.prog 41 #[.agg #[.int .u32 code, .int .u32 head, .int .u32 at_, .int .u32 steps, .int .u32 moved, .bool have_, .int .u32 from_, .int .u32 to_, .int .u32 left, .int .u32 next, .bool asks]] W fun e w' => e = .returned (.int .i64 0) ∧ Below W.heap.size W w')) : Calls Tryd.prog 12 #[.agg #[.int .u32 code, .int .u32 head, .int .u32 at_, .int .u32 steps, .int .u32 moved, .bool have_, .int .u32 from_, .int .u32 to_, .int .u32 left, .int .u32 next, .bool asks], .agg #[.slice (some ⟨b1, 0, none⟩) (4096 * n) c1, .slice (some ⟨b2, 0, none⟩) n c2, .int .i64 q]] w fun e w' => e = .returned (.tuple #[.agg #[.int .u32 code, .int .u32 head, .int .u32 at_, .int .u32 steps, .int .u32 moved, .bool have_, .int .u32 from_, .int .u32 to_, .int .u32 left, .int .u32 next, .bool asks], .agg #[.slice (some ⟨b1, 0, none⟩) (4096 * n) c1, .slice (some ⟨b2, 0, none⟩) n c2, .int .i64 q]]) ∧ Below w.heap.size w w' := by
  have e1 : ((code : Int) != 1) = true := by simp; omega
  clear hc
  obtain ⟨k0, k1, k2, k3, hb0⟩ := four_new w (.cells #[.int .u32 code, .int .u32 head, .int .u32 at_, .int .u32 steps, .int .u32 moved, .bool have_, .int .u32 from_, .int .u32 to_, .int .u32 left, .int .u32 next, .bool asks] 24) (.cells #[.slice (some ⟨b1, 0, none⟩) (4096 * n) c1, .slice (some ⟨b2, 0, none⟩) n c2, .int .i64 q] 30) (.cells #[.int .u32 0, .int .u32 0, .int .u32 0, .int .u32 0, .int .u32 0, .bool false, .int .u32 0, .int .u32 0, .int .u32 0, .int .u32 0, .bool false] 24) (.cells #[.slice none 0 0, .slice none 0 0, .int .i64 0] 30)
  have K00 := Lib.hid k0
  have K01 := Lib.hid k1
  have K02 := Lib.hid k2
  have K03 := Lib.hid k3
  have HB0 := Lib.hid hb0
  clear k0 k1 k2 k3 hb0
  go_enter Tryd.func12, Tryd.ntmps12
  go_wp2_with fail
  refine (HC.out _).mono ?_
  rintro e w1 ⟨rfl, hb⟩
  have K2 := Lib.hid (keepB K00.out hb)
  clear K00
  have K3 := Lib.hid (keepB K01.out hb)
  clear K01
  have K4 := Lib.hid (keepB K02.out hb)
  clear K02
  have K5 := Lib.hid (keepB K03.out hb)
  clear K03
  have HB6 := Lib.hid (HB0.out.trans (hb.mono HB0.out.size))
  clear HB0
  clear hb
  have c7 := (cell_of_row _ _ 0 _ _ _ K2.out).trans (rfl : _ = some (.int .u32 code : Value))
  have f8 := fun j => frozen_of_row _ _ j _ _ K2.out
  go_upto_region 2 with fail
  clear c7 f8
  have HR9 := HB6
  refine wp_region_held_drew (S := fun W => KX (fun k => k = w.heap.size + 1 + 1 ∨ k = w.heap.size + 1 + 1 + 1) (w1) W) (by kernel_rfl) ((KX.refl (fun k => k = w.heap.size + 1 + 1 ∨ k = w.heap.size + 1 + 1 + 1) _).drew) (fun hHeld => ?_)
  refine wpAnyH_take (i := 0) rfl (by kernel_rfl) (by kernel_rfl) (by kernel_rfl) (fun _ _ _ h => h) (yieldsIf_load_mid (by rfl) 24 _ rfl (w.heap.size) 0 rfl #[.int .u32 code, .int .u32 head, .int .u32 at_, .int .u32 steps, .int .u32 moved, .bool have_, .int .u32 from_, .int .u32 to_, .int .u32 left, .int .u32 next, .bool asks].toList _ (fun W hSw => range_of_all (hSw.heap K2.out (by omega))) Tryd.underlying24 rfl ?hi0) (by assumption) ?rest0
  case hi0 => kernel_rfl
  simp only [Act.put, List.getElem_toArray, List.getElem_cons_zero, List.setIfInBounds_toArray, List.set_cons_zero, List.set_cons_succ]
  refine wpAnyH_take (i := 1) rfl (by kernel_rfl) (by kernel_rfl) (by kernel_rfl) (fun _ _ _ h => h) (yieldsIf_load_mid (by rfl) 30 _ rfl (w.heap.size + 1) 0 rfl #[.slice (some ⟨b1, 0, none⟩) (4096 * n) c1, .slice (some ⟨b2, 0, none⟩) n c2, .int .i64 q].toList _ (fun W hSw => range_of_all (hSw.heap K3.out (by omega))) Tryd.underlying30 rfl ?hi1) (by assumption) ?rest1
  case hi1 => kernel_rfl
  simp only [Act.put, List.getElem_toArray, List.getElem_cons_zero, List.getElem_cons_succ, List.setIfInBounds_toArray, List.set_cons_zero, List.set_cons_succ]
  have HO10 := Lib.hid (show (#[.int .u32 code, .int .u32 head, .int .u32 at_, .int .u32 steps, .int .u32 moved, .bool have_, .int .u32 from_, .int .u32 to_, .int .u32 left, .int .u32 next, .bool asks] : Array Value).all (·.oneCell') = true by simp [Value.oneCell'])
  have HO11 := Lib.hid (show (#[.slice (some ⟨b1, 0, none⟩) (4096 * n) c1, .slice (some ⟨b2, 0, none⟩) n c2, .int .i64 q] : Array Value).all (·.oneCell') = true by simp [Value.oneCell'])
  refine wpAnyH_ready (rs := [2]) (by kernel_rfl) (by simp) ?_
  refine AllReadyH.cons (o := _) rfl (fun K hK => ?_) (AllReadyH.nil)
  simp only [List.getElem_toArray, List.getElem_cons_zero, List.getElem_cons_succ]
  rw [if_pos (by rfl)]
  refine wp_store_row 24 _ _ rfl (w.heap.size + 1 + 1) #[.int .u32 code, .int .u32 head, .int .u32 at_, .int .u32 steps, .int .u32 moved, .bool have_, .int .u32 from_, .int .u32 to_, .int .u32 left, .int .u32 next, .bool asks] rfl rfl 24 #[.int .u32 0, .int .u32 0, .int .u32 0, .int .u32 0, .int .u32 0, .bool false, .int .u32 0, .int .u32 0, .int .u32 0, .int .u32 0, .bool false] K4.out (by kernel_rfl) rfl HO10.out ?_
  refine hK.out _ _ (hHeld.setRow (.inl (by omega)) _) (fun hq1 => ?_)
  clear hK K
  try simp only [Act.put]
  have ka : (((w1).drew).setRow (w.heap.size + 1 + 1) #[.int .u32 code, .int .u32 head, .int .u32 at_, .int .u32 steps, .int .u32 moved, .bool have_, .int .u32 from_, .int .u32 to_, .int .u32 left, .int .u32 next, .bool asks]).heap[w.heap.size + 1 + 1]? = some (.cells #[.int .u32 code, .int .u32 head, .int .u32 at_, .int .u32 steps, .int .u32 moved, .bool have_, .int .u32 from_, .int .u32 to_, .int .u32 left, .int .u32 next, .bool asks] 24 (0, 0)) := setRow_heap _ _ _ _ _ _ K4.out
  have kb : (((w1).drew).setRow (w.heap.size + 1 + 1) #[.int .u32 code, .int .u32 head, .int .u32 at_, .int .u32 steps, .int .u32 moved, .bool have_, .int .u32 from_, .int .u32 to_, .int .u32 left, .int .u32 next, .bool asks]).heap[w.heap.size + 1 + 1 + 1]? = some (.cells #[.slice none 0 0, .slice none 0 0, .int .i64 0] 30 (0, 0)) := (heap_row_other (by omega)).trans K5.out
  generalize ((w1).drew).setRow (w.heap.size + 1 + 1) #[.int .u32 code, .int .u32 head, .int .u32 at_, .int .u32 steps, .int .u32 moved, .bool have_, .int .u32 from_, .int .u32 to_, .int .u32 left, .int .u32 next, .bool asks] = wq at ka kb hq1 ⊢
  refine wpAnyH_ready (rs := [3]) (by kernel_rfl) (by simp) ?_
  refine AllReadyH.cons (o := _) rfl (fun K hK => ?_) (AllReadyH.nil)
  simp only [List.getElem_toArray, List.getElem_cons_zero, List.getElem_cons_succ]
  rw [if_pos (by rfl)]
  refine wp_store_row 30 _ _ rfl (w.heap.size + 1 + 1 + 1) #[.slice (some ⟨b1, 0, none⟩) (4096 * n) c1, .slice (some ⟨b2, 0, none⟩) n c2, .int .i64 q] rfl rfl 30 #[.slice none 0 0, .slice none 0 0, .int .i64 0] kb (by kernel_rfl) rfl HO11.out ?_
  refine hK.out _ _ (hq1.setRow (.inl (by omega)) _) (fun hq2 => ?_)
  clear hK K
  try simp only [Act.put]
  have kc : (wq.setRow (w.heap.size + 1 + 1 + 1) #[.slice (some ⟨b1, 0, none⟩) (4096 * n) c1, .slice (some ⟨b2, 0, none⟩) n c2, .int .i64 q]).heap[w.heap.size + 1 + 1]? = some (.cells #[.int .u32 code, .int .u32 head, .int .u32 at_, .int .u32 steps, .int .u32 moved, .bool have_, .int .u32 from_, .int .u32 to_, .int .u32 left, .int .u32 next, .bool asks] 24 (0, 0)) := (heap_row_other (by omega)).trans ka
  have kd : (wq.setRow (w.heap.size + 1 + 1 + 1) #[.slice (some ⟨b1, 0, none⟩) (4096 * n) c1, .slice (some ⟨b2, 0, none⟩) n c2, .int .i64 q]).heap[w.heap.size + 1 + 1 + 1]? = some (.cells #[.slice (some ⟨b1, 0, none⟩) (4096 * n) c1, .slice (some ⟨b2, 0, none⟩) n c2, .int .i64 q] 30 (0, 0)) := setRow_heap _ _ _ _ _ _ kb
  generalize wq.setRow (w.heap.size + 1 + 1 + 1) #[.slice (some ⟨b1, 0, none⟩) (4096 * n) c1, .slice (some ⟨b2, 0, none⟩) n c2, .int .i64 q] = wz at kc kd hq2 ⊢
  clear ka kb hq1
  refine wpAnyH_done (by kernel_rfl) ?_ _
  have HBE := Lib.hid (HR9.out.trans (hq2.below (B := w.heap.size) (fun k hk e => by omega) HR9.out.size))
  go_wp2_with fail
  exact bodyPost_ret (v := .tuple #[.agg #[.int .u32 code, .int .u32 head, .int .u32 at_, .int .u32 steps, .int .u32 moved, .bool have_, .int .u32 from_, .int .u32 to_, .int .u32 left, .int .u32 next, .bool asks], .agg #[.slice (some ⟨b1, 0, none⟩) (4096 * n) c1, .slice (some ⟨b2, 0, none⟩) n c2, .int .i64 q]]) (results_two_cells Tryd.results12 _ _ (w.heap.size + 1 + 1) (w.heap.size + 1 + 1 + 1) 24 30 #[.int .u32 code, .int .u32 head, .int .u32 at_, .int .u32 steps, .int .u32 moved, .bool have_, .int .u32 from_, .int .u32 to_, .int .u32 left, .int .u32 next, .bool asks] #[.slice (some ⟨b1, 0, none⟩) (4096 * n) c1, .slice (some ⟨b2, 0, none⟩) n c2, .int .i64 q] (0, 0) (0, 0) _ _ rfl rfl kc kd Tryd.underlying24 rfl (by kernel_rfl) Tryd.underlying30 rfl (by kernel_rfl)) rfl ⟨rfl, HBE.out⟩

set_option maxRecDepth 100000 in
set_option maxHeartbeats 8000000 in
theorem r12_tk_f64 (head : Nat) (at_ : Nat) (steps : Nat) (moved : Nat) (from_ : Nat) (to_ : Nat) (left : Nat) (next : Nat) (asks : Bool) {b1 c1 b2 n c2 : Nat} {q : Int} (w : World) (hs : 63 < steps) (HF : Hid (∀ W, Calls Tryd.prog 55 #[.agg #[.int .u32 1, .int .u32 head, .int .u32 at_, .int .u32 steps, .int .u32 moved, .bool false, .int .u32 from_, .int .u32 to_, .int .u32 left, .int .u32 next, .bool asks]] W fun e w' => e = .returned (.agg #[.int .u32 3, .int .u32 head, .int .u32 at_, .int .u32 steps, .int .u32 moved, .bool false, .int .u32 0, .int .u32 0, .int .u32 0, .int .u32 0, .bool true]) ∧ Below W.heap.size W w')) (HC : Hid (∀ W, Calls Tryd.prog 41 #[.agg #[.int .u32 1, .int .u32 head, .int .u32 at_, .int .u32 steps, .int .u32 moved, .bool false, .int .u32 from_, .int .u32 to_, .int .u32 left, .int .u32 next, .bool asks]] W fun e w' => e = .returned (.int .i64 0) ∧ Below W.heap.size W w')) : Calls Tryd.prog 12 #[.agg #[.int .u32 1, .int .u32 head, .int .u32 at_, .int .u32 steps, .int .u32 moved, .bool false, .int .u32 from_, .int .u32 to_, .int .u32 left, .int .u32 next, .bool asks], .agg #[.slice (some ⟨b1, 0, none⟩) (4096 * n) c1, .slice (some ⟨b2, 0, none⟩) n c2, .int .i64 q]] w fun e w' => e = .returned (.tuple #[.agg #[.int .u32 3, .int .u32 head, .int .u32 at_, .int .u32 steps, .int .u32 moved, .bool false, .int .u32 0, .int .u32 0, .int .u32 0, .int .u32 0, .bool true], .agg #[.slice (some ⟨b1, 0, none⟩) (4096 * n) c1, .slice (some ⟨b2, 0, none⟩) n c2, .int .i64 q]]) ∧ Below w.heap.size w w' := by
  have e1 : decide ((63 : Int) < (steps : Int)) = true := decide_eq_true (by omega)
  clear hs
  obtain ⟨k0, k1, k2, k3, hb0⟩ := four_new w (.cells #[.int .u32 1, .int .u32 head, .int .u32 at_, .int .u32 steps, .int .u32 moved, .bool false, .int .u32 from_, .int .u32 to_, .int .u32 left, .int .u32 next, .bool asks] 24) (.cells #[.slice (some ⟨b1, 0, none⟩) (4096 * n) c1, .slice (some ⟨b2, 0, none⟩) n c2, .int .i64 q] 30) (.cells #[.int .u32 0, .int .u32 0, .int .u32 0, .int .u32 0, .int .u32 0, .bool false, .int .u32 0, .int .u32 0, .int .u32 0, .int .u32 0, .bool false] 24) (.cells #[.slice none 0 0, .slice none 0 0, .int .i64 0] 30)
  have K00 := Lib.hid k0
  have K01 := Lib.hid k1
  have K02 := Lib.hid k2
  have K03 := Lib.hid k3
  have HB0 := Lib.hid hb0
  clear k0 k1 k2 k3 hb0
  go_enter Tryd.func12, Tryd.ntmps12
  go_wp2_with fail
  refine (HC.out _).mono ?_
  rintro e w1 ⟨rfl, hb⟩
  have K2 := Lib.hid (keepB K00.out hb)
  clear K00
  have K3 := Lib.hid (keepB K01.out hb)
  clear K01
  have K4 := Lib.hid (keepB K02.out hb)
  clear K02
  have K5 := Lib.hid (keepB K03.out hb)
  clear K03
  have HB6 := Lib.hid (HB0.out.trans (hb.mono HB0.out.size))
  clear HB0
  clear hb
  have c7 := (cell_of_row _ _ 0 _ _ _ K2.out).trans (rfl : _ = some (.int .u32 1 : Value))
  have c8 := (cell_of_row _ _ 2 _ _ _ K2.out).trans (rfl : _ = some (.int .u32 at_ : Value))
  have c9 := (cell_of_row _ _ 3 _ _ _ K2.out).trans (rfl : _ = some (.int .u32 steps : Value))
  have c10 := (cell_of_row _ _ 5 _ _ _ K2.out).trans (rfl : _ = some (.bool false : Value))
  have f11 := fun j => frozen_of_row _ _ j _ _ K2.out
  go_upto_region 5 with fail
  clear c7 c8 c9 c10 f11
  have HR12 := HB6
  refine wp_region_held_drew (S := fun W => KX (fun k => k = w.heap.size + 1 + 1 ∨ k = w.heap.size + 1 + 1 + 1) (w1) W) (by kernel_rfl) ((KX.refl (fun k => k = w.heap.size + 1 + 1 ∨ k = w.heap.size + 1 + 1 + 1) _).drew) (fun hHeld => ?_)
  refine wpAnyH_take (i := 0) rfl (by kernel_rfl) (by kernel_rfl) (by kernel_rfl) (fun _ _ _ h => h) (yieldsIf_load_mid (by rfl) 24 _ rfl (w.heap.size) 0 rfl #[.int .u32 1, .int .u32 head, .int .u32 at_, .int .u32 steps, .int .u32 moved, .bool false, .int .u32 from_, .int .u32 to_, .int .u32 left, .int .u32 next, .bool asks].toList _ (fun W hSw => range_of_all (hSw.heap K2.out (by omega))) Tryd.underlying24 rfl ?hi0) (by assumption) ?rest0
  case hi0 => kernel_rfl
  simp only [Act.put, List.getElem_toArray, List.getElem_cons_zero, List.setIfInBounds_toArray, List.set_cons_zero, List.set_cons_succ]
  refine wpAnyH_take (i := 2) rfl (by kernel_rfl) (by kernel_rfl) (by kernel_rfl) (fun _ _ _ h => h) (yieldsIf_load_mid (by rfl) 30 _ rfl (w.heap.size + 1) 0 rfl #[.slice (some ⟨b1, 0, none⟩) (4096 * n) c1, .slice (some ⟨b2, 0, none⟩) n c2, .int .i64 q].toList _ (fun W hSw => range_of_all (hSw.heap K3.out (by omega))) Tryd.underlying30 rfl ?hi2) (by assumption) ?rest2
  case hi2 => kernel_rfl
  simp only [Act.put, List.getElem_toArray, List.getElem_cons_zero, List.getElem_cons_succ, List.setIfInBounds_toArray, List.set_cons_zero, List.set_cons_succ]
  refine wpAnyH_ready (rs := [1]) (by kernel_rfl) (by simp) ?_
  refine AllReadyH.cons (o := _) rfl (fun K hK => ?_) (AllReadyH.nil)
  simp only [List.getElem_toArray, List.getElem_cons_zero, List.getElem_cons_succ]
  go_simp
  refine (HF.out _).mono ?_
  rintro e w13 ⟨rfl, hb⟩
  refine hK.out _ _ (hHeld.trans (KX.of_below (X := (fun k => k = w.heap.size + 1 + 1 ∨ k = w.heap.size + 1 + 1 + 1)) hb) (fun _ _ h => h)) (fun hHeld14 => ?_)
  clear hK K
  have K15 := Lib.hid (keepB (a := (w1).drew) K2.out hb)
  have K16 := Lib.hid (keepB (a := (w1).drew) K3.out hb)
  have K17 := Lib.hid (keepB (a := (w1).drew) K4.out hb)
  have K18 := Lib.hid (keepB (a := (w1).drew) K5.out hb)
  have HB19 := Lib.hid ((HB6.out.drew).trans (hb.mono (HB6.out.drew).size))
  clear HB6
  clear hb
  have HO20 := Lib.hid (show (#[.int .u32 3, .int .u32 head, .int .u32 at_, .int .u32 steps, .int .u32 moved, .bool false, .int .u32 0, .int .u32 0, .int .u32 0, .int .u32 0, .bool true] : Array Value).all (·.oneCell') = true by simp [Value.oneCell'])
  have HO21 := Lib.hid (show (#[.slice (some ⟨b1, 0, none⟩) (4096 * n) c1, .slice (some ⟨b2, 0, none⟩) n c2, .int .i64 q] : Array Value).all (·.oneCell') = true by simp [Value.oneCell'])
  refine wpAnyH_ready (rs := [3]) (by kernel_rfl) (by simp) ?_
  refine AllReadyH.cons (o := _) rfl (fun K hK => ?_) (AllReadyH.nil)
  simp only [List.getElem_toArray, List.getElem_cons_zero, List.getElem_cons_succ]
  rw [if_pos (by rfl)]
  refine wp_store_row 24 _ _ rfl (w.heap.size + 1 + 1) #[.int .u32 3, .int .u32 head, .int .u32 at_, .int .u32 steps, .int .u32 moved, .bool false, .int .u32 0, .int .u32 0, .int .u32 0, .int .u32 0, .bool true] rfl rfl 24 #[.int .u32 0, .int .u32 0, .int .u32 0, .int .u32 0, .int .u32 0, .bool false, .int .u32 0, .int .u32 0, .int .u32 0, .int .u32 0, .bool false] K17.out (by kernel_rfl) rfl HO20.out ?_
  refine hK.out _ _ (hHeld14.setRow (.inl (by omega)) _) (fun hq1 => ?_)
  clear hK K
  try simp only [Act.put]
  have ka : ((w13).setRow (w.heap.size + 1 + 1) #[.int .u32 3, .int .u32 head, .int .u32 at_, .int .u32 steps, .int .u32 moved, .bool false, .int .u32 0, .int .u32 0, .int .u32 0, .int .u32 0, .bool true]).heap[w.heap.size + 1 + 1]? = some (.cells #[.int .u32 3, .int .u32 head, .int .u32 at_, .int .u32 steps, .int .u32 moved, .bool false, .int .u32 0, .int .u32 0, .int .u32 0, .int .u32 0, .bool true] 24 (0, 0)) := setRow_heap _ _ _ _ _ _ K17.out
  have kb : ((w13).setRow (w.heap.size + 1 + 1) #[.int .u32 3, .int .u32 head, .int .u32 at_, .int .u32 steps, .int .u32 moved, .bool false, .int .u32 0, .int .u32 0, .int .u32 0, .int .u32 0, .bool true]).heap[w.heap.size + 1 + 1 + 1]? = some (.cells #[.slice none 0 0, .slice none 0 0, .int .i64 0] 30 (0, 0)) := (heap_row_other (by omega)).trans K18.out
  generalize (w13).setRow (w.heap.size + 1 + 1) #[.int .u32 3, .int .u32 head, .int .u32 at_, .int .u32 steps, .int .u32 moved, .bool false, .int .u32 0, .int .u32 0, .int .u32 0, .int .u32 0, .bool true] = wq at ka kb hq1 ⊢
  refine wpAnyH_ready (rs := [4]) (by kernel_rfl) (by simp) ?_
  refine AllReadyH.cons (o := _) rfl (fun K hK => ?_) (AllReadyH.nil)
  simp only [List.getElem_toArray, List.getElem_cons_zero, List.getElem_cons_succ]
  rw [if_pos (by rfl)]
  refine wp_store_row 30 _ _ rfl (w.heap.size + 1 + 1 + 1) #[.slice (some ⟨b1, 0, none⟩) (4096 * n) c1, .slice (some ⟨b2, 0, none⟩) n c2, .int .i64 q] rfl rfl 30 #[.slice none 0 0, .slice none 0 0, .int .i64 0] kb (by kernel_rfl) rfl HO21.out ?_
  refine hK.out _ _ (hq1.setRow (.inl (by omega)) _) (fun hq2 => ?_)
  clear hK K
  try simp only [Act.put]
  have kc : (wq.setRow (w.heap.size + 1 + 1 + 1) #[.slice (some ⟨b1, 0, none⟩) (4096 * n) c1, .slice (some ⟨b2, 0, none⟩) n c2, .int .i64 q]).heap[w.heap.size + 1 + 1]? = some (.cells #[.int .u32 3, .int .u32 head, .int .u32 at_, .int .u32 steps, .int .u32 moved, .bool false, .int .u32 0, .int .u32 0, .int .u32 0, .int .u32 0, .bool true] 24 (0, 0)) := (heap_row_other (by omega)).trans ka
  have kd : (wq.setRow (w.heap.size + 1 + 1 + 1) #[.slice (some ⟨b1, 0, none⟩) (4096 * n) c1, .slice (some ⟨b2, 0, none⟩) n c2, .int .i64 q]).heap[w.heap.size + 1 + 1 + 1]? = some (.cells #[.slice (some ⟨b1, 0, none⟩) (4096 * n) c1, .slice (some ⟨b2, 0, none⟩) n c2, .int .i64 q] 30 (0, 0)) := setRow_heap _ _ _ _ _ _ kb
  generalize wq.setRow (w.heap.size + 1 + 1 + 1) #[.slice (some ⟨b1, 0, none⟩) (4096 * n) c1, .slice (some ⟨b2, 0, none⟩) n c2, .int .i64 q] = wz at kc kd hq2 ⊢
  clear ka kb hq1
  refine wpAnyH_done (by kernel_rfl) ?_ _
  have HBE := Lib.hid (HR12.out.trans (hq2.below (B := w.heap.size) (fun k hk e => by omega) HR12.out.size))
  go_wp2_with fail
  exact bodyPost_ret (v := .tuple #[.agg #[.int .u32 3, .int .u32 head, .int .u32 at_, .int .u32 steps, .int .u32 moved, .bool false, .int .u32 0, .int .u32 0, .int .u32 0, .int .u32 0, .bool true], .agg #[.slice (some ⟨b1, 0, none⟩) (4096 * n) c1, .slice (some ⟨b2, 0, none⟩) n c2, .int .i64 q]]) (results_two_cells Tryd.results12 _ _ (w.heap.size + 1 + 1) (w.heap.size + 1 + 1 + 1) 24 30 #[.int .u32 3, .int .u32 head, .int .u32 at_, .int .u32 steps, .int .u32 moved, .bool false, .int .u32 0, .int .u32 0, .int .u32 0, .int .u32 0, .bool true] #[.slice (some ⟨b1, 0, none⟩) (4096 * n) c1, .slice (some ⟨b2, 0, none⟩) n c2, .int .i64 q] (0, 0) (0, 0) _ _ rfl rfl kc kd Tryd.underlying24 rfl (by kernel_rfl) Tryd.underlying30 rfl (by kernel_rfl)) rfl ⟨rfl, HBE.out⟩

set_option maxRecDepth 100000 in
set_option maxHeartbeats 8000000 in
theorem r12_tk_fodd (head : Nat) (at_ : Nat) (steps : Nat) (moved : Nat) (from_ : Nat) (to_ : Nat) (left : Nat) (next : Nat) (asks : Bool) {b1 c1 b2 n c2 : Nat} {q : Int} (w : World) (hs : steps ≤ 63) (ha : at_ % 4 ≠ 0) (HF : Hid (∀ W, Calls Tryd.prog 55 #[.agg #[.int .u32 1, .int .u32 head, .int .u32 at_, .int .u32 steps, .int .u32 moved, .bool false, .int .u32 from_, .int .u32 to_, .int .u32 left, .int .u32 next, .bool asks]] W fun e w' => e = .returned (.agg #[.int .u32 3, .int .u32 head, .int .u32 at_, .int .u32 steps, .int .u32 moved, .bool false, .int .u32 0, .int .u32 0, .int .u32 0, .int .u32 0, .bool true]) ∧ Below W.heap.size W w')) (HC : Hid (∀ W, Calls Tryd.prog 41 #[.agg #[.int .u32 1, .int .u32 head, .int .u32 at_, .int .u32 steps, .int .u32 moved, .bool false, .int .u32 from_, .int .u32 to_, .int .u32 left, .int .u32 next, .bool asks]] W fun e w' => e = .returned (.int .i64 0) ∧ Below W.heap.size W w')) : Calls Tryd.prog 12 #[.agg #[.int .u32 1, .int .u32 head, .int .u32 at_, .int .u32 steps, .int .u32 moved, .bool false, .int .u32 from_, .int .u32 to_, .int .u32 left, .int .u32 next, .bool asks], .agg #[.slice (some ⟨b1, 0, none⟩) (4096 * n) c1, .slice (some ⟨b2, 0, none⟩) n c2, .int .i64 q]] w fun e w' => e = .returned (.tuple #[.agg #[.int .u32 3, .int .u32 head, .int .u32 at_, .int .u32 steps, .int .u32 moved, .bool false, .int .u32 0, .int .u32 0, .int .u32 0, .int .u32 0, .bool true], .agg #[.slice (some ⟨b1, 0, none⟩) (4096 * n) c1, .slice (some ⟨b2, 0, none⟩) n c2, .int .i64 q]]) ∧ Below w.heap.size w w' := by
  have e1 : decide ((63 : Int) < (steps : Int)) = false := decide_eq_false (by omega)
  have e2 : (((at_ : Int) % 4) != 0) = true := by simp; omega
  clear hs ha
  obtain ⟨k0, k1, k2, k3, hb0⟩ := four_new w (.cells #[.int .u32 1, .int .u32 head, .int .u32 at_, .int .u32 steps, .int .u32 moved, .bool false, .int .u32 from_, .int .u32 to_, .int .u32 left, .int .u32 next, .bool asks] 24) (.cells #[.slice (some ⟨b1, 0, none⟩) (4096 * n) c1, .slice (some ⟨b2, 0, none⟩) n c2, .int .i64 q] 30) (.cells #[.int .u32 0, .int .u32 0, .int .u32 0, .int .u32 0, .int .u32 0, .bool false, .int .u32 0, .int .u32 0, .int .u32 0, .int .u32 0, .bool false] 24) (.cells #[.slice none 0 0, .slice none 0 0, .int .i64 0] 30)
  have K00 := Lib.hid k0
  have K01 := Lib.hid k1
  have K02 := Lib.hid k2
  have K03 := Lib.hid k3
  have HB0 := Lib.hid hb0
  clear k0 k1 k2 k3 hb0
  go_enter Tryd.func12, Tryd.ntmps12
  go_wp2_with fail
  refine (HC.out _).mono ?_
  rintro e w1 ⟨rfl, hb⟩
  have K2 := Lib.hid (keepB K00.out hb)
  clear K00
  have K3 := Lib.hid (keepB K01.out hb)
  clear K01
  have K4 := Lib.hid (keepB K02.out hb)
  clear K02
  have K5 := Lib.hid (keepB K03.out hb)
  clear K03
  have HB6 := Lib.hid (HB0.out.trans (hb.mono HB0.out.size))
  clear HB0
  clear hb
  have c7 := (cell_of_row _ _ 0 _ _ _ K2.out).trans (rfl : _ = some (.int .u32 1 : Value))
  have c8 := (cell_of_row _ _ 2 _ _ _ K2.out).trans (rfl : _ = some (.int .u32 at_ : Value))
  have c9 := (cell_of_row _ _ 3 _ _ _ K2.out).trans (rfl : _ = some (.int .u32 steps : Value))
  have c10 := (cell_of_row _ _ 5 _ _ _ K2.out).trans (rfl : _ = some (.bool false : Value))
  have f11 := fun j => frozen_of_row _ _ j _ _ K2.out
  go_upto_region 5 with fail
  clear c7 c8 c9 c10 f11
  have HR12 := HB6
  refine wp_region_held_drew (S := fun W => KX (fun k => k = w.heap.size + 1 + 1 ∨ k = w.heap.size + 1 + 1 + 1) (w1) W) (by kernel_rfl) ((KX.refl (fun k => k = w.heap.size + 1 + 1 ∨ k = w.heap.size + 1 + 1 + 1) _).drew) (fun hHeld => ?_)
  refine wpAnyH_take (i := 0) rfl (by kernel_rfl) (by kernel_rfl) (by kernel_rfl) (fun _ _ _ h => h) (yieldsIf_load_mid (by rfl) 24 _ rfl (w.heap.size) 0 rfl #[.int .u32 1, .int .u32 head, .int .u32 at_, .int .u32 steps, .int .u32 moved, .bool false, .int .u32 from_, .int .u32 to_, .int .u32 left, .int .u32 next, .bool asks].toList _ (fun W hSw => range_of_all (hSw.heap K2.out (by omega))) Tryd.underlying24 rfl ?hi0) (by assumption) ?rest0
  case hi0 => kernel_rfl
  simp only [Act.put, List.getElem_toArray, List.getElem_cons_zero, List.setIfInBounds_toArray, List.set_cons_zero, List.set_cons_succ]
  refine wpAnyH_take (i := 2) rfl (by kernel_rfl) (by kernel_rfl) (by kernel_rfl) (fun _ _ _ h => h) (yieldsIf_load_mid (by rfl) 30 _ rfl (w.heap.size + 1) 0 rfl #[.slice (some ⟨b1, 0, none⟩) (4096 * n) c1, .slice (some ⟨b2, 0, none⟩) n c2, .int .i64 q].toList _ (fun W hSw => range_of_all (hSw.heap K3.out (by omega))) Tryd.underlying30 rfl ?hi2) (by assumption) ?rest2
  case hi2 => kernel_rfl
  simp only [Act.put, List.getElem_toArray, List.getElem_cons_zero, List.getElem_cons_succ, List.setIfInBounds_toArray, List.set_cons_zero, List.set_cons_succ]
  refine wpAnyH_ready (rs := [1]) (by kernel_rfl) (by simp) ?_
  refine AllReadyH.cons (o := _) rfl (fun K hK => ?_) (AllReadyH.nil)
  simp only [List.getElem_toArray, List.getElem_cons_zero, List.getElem_cons_succ]
  go_simp
  refine (HF.out _).mono ?_
  rintro e w13 ⟨rfl, hb⟩
  refine hK.out _ _ (hHeld.trans (KX.of_below (X := (fun k => k = w.heap.size + 1 + 1 ∨ k = w.heap.size + 1 + 1 + 1)) hb) (fun _ _ h => h)) (fun hHeld14 => ?_)
  clear hK K
  have K15 := Lib.hid (keepB (a := (w1).drew) K2.out hb)
  have K16 := Lib.hid (keepB (a := (w1).drew) K3.out hb)
  have K17 := Lib.hid (keepB (a := (w1).drew) K4.out hb)
  have K18 := Lib.hid (keepB (a := (w1).drew) K5.out hb)
  have HB19 := Lib.hid ((HB6.out.drew).trans (hb.mono (HB6.out.drew).size))
  clear HB6
  clear hb
  have HO20 := Lib.hid (show (#[.int .u32 3, .int .u32 head, .int .u32 at_, .int .u32 steps, .int .u32 moved, .bool false, .int .u32 0, .int .u32 0, .int .u32 0, .int .u32 0, .bool true] : Array Value).all (·.oneCell') = true by simp [Value.oneCell'])
  have HO21 := Lib.hid (show (#[.slice (some ⟨b1, 0, none⟩) (4096 * n) c1, .slice (some ⟨b2, 0, none⟩) n c2, .int .i64 q] : Array Value).all (·.oneCell') = true by simp [Value.oneCell'])
  refine wpAnyH_ready (rs := [3]) (by kernel_rfl) (by simp) ?_
  refine AllReadyH.cons (o := _) rfl (fun K hK => ?_) (AllReadyH.nil)
  simp only [List.getElem_toArray, List.getElem_cons_zero, List.getElem_cons_succ]
  rw [if_pos (by rfl)]
  refine wp_store_row 24 _ _ rfl (w.heap.size + 1 + 1) #[.int .u32 3, .int .u32 head, .int .u32 at_, .int .u32 steps, .int .u32 moved, .bool false, .int .u32 0, .int .u32 0, .int .u32 0, .int .u32 0, .bool true] rfl rfl 24 #[.int .u32 0, .int .u32 0, .int .u32 0, .int .u32 0, .int .u32 0, .bool false, .int .u32 0, .int .u32 0, .int .u32 0, .int .u32 0, .bool false] K17.out (by kernel_rfl) rfl HO20.out ?_
  refine hK.out _ _ (hHeld14.setRow (.inl (by omega)) _) (fun hq1 => ?_)
  clear hK K
  try simp only [Act.put]
  have ka : ((w13).setRow (w.heap.size + 1 + 1) #[.int .u32 3, .int .u32 head, .int .u32 at_, .int .u32 steps, .int .u32 moved, .bool false, .int .u32 0, .int .u32 0, .int .u32 0, .int .u32 0, .bool true]).heap[w.heap.size + 1 + 1]? = some (.cells #[.int .u32 3, .int .u32 head, .int .u32 at_, .int .u32 steps, .int .u32 moved, .bool false, .int .u32 0, .int .u32 0, .int .u32 0, .int .u32 0, .bool true] 24 (0, 0)) := setRow_heap _ _ _ _ _ _ K17.out
  have kb : ((w13).setRow (w.heap.size + 1 + 1) #[.int .u32 3, .int .u32 head, .int .u32 at_, .int .u32 steps, .int .u32 moved, .bool false, .int .u32 0, .int .u32 0, .int .u32 0, .int .u32 0, .bool true]).heap[w.heap.size + 1 + 1 + 1]? = some (.cells #[.slice none 0 0, .slice none 0 0, .int .i64 0] 30 (0, 0)) := (heap_row_other (by omega)).trans K18.out
  generalize (w13).setRow (w.heap.size + 1 + 1) #[.int .u32 3, .int .u32 head, .int .u32 at_, .int .u32 steps, .int .u32 moved, .bool false, .int .u32 0, .int .u32 0, .int .u32 0, .int .u32 0, .bool true] = wq at ka kb hq1 ⊢
  refine wpAnyH_ready (rs := [4]) (by kernel_rfl) (by simp) ?_
  refine AllReadyH.cons (o := _) rfl (fun K hK => ?_) (AllReadyH.nil)
  simp only [List.getElem_toArray, List.getElem_cons_zero, List.getElem_cons_succ]
  rw [if_pos (by rfl)]
  refine wp_store_row 30 _ _ rfl (w.heap.size + 1 + 1 + 1) #[.slice (some ⟨b1, 0, none⟩) (4096 * n) c1, .slice (some ⟨b2, 0, none⟩) n c2, .int .i64 q] rfl rfl 30 #[.slice none 0 0, .slice none 0 0, .int .i64 0] kb (by kernel_rfl) rfl HO21.out ?_
  refine hK.out _ _ (hq1.setRow (.inl (by omega)) _) (fun hq2 => ?_)
  clear hK K
  try simp only [Act.put]
  have kc : (wq.setRow (w.heap.size + 1 + 1 + 1) #[.slice (some ⟨b1, 0, none⟩) (4096 * n) c1, .slice (some ⟨b2, 0, none⟩) n c2, .int .i64 q]).heap[w.heap.size + 1 + 1]? = some (.cells #[.int .u32 3, .int .u32 head, .int .u32 at_, .int .u32 steps, .int .u32 moved, .bool false, .int .u32 0, .int .u32 0, .int .u32 0, .int .u32 0, .bool true] 24 (0, 0)) := (heap_row_other (by omega)).trans ka
  have kd : (wq.setRow (w.heap.size + 1 + 1 + 1) #[.slice (some ⟨b1, 0, none⟩) (4096 * n) c1, .slice (some ⟨b2, 0, none⟩) n c2, .int .i64 q]).heap[w.heap.size + 1 + 1 + 1]? = some (.cells #[.slice (some ⟨b1, 0, none⟩) (4096 * n) c1, .slice (some ⟨b2, 0, none⟩) n c2, .int .i64 q] 30 (0, 0)) := setRow_heap _ _ _ _ _ _ kb
  generalize wq.setRow (w.heap.size + 1 + 1 + 1) #[.slice (some ⟨b1, 0, none⟩) (4096 * n) c1, .slice (some ⟨b2, 0, none⟩) n c2, .int .i64 q] = wz at kc kd hq2 ⊢
  clear ka kb hq1
  refine wpAnyH_done (by kernel_rfl) ?_ _
  have HBE := Lib.hid (HR12.out.trans (hq2.below (B := w.heap.size) (fun k hk e => by omega) HR12.out.size))
  go_wp2_with fail
  exact bodyPost_ret (v := .tuple #[.agg #[.int .u32 3, .int .u32 head, .int .u32 at_, .int .u32 steps, .int .u32 moved, .bool false, .int .u32 0, .int .u32 0, .int .u32 0, .int .u32 0, .bool true], .agg #[.slice (some ⟨b1, 0, none⟩) (4096 * n) c1, .slice (some ⟨b2, 0, none⟩) n c2, .int .i64 q]]) (results_two_cells Tryd.results12 _ _ (w.heap.size + 1 + 1) (w.heap.size + 1 + 1 + 1) 24 30 #[.int .u32 3, .int .u32 head, .int .u32 at_, .int .u32 steps, .int .u32 moved, .bool false, .int .u32 0, .int .u32 0, .int .u32 0, .int .u32 0, .bool true] #[.slice (some ⟨b1, 0, none⟩) (4096 * n) c1, .slice (some ⟨b2, 0, none⟩) n c2, .int .i64 q] (0, 0) (0, 0) _ _ rfl rfl kc kd Tryd.underlying24 rfl (by kernel_rfl) Tryd.underlying30 rfl (by kernel_rfl)) rfl ⟨rfl, HBE.out⟩

set_option maxRecDepth 100000 in
set_option maxHeartbeats 8000000 in
theorem r12_tk_fno (head : Nat) (at_ : Nat) (steps : Nat) (moved : Nat) (from_ : Nat) (to_ : Nat) (left : Nat) (next : Nat) (asks : Bool) {b1 c1 b2 n c2 : Nat} {q : Int} (w : World) (hs : steps ≤ 63) (ha : at_ % 4 = 0) (HF : Hid (∀ W, Calls Tryd.prog 55 #[.agg #[.int .u32 1, .int .u32 head, .int .u32 at_, .int .u32 steps, .int .u32 moved, .bool false, .int .u32 from_, .int .u32 to_, .int .u32 left, .int .u32 next, .bool asks]] W fun e w' => e = .returned (.agg #[.int .u32 3, .int .u32 head, .int .u32 at_, .int .u32 steps, .int .u32 moved, .bool false, .int .u32 0, .int .u32 0, .int .u32 0, .int .u32 0, .bool true]) ∧ Below W.heap.size W w')) (HI : Hid (∀ W, Calls Tryd.prog 54 #[.agg #[.slice (some ⟨b1, 0, none⟩) (4096 * n) c1, .slice (some ⟨b2, 0, none⟩) n c2, .int .i64 q], .int .u32 at_, .int .u32 16] W fun e w' => e = .returned (.bool false) ∧ Below W.heap.size W w')) (HC : Hid (∀ W, Calls Tryd.prog 41 #[.agg #[.int .u32 1, .int .u32 head, .int .u32 at_, .int .u32 steps, .int .u32 moved, .bool false, .int .u32 from_, .int .u32 to_, .int .u32 left, .int .u32 next, .bool asks]] W fun e w' => e = .returned (.int .i64 0) ∧ Below W.heap.size W w')) : Calls Tryd.prog 12 #[.agg #[.int .u32 1, .int .u32 head, .int .u32 at_, .int .u32 steps, .int .u32 moved, .bool false, .int .u32 from_, .int .u32 to_, .int .u32 left, .int .u32 next, .bool asks], .agg #[.slice (some ⟨b1, 0, none⟩) (4096 * n) c1, .slice (some ⟨b2, 0, none⟩) n c2, .int .i64 q]] w fun e w' => e = .returned (.tuple #[.agg #[.int .u32 3, .int .u32 head, .int .u32 at_, .int .u32 steps, .int .u32 moved, .bool false, .int .u32 0, .int .u32 0, .int .u32 0, .int .u32 0, .bool true], .agg #[.slice (some ⟨b1, 0, none⟩) (4096 * n) c1, .slice (some ⟨b2, 0, none⟩) n c2, .int .i64 q]]) ∧ Below w.heap.size w w' := by
  have e1 : decide ((63 : Int) < (steps : Int)) = false := decide_eq_false (by omega)
  have e2 : (((at_ : Int) % 4) != 0) = false := by simp; omega
  clear hs ha
  obtain ⟨k0, k1, k2, k3, hb0⟩ := four_new w (.cells #[.int .u32 1, .int .u32 head, .int .u32 at_, .int .u32 steps, .int .u32 moved, .bool false, .int .u32 from_, .int .u32 to_, .int .u32 left, .int .u32 next, .bool asks] 24) (.cells #[.slice (some ⟨b1, 0, none⟩) (4096 * n) c1, .slice (some ⟨b2, 0, none⟩) n c2, .int .i64 q] 30) (.cells #[.int .u32 0, .int .u32 0, .int .u32 0, .int .u32 0, .int .u32 0, .bool false, .int .u32 0, .int .u32 0, .int .u32 0, .int .u32 0, .bool false] 24) (.cells #[.slice none 0 0, .slice none 0 0, .int .i64 0] 30)
  have K00 := Lib.hid k0
  have K01 := Lib.hid k1
  have K02 := Lib.hid k2
  have K03 := Lib.hid k3
  have HB0 := Lib.hid hb0
  clear k0 k1 k2 k3 hb0
  go_enter Tryd.func12, Tryd.ntmps12
  go_wp2_with fail
  refine (HC.out _).mono ?_
  rintro e w1 ⟨rfl, hb⟩
  have K2 := Lib.hid (keepB K00.out hb)
  clear K00
  have K3 := Lib.hid (keepB K01.out hb)
  clear K01
  have K4 := Lib.hid (keepB K02.out hb)
  clear K02
  have K5 := Lib.hid (keepB K03.out hb)
  clear K03
  have HB6 := Lib.hid (HB0.out.trans (hb.mono HB0.out.size))
  clear HB0
  clear hb
  have c7 := (cell_of_row _ _ 0 _ _ _ K2.out).trans (rfl : _ = some (.int .u32 1 : Value))
  have c8 := (cell_of_row _ _ 2 _ _ _ K2.out).trans (rfl : _ = some (.int .u32 at_ : Value))
  have c9 := (cell_of_row _ _ 3 _ _ _ K2.out).trans (rfl : _ = some (.int .u32 steps : Value))
  have c10 := (cell_of_row _ _ 5 _ _ _ K2.out).trans (rfl : _ = some (.bool false : Value))
  have f11 := fun j => frozen_of_row _ _ j _ _ K2.out
  go_wp2_with (first | go_skip | (refine load_rowH ?hw 30 _ rfl (w.heap.size + 1) rfl 30 #[.slice (some ⟨b1, 0, none⟩) (4096 * n) c1, .slice (some ⟨b2, 0, none⟩) n c2, .int .i64 q] (0, 0) _ K3.out Tryd.underlying30 rfl (by kernel_rfl) ?_; case hw => kernel_rfl))
  clear c7 c8 c9 c10 f11
  refine (HI.out _).mono ?_
  rintro e wI ⟨rfl, hb⟩
  have K12 := Lib.hid (keepB K2.out hb)
  clear K2
  have K13 := Lib.hid (keepB K3.out hb)
  clear K3
  have K14 := Lib.hid (keepB K4.out hb)
  clear K4
  have K15 := Lib.hid (keepB K5.out hb)
  clear K5
  have HB16 := Lib.hid (HB6.out.trans (hb.mono HB6.out.size))
  clear HB6
  clear hb
  have c17 := (cell_of_row _ _ 0 _ _ _ K12.out).trans (rfl : _ = some (.int .u32 1 : Value))
  have c18 := (cell_of_row _ _ 2 _ _ _ K12.out).trans (rfl : _ = some (.int .u32 at_ : Value))
  have c19 := (cell_of_row _ _ 3 _ _ _ K12.out).trans (rfl : _ = some (.int .u32 steps : Value))
  have c20 := (cell_of_row _ _ 5 _ _ _ K12.out).trans (rfl : _ = some (.bool false : Value))
  have f21 := fun j => frozen_of_row _ _ j _ _ K12.out
  go_upto_region 5 with fail
  clear c17 c18 c19 c20 f21
  have HR22 := HB16
  refine wp_region_held_drew (S := fun W => KX (fun k => k = w.heap.size + 1 + 1 ∨ k = w.heap.size + 1 + 1 + 1) (wI) W) (by kernel_rfl) ((KX.refl (fun k => k = w.heap.size + 1 + 1 ∨ k = w.heap.size + 1 + 1 + 1) _).drew) (fun hHeld => ?_)
  refine wpAnyH_take (i := 0) rfl (by kernel_rfl) (by kernel_rfl) (by kernel_rfl) (fun _ _ _ h => h) (yieldsIf_load_mid (by rfl) 24 _ rfl (w.heap.size) 0 rfl #[.int .u32 1, .int .u32 head, .int .u32 at_, .int .u32 steps, .int .u32 moved, .bool false, .int .u32 from_, .int .u32 to_, .int .u32 left, .int .u32 next, .bool asks].toList _ (fun W hSw => range_of_all (hSw.heap K12.out (by omega))) Tryd.underlying24 rfl ?hi0) (by assumption) ?rest0
  case hi0 => kernel_rfl
  simp only [Act.put, List.getElem_toArray, List.getElem_cons_zero, List.setIfInBounds_toArray, List.set_cons_zero, List.set_cons_succ]
  refine wpAnyH_take (i := 2) rfl (by kernel_rfl) (by kernel_rfl) (by kernel_rfl) (fun _ _ _ h => h) (yieldsIf_load_mid (by rfl) 30 _ rfl (w.heap.size + 1) 0 rfl #[.slice (some ⟨b1, 0, none⟩) (4096 * n) c1, .slice (some ⟨b2, 0, none⟩) n c2, .int .i64 q].toList _ (fun W hSw => range_of_all (hSw.heap K13.out (by omega))) Tryd.underlying30 rfl ?hi2) (by assumption) ?rest2
  case hi2 => kernel_rfl
  simp only [Act.put, List.getElem_toArray, List.getElem_cons_zero, List.getElem_cons_succ, List.setIfInBounds_toArray, List.set_cons_zero, List.set_cons_succ]
  refine wpAnyH_ready (rs := [1]) (by kernel_rfl) (by simp) ?_
  refine AllReadyH.cons (o := _) rfl (fun K hK => ?_) (AllReadyH.nil)
  simp only [List.getElem_toArray, List.getElem_cons_zero, List.getElem_cons_succ]
  go_simp
  refine (HF.out _).mono ?_
  rintro e w23 ⟨rfl, hb⟩
  refine hK.out _ _ (hHeld.trans (KX.of_below (X := (fun k => k = w.heap.size + 1 + 1 ∨ k = w.heap.size + 1 + 1 + 1)) hb) (fun _ _ h => h)) (fun hHeld24 => ?_)
  clear hK K
  have K25 := Lib.hid (keepB (a := (wI).drew) K12.out hb)
  have K26 := Lib.hid (keepB (a := (wI).drew) K13.out hb)
  have K27 := Lib.hid (keepB (a := (wI).drew) K14.out hb)
  have K28 := Lib.hid (keepB (a := (wI).drew) K15.out hb)
  have HB29 := Lib.hid ((HB16.out.drew).trans (hb.mono (HB16.out.drew).size))
  clear HB16
  clear hb
  have HO30 := Lib.hid (show (#[.int .u32 3, .int .u32 head, .int .u32 at_, .int .u32 steps, .int .u32 moved, .bool false, .int .u32 0, .int .u32 0, .int .u32 0, .int .u32 0, .bool true] : Array Value).all (·.oneCell') = true by simp [Value.oneCell'])
  have HO31 := Lib.hid (show (#[.slice (some ⟨b1, 0, none⟩) (4096 * n) c1, .slice (some ⟨b2, 0, none⟩) n c2, .int .i64 q] : Array Value).all (·.oneCell') = true by simp [Value.oneCell'])
  refine wpAnyH_ready (rs := [3]) (by kernel_rfl) (by simp) ?_
  refine AllReadyH.cons (o := _) rfl (fun K hK => ?_) (AllReadyH.nil)
  simp only [List.getElem_toArray, List.getElem_cons_zero, List.getElem_cons_succ]
  rw [if_pos (by rfl)]
  refine wp_store_row 24 _ _ rfl (w.heap.size + 1 + 1) #[.int .u32 3, .int .u32 head, .int .u32 at_, .int .u32 steps, .int .u32 moved, .bool false, .int .u32 0, .int .u32 0, .int .u32 0, .int .u32 0, .bool true] rfl rfl 24 #[.int .u32 0, .int .u32 0, .int .u32 0, .int .u32 0, .int .u32 0, .bool false, .int .u32 0, .int .u32 0, .int .u32 0, .int .u32 0, .bool false] K27.out (by kernel_rfl) rfl HO30.out ?_
  refine hK.out _ _ (hHeld24.setRow (.inl (by omega)) _) (fun hq1 => ?_)
  clear hK K
  try simp only [Act.put]
  have ka : ((w23).setRow (w.heap.size + 1 + 1) #[.int .u32 3, .int .u32 head, .int .u32 at_, .int .u32 steps, .int .u32 moved, .bool false, .int .u32 0, .int .u32 0, .int .u32 0, .int .u32 0, .bool true]).heap[w.heap.size + 1 + 1]? = some (.cells #[.int .u32 3, .int .u32 head, .int .u32 at_, .int .u32 steps, .int .u32 moved, .bool false, .int .u32 0, .int .u32 0, .int .u32 0, .int .u32 0, .bool true] 24 (0, 0)) := setRow_heap _ _ _ _ _ _ K27.out
  have kb : ((w23).setRow (w.heap.size + 1 + 1) #[.int .u32 3, .int .u32 head, .int .u32 at_, .int .u32 steps, .int .u32 moved, .bool false, .int .u32 0, .int .u32 0, .int .u32 0, .int .u32 0, .bool true]).heap[w.heap.size + 1 + 1 + 1]? = some (.cells #[.slice none 0 0, .slice none 0 0, .int .i64 0] 30 (0, 0)) := (heap_row_other (by omega)).trans K28.out
  generalize (w23).setRow (w.heap.size + 1 + 1) #[.int .u32 3, .int .u32 head, .int .u32 at_, .int .u32 steps, .int .u32 moved, .bool false, .int .u32 0, .int .u32 0, .int .u32 0, .int .u32 0, .bool true] = wq at ka kb hq1 ⊢
  refine wpAnyH_ready (rs := [4]) (by kernel_rfl) (by simp) ?_
  refine AllReadyH.cons (o := _) rfl (fun K hK => ?_) (AllReadyH.nil)
  simp only [List.getElem_toArray, List.getElem_cons_zero, List.getElem_cons_succ]
  rw [if_pos (by rfl)]
  refine wp_store_row 30 _ _ rfl (w.heap.size + 1 + 1 + 1) #[.slice (some ⟨b1, 0, none⟩) (4096 * n) c1, .slice (some ⟨b2, 0, none⟩) n c2, .int .i64 q] rfl rfl 30 #[.slice none 0 0, .slice none 0 0, .int .i64 0] kb (by kernel_rfl) rfl HO31.out ?_
  refine hK.out _ _ (hq1.setRow (.inl (by omega)) _) (fun hq2 => ?_)
  clear hK K
  try simp only [Act.put]
  have kc : (wq.setRow (w.heap.size + 1 + 1 + 1) #[.slice (some ⟨b1, 0, none⟩) (4096 * n) c1, .slice (some ⟨b2, 0, none⟩) n c2, .int .i64 q]).heap[w.heap.size + 1 + 1]? = some (.cells #[.int .u32 3, .int .u32 head, .int .u32 at_, .int .u32 steps, .int .u32 moved, .bool false, .int .u32 0, .int .u32 0, .int .u32 0, .int .u32 0, .bool true] 24 (0, 0)) := (heap_row_other (by omega)).trans ka
  have kd : (wq.setRow (w.heap.size + 1 + 1 + 1) #[.slice (some ⟨b1, 0, none⟩) (4096 * n) c1, .slice (some ⟨b2, 0, none⟩) n c2, .int .i64 q]).heap[w.heap.size + 1 + 1 + 1]? = some (.cells #[.slice (some ⟨b1, 0, none⟩) (4096 * n) c1, .slice (some ⟨b2, 0, none⟩) n c2, .int .i64 q] 30 (0, 0)) := setRow_heap _ _ _ _ _ _ kb
  generalize wq.setRow (w.heap.size + 1 + 1 + 1) #[.slice (some ⟨b1, 0, none⟩) (4096 * n) c1, .slice (some ⟨b2, 0, none⟩) n c2, .int .i64 q] = wz at kc kd hq2 ⊢
  clear ka kb hq1
  refine wpAnyH_done (by kernel_rfl) ?_ _
  have HBE := Lib.hid (HR22.out.trans (hq2.below (B := w.heap.size) (fun k hk e => by omega) HR22.out.size))
  go_wp2_with fail
  exact bodyPost_ret (v := .tuple #[.agg #[.int .u32 3, .int .u32 head, .int .u32 at_, .int .u32 steps, .int .u32 moved, .bool false, .int .u32 0, .int .u32 0, .int .u32 0, .int .u32 0, .bool true], .agg #[.slice (some ⟨b1, 0, none⟩) (4096 * n) c1, .slice (some ⟨b2, 0, none⟩) n c2, .int .i64 q]]) (results_two_cells Tryd.results12 _ _ (w.heap.size + 1 + 1) (w.heap.size + 1 + 1 + 1) 24 30 #[.int .u32 3, .int .u32 head, .int .u32 at_, .int .u32 steps, .int .u32 moved, .bool false, .int .u32 0, .int .u32 0, .int .u32 0, .int .u32 0, .bool true] #[.slice (some ⟨b1, 0, none⟩) (4096 * n) c1, .slice (some ⟨b2, 0, none⟩) n c2, .int .i64 q] (0, 0) (0, 0) _ _ rfl rfl kc kd Tryd.underlying24 rfl (by kernel_rfl) Tryd.underlying30 rfl (by kernel_rfl)) rfl ⟨rfl, HBE.out⟩

set_option maxRecDepth 100000 in
set_option maxHeartbeats 8000000 in
theorem r12_tk_mb1 (head : Nat) (at_ : Nat) (steps : Nat) (moved : Nat) (from_ : Nat) (to_ : Nat) (left : Nat) (next : Nat) (asks : Bool) {b1 c1 b2 n c2 : Nat} {q : Int} (w : World) (hl : 64 < left) (HF : Hid (∀ W, Calls Tryd.prog 55 #[.agg #[.int .u32 1, .int .u32 head, .int .u32 at_, .int .u32 steps, .int .u32 moved, .bool true, .int .u32 from_, .int .u32 to_, .int .u32 left, .int .u32 next, .bool asks]] W fun e w' => e = .returned (.agg #[.int .u32 3, .int .u32 head, .int .u32 at_, .int .u32 steps, .int .u32 moved, .bool false, .int .u32 0, .int .u32 0, .int .u32 0, .int .u32 0, .bool true]) ∧ Below W.heap.size W w')) (HI : Hid (∀ W, Calls Tryd.prog 54 #[.agg #[.slice (some ⟨b1, 0, none⟩) (4096 * n) c1, .slice (some ⟨b2, 0, none⟩) n c2, .int .i64 q], .int .u32 from_, .int .u32 64] W fun e w' => e = .returned (.bool false) ∧ Below W.heap.size W w')) (HC : Hid (∀ W, Calls Tryd.prog 41 #[.agg #[.int .u32 1, .int .u32 head, .int .u32 at_, .int .u32 steps, .int .u32 moved, .bool true, .int .u32 from_, .int .u32 to_, .int .u32 left, .int .u32 next, .bool asks]] W fun e w' => e = .returned (.int .i64 0) ∧ Below W.heap.size W w')) : Calls Tryd.prog 12 #[.agg #[.int .u32 1, .int .u32 head, .int .u32 at_, .int .u32 steps, .int .u32 moved, .bool true, .int .u32 from_, .int .u32 to_, .int .u32 left, .int .u32 next, .bool asks], .agg #[.slice (some ⟨b1, 0, none⟩) (4096 * n) c1, .slice (some ⟨b2, 0, none⟩) n c2, .int .i64 q]] w fun e w' => e = .returned (.tuple #[.agg #[.int .u32 3, .int .u32 head, .int .u32 at_, .int .u32 steps, .int .u32 moved, .bool false, .int .u32 0, .int .u32 0, .int .u32 0, .int .u32 0, .bool true], .agg #[.slice (some ⟨b1, 0, none⟩) (4096 * n) c1, .slice (some ⟨b2, 0, none⟩) n c2, .int .i64 q]]) ∧ Below w.heap.size w w' := by
  have hli : (64 : Int) < (left : Int) := by omega
  clear hl
  obtain ⟨k0, k1, k2, k3, hb0⟩ := four_new w (.cells #[.int .u32 1, .int .u32 head, .int .u32 at_, .int .u32 steps, .int .u32 moved, .bool true, .int .u32 from_, .int .u32 to_, .int .u32 left, .int .u32 next, .bool asks] 24) (.cells #[.slice (some ⟨b1, 0, none⟩) (4096 * n) c1, .slice (some ⟨b2, 0, none⟩) n c2, .int .i64 q] 30) (.cells #[.int .u32 0, .int .u32 0, .int .u32 0, .int .u32 0, .int .u32 0, .bool false, .int .u32 0, .int .u32 0, .int .u32 0, .int .u32 0, .bool false] 24) (.cells #[.slice none 0 0, .slice none 0 0, .int .i64 0] 30)
  have K00 := Lib.hid k0
  have K01 := Lib.hid k1
  have K02 := Lib.hid k2
  have K03 := Lib.hid k3
  have HB0 := Lib.hid hb0
  clear k0 k1 k2 k3 hb0
  go_enter Tryd.func12, Tryd.ntmps12
  go_wp2_with fail
  refine (HC.out _).mono ?_
  rintro e w1 ⟨rfl, hb⟩
  have K2 := Lib.hid (keepB K00.out hb)
  clear K00
  have K3 := Lib.hid (keepB K01.out hb)
  clear K01
  have K4 := Lib.hid (keepB K02.out hb)
  clear K02
  have K5 := Lib.hid (keepB K03.out hb)
  clear K03
  have HB6 := Lib.hid (HB0.out.trans (hb.mono HB0.out.size))
  clear HB0
  clear hb
  have c7 := (cell_of_row _ _ 0 _ _ _ K2.out).trans (rfl : _ = some (.int .u32 1 : Value))
  have c8 := (cell_of_row _ _ 5 _ _ _ K2.out).trans (rfl : _ = some (.bool true : Value))
  have c9 := (cell_of_row _ _ 6 _ _ _ K2.out).trans (rfl : _ = some (.int .u32 from_ : Value))
  have c10 := (cell_of_row _ _ 7 _ _ _ K2.out).trans (rfl : _ = some (.int .u32 to_ : Value))
  have c11 := (cell_of_row _ _ 8 _ _ _ K2.out).trans (rfl : _ = some (.int .u32 left : Value))
  have f12 := fun j => frozen_of_row _ _ j _ _ K2.out
  go_wp2_with (first | go_skip | (refine load_rowH ?hw 30 _ rfl (w.heap.size + 1) rfl 30 #[.slice (some ⟨b1, 0, none⟩) (4096 * n) c1, .slice (some ⟨b2, 0, none⟩) n c2, .int .i64 q] (0, 0) _ K3.out Tryd.underlying30 rfl (by kernel_rfl) ?_; case hw => kernel_rfl))
  clear c7 c8 c9 c10 c11 f12
  refine (HI.out _).mono ?_
  rintro e wI ⟨rfl, hb⟩
  have K13 := Lib.hid (keepB K2.out hb)
  clear K2
  have K14 := Lib.hid (keepB K3.out hb)
  clear K3
  have K15 := Lib.hid (keepB K4.out hb)
  clear K4
  have K16 := Lib.hid (keepB K5.out hb)
  clear K5
  have HB17 := Lib.hid (HB6.out.trans (hb.mono HB6.out.size))
  clear HB6
  clear hb
  have c18 := (cell_of_row _ _ 0 _ _ _ K13.out).trans (rfl : _ = some (.int .u32 1 : Value))
  have c19 := (cell_of_row _ _ 5 _ _ _ K13.out).trans (rfl : _ = some (.bool true : Value))
  have c20 := (cell_of_row _ _ 6 _ _ _ K13.out).trans (rfl : _ = some (.int .u32 from_ : Value))
  have c21 := (cell_of_row _ _ 7 _ _ _ K13.out).trans (rfl : _ = some (.int .u32 to_ : Value))
  have c22 := (cell_of_row _ _ 8 _ _ _ K13.out).trans (rfl : _ = some (.int .u32 left : Value))
  have f23 := fun j => frozen_of_row _ _ j _ _ K13.out
  go_upto_region 18 with fail
  clear c18 c19 c20 c21 c22 f23
  have HR24 := HB17
  refine wp_region_held_drew (S := fun W => KX (fun k => k = w.heap.size + 1 + 1 ∨ k = w.heap.size + 1 + 1 + 1) (wI) W) (by kernel_rfl) ((KX.refl (fun k => k = w.heap.size + 1 + 1 ∨ k = w.heap.size + 1 + 1 + 1) _).drew) (fun hHeld => ?_)
  refine wpAnyH_take (i := 0) rfl (by kernel_rfl) (by kernel_rfl) (by kernel_rfl) (fun _ _ _ h => h) (yieldsIf_load_mid (by rfl) 24 _ rfl (w.heap.size) 0 rfl #[.int .u32 1, .int .u32 head, .int .u32 at_, .int .u32 steps, .int .u32 moved, .bool true, .int .u32 from_, .int .u32 to_, .int .u32 left, .int .u32 next, .bool asks].toList _ (fun W hSw => range_of_all (hSw.heap K13.out (by omega))) Tryd.underlying24 rfl ?hi0) (by assumption) ?rest0
  case hi0 => kernel_rfl
  simp only [Act.put, List.getElem_toArray, List.getElem_cons_zero, List.setIfInBounds_toArray, List.set_cons_zero, List.set_cons_succ]
  refine wpAnyH_take (i := 2) rfl (by kernel_rfl) (by kernel_rfl) (by kernel_rfl) (fun _ _ _ h => h) (yieldsIf_load_mid (by rfl) 30 _ rfl (w.heap.size + 1) 0 rfl #[.slice (some ⟨b1, 0, none⟩) (4096 * n) c1, .slice (some ⟨b2, 0, none⟩) n c2, .int .i64 q].toList _ (fun W hSw => range_of_all (hSw.heap K14.out (by omega))) Tryd.underlying30 rfl ?hi2) (by assumption) ?rest2
  case hi2 => kernel_rfl
  simp only [Act.put, List.getElem_toArray, List.getElem_cons_zero, List.getElem_cons_succ, List.setIfInBounds_toArray, List.set_cons_zero, List.set_cons_succ]
  refine wpAnyH_ready (rs := [1]) (by kernel_rfl) (by simp) ?_
  refine AllReadyH.cons (o := _) rfl (fun K hK => ?_) (AllReadyH.nil)
  simp only [List.getElem_toArray, List.getElem_cons_zero, List.getElem_cons_succ]
  go_simp
  refine (HF.out _).mono ?_
  rintro e w25 ⟨rfl, hb⟩
  refine hK.out _ _ (hHeld.trans (KX.of_below (X := (fun k => k = w.heap.size + 1 + 1 ∨ k = w.heap.size + 1 + 1 + 1)) hb) (fun _ _ h => h)) (fun hHeld26 => ?_)
  clear hK K
  have K27 := Lib.hid (keepB (a := (wI).drew) K13.out hb)
  have K28 := Lib.hid (keepB (a := (wI).drew) K14.out hb)
  have K29 := Lib.hid (keepB (a := (wI).drew) K15.out hb)
  have K30 := Lib.hid (keepB (a := (wI).drew) K16.out hb)
  have HB31 := Lib.hid ((HB17.out.drew).trans (hb.mono (HB17.out.drew).size))
  clear HB17
  clear hb
  have HO32 := Lib.hid (show (#[.int .u32 3, .int .u32 head, .int .u32 at_, .int .u32 steps, .int .u32 moved, .bool false, .int .u32 0, .int .u32 0, .int .u32 0, .int .u32 0, .bool true] : Array Value).all (·.oneCell') = true by simp [Value.oneCell'])
  have HO33 := Lib.hid (show (#[.slice (some ⟨b1, 0, none⟩) (4096 * n) c1, .slice (some ⟨b2, 0, none⟩) n c2, .int .i64 q] : Array Value).all (·.oneCell') = true by simp [Value.oneCell'])
  refine wpAnyH_ready (rs := [3]) (by kernel_rfl) (by simp) ?_
  refine AllReadyH.cons (o := _) rfl (fun K hK => ?_) (AllReadyH.nil)
  simp only [List.getElem_toArray, List.getElem_cons_zero, List.getElem_cons_succ]
  rw [if_pos (by rfl)]
  refine wp_store_row 24 _ _ rfl (w.heap.size + 1 + 1) #[.int .u32 3, .int .u32 head, .int .u32 at_, .int .u32 steps, .int .u32 moved, .bool false, .int .u32 0, .int .u32 0, .int .u32 0, .int .u32 0, .bool true] rfl rfl 24 #[.int .u32 0, .int .u32 0, .int .u32 0, .int .u32 0, .int .u32 0, .bool false, .int .u32 0, .int .u32 0, .int .u32 0, .int .u32 0, .bool false] K29.out (by kernel_rfl) rfl HO32.out ?_
  refine hK.out _ _ (hHeld26.setRow (.inl (by omega)) _) (fun hq1 => ?_)
  clear hK K
  try simp only [Act.put]
  have ka : ((w25).setRow (w.heap.size + 1 + 1) #[.int .u32 3, .int .u32 head, .int .u32 at_, .int .u32 steps, .int .u32 moved, .bool false, .int .u32 0, .int .u32 0, .int .u32 0, .int .u32 0, .bool true]).heap[w.heap.size + 1 + 1]? = some (.cells #[.int .u32 3, .int .u32 head, .int .u32 at_, .int .u32 steps, .int .u32 moved, .bool false, .int .u32 0, .int .u32 0, .int .u32 0, .int .u32 0, .bool true] 24 (0, 0)) := setRow_heap _ _ _ _ _ _ K29.out
  have kb : ((w25).setRow (w.heap.size + 1 + 1) #[.int .u32 3, .int .u32 head, .int .u32 at_, .int .u32 steps, .int .u32 moved, .bool false, .int .u32 0, .int .u32 0, .int .u32 0, .int .u32 0, .bool true]).heap[w.heap.size + 1 + 1 + 1]? = some (.cells #[.slice none 0 0, .slice none 0 0, .int .i64 0] 30 (0, 0)) := (heap_row_other (by omega)).trans K30.out
  generalize (w25).setRow (w.heap.size + 1 + 1) #[.int .u32 3, .int .u32 head, .int .u32 at_, .int .u32 steps, .int .u32 moved, .bool false, .int .u32 0, .int .u32 0, .int .u32 0, .int .u32 0, .bool true] = wq at ka kb hq1 ⊢
  refine wpAnyH_ready (rs := [4]) (by kernel_rfl) (by simp) ?_
  refine AllReadyH.cons (o := _) rfl (fun K hK => ?_) (AllReadyH.nil)
  simp only [List.getElem_toArray, List.getElem_cons_zero, List.getElem_cons_succ]
  rw [if_pos (by rfl)]
  refine wp_store_row 30 _ _ rfl (w.heap.size + 1 + 1 + 1) #[.slice (some ⟨b1, 0, none⟩) (4096 * n) c1, .slice (some ⟨b2, 0, none⟩) n c2, .int .i64 q] rfl rfl 30 #[.slice none 0 0, .slice none 0 0, .int .i64 0] kb (by kernel_rfl) rfl HO33.out ?_
  refine hK.out _ _ (hq1.setRow (.inl (by omega)) _) (fun hq2 => ?_)
  clear hK K
  try simp only [Act.put]
  have kc : (wq.setRow (w.heap.size + 1 + 1 + 1) #[.slice (some ⟨b1, 0, none⟩) (4096 * n) c1, .slice (some ⟨b2, 0, none⟩) n c2, .int .i64 q]).heap[w.heap.size + 1 + 1]? = some (.cells #[.int .u32 3, .int .u32 head, .int .u32 at_, .int .u32 steps, .int .u32 moved, .bool false, .int .u32 0, .int .u32 0, .int .u32 0, .int .u32 0, .bool true] 24 (0, 0)) := (heap_row_other (by omega)).trans ka
  have kd : (wq.setRow (w.heap.size + 1 + 1 + 1) #[.slice (some ⟨b1, 0, none⟩) (4096 * n) c1, .slice (some ⟨b2, 0, none⟩) n c2, .int .i64 q]).heap[w.heap.size + 1 + 1 + 1]? = some (.cells #[.slice (some ⟨b1, 0, none⟩) (4096 * n) c1, .slice (some ⟨b2, 0, none⟩) n c2, .int .i64 q] 30 (0, 0)) := setRow_heap _ _ _ _ _ _ kb
  generalize wq.setRow (w.heap.size + 1 + 1 + 1) #[.slice (some ⟨b1, 0, none⟩) (4096 * n) c1, .slice (some ⟨b2, 0, none⟩) n c2, .int .i64 q] = wz at kc kd hq2 ⊢
  clear ka kb hq1
  refine wpAnyH_done (by kernel_rfl) ?_ _
  have HBE := Lib.hid (HR24.out.trans (hq2.below (B := w.heap.size) (fun k hk e => by omega) HR24.out.size))
  go_wp2_with fail
  exact bodyPost_ret (v := .tuple #[.agg #[.int .u32 3, .int .u32 head, .int .u32 at_, .int .u32 steps, .int .u32 moved, .bool false, .int .u32 0, .int .u32 0, .int .u32 0, .int .u32 0, .bool true], .agg #[.slice (some ⟨b1, 0, none⟩) (4096 * n) c1, .slice (some ⟨b2, 0, none⟩) n c2, .int .i64 q]]) (results_two_cells Tryd.results12 _ _ (w.heap.size + 1 + 1) (w.heap.size + 1 + 1 + 1) 24 30 #[.int .u32 3, .int .u32 head, .int .u32 at_, .int .u32 steps, .int .u32 moved, .bool false, .int .u32 0, .int .u32 0, .int .u32 0, .int .u32 0, .bool true] #[.slice (some ⟨b1, 0, none⟩) (4096 * n) c1, .slice (some ⟨b2, 0, none⟩) n c2, .int .i64 q] (0, 0) (0, 0) _ _ rfl rfl kc kd Tryd.underlying24 rfl (by kernel_rfl) Tryd.underlying30 rfl (by kernel_rfl)) rfl ⟨rfl, HBE.out⟩

set_option maxRecDepth 100000 in
set_option maxHeartbeats 8000000 in
theorem r12_tk_mb2 (head : Nat) (at_ : Nat) (steps : Nat) (moved : Nat) (from_ : Nat) (to_ : Nat) (left : Nat) (next : Nat) (asks : Bool) {b1 c1 b2 n c2 : Nat} {q : Int} (w : World) (hl : 64 < left) (HF : Hid (∀ W, Calls Tryd.prog 55 #[.agg #[.int .u32 1, .int .u32 head, .int .u32 at_, .int .u32 steps, .int .u32 moved, .bool true, .int .u32 from_, .int .u32 to_, .int .u32 left, .int .u32 next, .bool asks]] W fun e w' => e = .returned (.agg #[.int .u32 3, .int .u32 head, .int .u32 at_, .int .u32 steps, .int .u32 moved, .bool false, .int .u32 0, .int .u32 0, .int .u32 0, .int .u32 0, .bool true]) ∧ Below W.heap.size W w')) (HI : Hid (∀ W, Calls Tryd.prog 54 #[.agg #[.slice (some ⟨b1, 0, none⟩) (4096 * n) c1, .slice (some ⟨b2, 0, none⟩) n c2, .int .i64 q], .int .u32 from_, .int .u32 64] W fun e w' => e = .returned (.bool true) ∧ Below W.heap.size W w')) (HJ : Hid (∀ W, Calls Tryd.prog 54 #[.agg #[.slice (some ⟨b1, 0, none⟩) (4096 * n) c1, .slice (some ⟨b2, 0, none⟩) n c2, .int .i64 q], .int .u32 to_, .int .u32 64] W fun e w' => e = .returned (.bool false) ∧ Below W.heap.size W w')) (HC : Hid (∀ W, Calls Tryd.prog 41 #[.agg #[.int .u32 1, .int .u32 head, .int .u32 at_, .int .u32 steps, .int .u32 moved, .bool true, .int .u32 from_, .int .u32 to_, .int .u32 left, .int .u32 next, .bool asks]] W fun e w' => e = .returned (.int .i64 0) ∧ Below W.heap.size W w')) : Calls Tryd.prog 12 #[.agg #[.int .u32 1, .int .u32 head, .int .u32 at_, .int .u32 steps, .int .u32 moved, .bool true, .int .u32 from_, .int .u32 to_, .int .u32 left, .int .u32 next, .bool asks], .agg #[.slice (some ⟨b1, 0, none⟩) (4096 * n) c1, .slice (some ⟨b2, 0, none⟩) n c2, .int .i64 q]] w fun e w' => e = .returned (.tuple #[.agg #[.int .u32 3, .int .u32 head, .int .u32 at_, .int .u32 steps, .int .u32 moved, .bool false, .int .u32 0, .int .u32 0, .int .u32 0, .int .u32 0, .bool true], .agg #[.slice (some ⟨b1, 0, none⟩) (4096 * n) c1, .slice (some ⟨b2, 0, none⟩) n c2, .int .i64 q]]) ∧ Below w.heap.size w w' := by
  have hli : (64 : Int) < (left : Int) := by omega
  clear hl
  obtain ⟨k0, k1, k2, k3, hb0⟩ := four_new w (.cells #[.int .u32 1, .int .u32 head, .int .u32 at_, .int .u32 steps, .int .u32 moved, .bool true, .int .u32 from_, .int .u32 to_, .int .u32 left, .int .u32 next, .bool asks] 24) (.cells #[.slice (some ⟨b1, 0, none⟩) (4096 * n) c1, .slice (some ⟨b2, 0, none⟩) n c2, .int .i64 q] 30) (.cells #[.int .u32 0, .int .u32 0, .int .u32 0, .int .u32 0, .int .u32 0, .bool false, .int .u32 0, .int .u32 0, .int .u32 0, .int .u32 0, .bool false] 24) (.cells #[.slice none 0 0, .slice none 0 0, .int .i64 0] 30)
  have K00 := Lib.hid k0
  have K01 := Lib.hid k1
  have K02 := Lib.hid k2
  have K03 := Lib.hid k3
  have HB0 := Lib.hid hb0
  clear k0 k1 k2 k3 hb0
  go_enter Tryd.func12, Tryd.ntmps12
  go_wp2_with fail
  refine (HC.out _).mono ?_
  rintro e w1 ⟨rfl, hb⟩
  have K2 := Lib.hid (keepB K00.out hb)
  clear K00
  have K3 := Lib.hid (keepB K01.out hb)
  clear K01
  have K4 := Lib.hid (keepB K02.out hb)
  clear K02
  have K5 := Lib.hid (keepB K03.out hb)
  clear K03
  have HB6 := Lib.hid (HB0.out.trans (hb.mono HB0.out.size))
  clear HB0
  clear hb
  have c7 := (cell_of_row _ _ 0 _ _ _ K2.out).trans (rfl : _ = some (.int .u32 1 : Value))
  have c8 := (cell_of_row _ _ 5 _ _ _ K2.out).trans (rfl : _ = some (.bool true : Value))
  have c9 := (cell_of_row _ _ 6 _ _ _ K2.out).trans (rfl : _ = some (.int .u32 from_ : Value))
  have c10 := (cell_of_row _ _ 7 _ _ _ K2.out).trans (rfl : _ = some (.int .u32 to_ : Value))
  have c11 := (cell_of_row _ _ 8 _ _ _ K2.out).trans (rfl : _ = some (.int .u32 left : Value))
  have f12 := fun j => frozen_of_row _ _ j _ _ K2.out
  go_wp2_with (first | go_skip | (refine load_rowH ?hw 30 _ rfl (w.heap.size + 1) rfl 30 #[.slice (some ⟨b1, 0, none⟩) (4096 * n) c1, .slice (some ⟨b2, 0, none⟩) n c2, .int .i64 q] (0, 0) _ K3.out Tryd.underlying30 rfl (by kernel_rfl) ?_; case hw => kernel_rfl))
  clear c7 c8 c9 c10 c11 f12
  refine (HI.out _).mono ?_
  rintro e wI ⟨rfl, hb⟩
  have K13 := Lib.hid (keepB K2.out hb)
  clear K2
  have K14 := Lib.hid (keepB K3.out hb)
  clear K3
  have K15 := Lib.hid (keepB K4.out hb)
  clear K4
  have K16 := Lib.hid (keepB K5.out hb)
  clear K5
  have HB17 := Lib.hid (HB6.out.trans (hb.mono HB6.out.size))
  clear HB6
  clear hb
  have c18 := (cell_of_row _ _ 0 _ _ _ K13.out).trans (rfl : _ = some (.int .u32 1 : Value))
  have c19 := (cell_of_row _ _ 5 _ _ _ K13.out).trans (rfl : _ = some (.bool true : Value))
  have c20 := (cell_of_row _ _ 6 _ _ _ K13.out).trans (rfl : _ = some (.int .u32 from_ : Value))
  have c21 := (cell_of_row _ _ 7 _ _ _ K13.out).trans (rfl : _ = some (.int .u32 to_ : Value))
  have c22 := (cell_of_row _ _ 8 _ _ _ K13.out).trans (rfl : _ = some (.int .u32 left : Value))
  have f23 := fun j => frozen_of_row _ _ j _ _ K13.out
  go_wp2_with (first | go_skip | (refine load_rowH ?hw 30 _ rfl (w.heap.size + 1) rfl 30 #[.slice (some ⟨b1, 0, none⟩) (4096 * n) c1, .slice (some ⟨b2, 0, none⟩) n c2, .int .i64 q] (0, 0) _ K14.out Tryd.underlying30 rfl (by kernel_rfl) ?_; case hw => kernel_rfl))
  clear c18 c19 c20 c21 c22 f23
  refine (HJ.out _).mono ?_
  rintro e wJ ⟨rfl, hb⟩
  have K24 := Lib.hid (keepB K13.out hb)
  clear K13
  have K25 := Lib.hid (keepB K14.out hb)
  clear K14
  have K26 := Lib.hid (keepB K15.out hb)
  clear K15
  have K27 := Lib.hid (keepB K16.out hb)
  clear K16
  have HB28 := Lib.hid (HB17.out.trans (hb.mono HB17.out.size))
  clear HB17
  clear hb
  have c29 := (cell_of_row _ _ 0 _ _ _ K24.out).trans (rfl : _ = some (.int .u32 1 : Value))
  have c30 := (cell_of_row _ _ 5 _ _ _ K24.out).trans (rfl : _ = some (.bool true : Value))
  have c31 := (cell_of_row _ _ 6 _ _ _ K24.out).trans (rfl : _ = some (.int .u32 from_ : Value))
  have c32 := (cell_of_row _ _ 7 _ _ _ K24.out).trans (rfl : _ = some (.int .u32 to_ : Value))
  have c33 := (cell_of_row _ _ 8 _ _ _ K24.out).trans (rfl : _ = some (.int .u32 left : Value))
  have f34 := fun j => frozen_of_row _ _ j _ _ K24.out
  go_upto_region 18 with fail
  clear c29 c30 c31 c32 c33 f34
  have HR35 := HB28
  refine wp_region_held_drew (S := fun W => KX (fun k => k = w.heap.size + 1 + 1 ∨ k = w.heap.size + 1 + 1 + 1) (wJ) W) (by kernel_rfl) ((KX.refl (fun k => k = w.heap.size + 1 + 1 ∨ k = w.heap.size + 1 + 1 + 1) _).drew) (fun hHeld => ?_)
  refine wpAnyH_take (i := 0) rfl (by kernel_rfl) (by kernel_rfl) (by kernel_rfl) (fun _ _ _ h => h) (yieldsIf_load_mid (by rfl) 24 _ rfl (w.heap.size) 0 rfl #[.int .u32 1, .int .u32 head, .int .u32 at_, .int .u32 steps, .int .u32 moved, .bool true, .int .u32 from_, .int .u32 to_, .int .u32 left, .int .u32 next, .bool asks].toList _ (fun W hSw => range_of_all (hSw.heap K24.out (by omega))) Tryd.underlying24 rfl ?hi0) (by assumption) ?rest0
  case hi0 => kernel_rfl
  simp only [Act.put, List.getElem_toArray, List.getElem_cons_zero, List.setIfInBounds_toArray, List.set_cons_zero, List.set_cons_succ]
  refine wpAnyH_take (i := 2) rfl (by kernel_rfl) (by kernel_rfl) (by kernel_rfl) (fun _ _ _ h => h) (yieldsIf_load_mid (by rfl) 30 _ rfl (w.heap.size + 1) 0 rfl #[.slice (some ⟨b1, 0, none⟩) (4096 * n) c1, .slice (some ⟨b2, 0, none⟩) n c2, .int .i64 q].toList _ (fun W hSw => range_of_all (hSw.heap K25.out (by omega))) Tryd.underlying30 rfl ?hi2) (by assumption) ?rest2
  case hi2 => kernel_rfl
  simp only [Act.put, List.getElem_toArray, List.getElem_cons_zero, List.getElem_cons_succ, List.setIfInBounds_toArray, List.set_cons_zero, List.set_cons_succ]
  refine wpAnyH_ready (rs := [1]) (by kernel_rfl) (by simp) ?_
  refine AllReadyH.cons (o := _) rfl (fun K hK => ?_) (AllReadyH.nil)
  simp only [List.getElem_toArray, List.getElem_cons_zero, List.getElem_cons_succ]
  go_simp
  refine (HF.out _).mono ?_
  rintro e w36 ⟨rfl, hb⟩
  refine hK.out _ _ (hHeld.trans (KX.of_below (X := (fun k => k = w.heap.size + 1 + 1 ∨ k = w.heap.size + 1 + 1 + 1)) hb) (fun _ _ h => h)) (fun hHeld37 => ?_)
  clear hK K
  have K38 := Lib.hid (keepB (a := (wJ).drew) K24.out hb)
  have K39 := Lib.hid (keepB (a := (wJ).drew) K25.out hb)
  have K40 := Lib.hid (keepB (a := (wJ).drew) K26.out hb)
  have K41 := Lib.hid (keepB (a := (wJ).drew) K27.out hb)
  have HB42 := Lib.hid ((HB28.out.drew).trans (hb.mono (HB28.out.drew).size))
  clear HB28
  clear hb
  have HO43 := Lib.hid (show (#[.int .u32 3, .int .u32 head, .int .u32 at_, .int .u32 steps, .int .u32 moved, .bool false, .int .u32 0, .int .u32 0, .int .u32 0, .int .u32 0, .bool true] : Array Value).all (·.oneCell') = true by simp [Value.oneCell'])
  have HO44 := Lib.hid (show (#[.slice (some ⟨b1, 0, none⟩) (4096 * n) c1, .slice (some ⟨b2, 0, none⟩) n c2, .int .i64 q] : Array Value).all (·.oneCell') = true by simp [Value.oneCell'])
  refine wpAnyH_ready (rs := [3]) (by kernel_rfl) (by simp) ?_
  refine AllReadyH.cons (o := _) rfl (fun K hK => ?_) (AllReadyH.nil)
  simp only [List.getElem_toArray, List.getElem_cons_zero, List.getElem_cons_succ]
  rw [if_pos (by rfl)]
  refine wp_store_row 24 _ _ rfl (w.heap.size + 1 + 1) #[.int .u32 3, .int .u32 head, .int .u32 at_, .int .u32 steps, .int .u32 moved, .bool false, .int .u32 0, .int .u32 0, .int .u32 0, .int .u32 0, .bool true] rfl rfl 24 #[.int .u32 0, .int .u32 0, .int .u32 0, .int .u32 0, .int .u32 0, .bool false, .int .u32 0, .int .u32 0, .int .u32 0, .int .u32 0, .bool false] K40.out (by kernel_rfl) rfl HO43.out ?_
  refine hK.out _ _ (hHeld37.setRow (.inl (by omega)) _) (fun hq1 => ?_)
  clear hK K
  try simp only [Act.put]
  have ka : ((w36).setRow (w.heap.size + 1 + 1) #[.int .u32 3, .int .u32 head, .int .u32 at_, .int .u32 steps, .int .u32 moved, .bool false, .int .u32 0, .int .u32 0, .int .u32 0, .int .u32 0, .bool true]).heap[w.heap.size + 1 + 1]? = some (.cells #[.int .u32 3, .int .u32 head, .int .u32 at_, .int .u32 steps, .int .u32 moved, .bool false, .int .u32 0, .int .u32 0, .int .u32 0, .int .u32 0, .bool true] 24 (0, 0)) := setRow_heap _ _ _ _ _ _ K40.out
  have kb : ((w36).setRow (w.heap.size + 1 + 1) #[.int .u32 3, .int .u32 head, .int .u32 at_, .int .u32 steps, .int .u32 moved, .bool false, .int .u32 0, .int .u32 0, .int .u32 0, .int .u32 0, .bool true]).heap[w.heap.size + 1 + 1 + 1]? = some (.cells #[.slice none 0 0, .slice none 0 0, .int .i64 0] 30 (0, 0)) := (heap_row_other (by omega)).trans K41.out
  generalize (w36).setRow (w.heap.size + 1 + 1) #[.int .u32 3, .int .u32 head, .int .u32 at_, .int .u32 steps, .int .u32 moved, .bool false, .int .u32 0, .int .u32 0, .int .u32 0, .int .u32 0, .bool true] = wq at ka kb hq1 ⊢
  refine wpAnyH_ready (rs := [4]) (by kernel_rfl) (by simp) ?_
  refine AllReadyH.cons (o := _) rfl (fun K hK => ?_) (AllReadyH.nil)
  simp only [List.getElem_toArray, List.getElem_cons_zero, List.getElem_cons_succ]
  rw [if_pos (by rfl)]
  refine wp_store_row 30 _ _ rfl (w.heap.size + 1 + 1 + 1) #[.slice (some ⟨b1, 0, none⟩) (4096 * n) c1, .slice (some ⟨b2, 0, none⟩) n c2, .int .i64 q] rfl rfl 30 #[.slice none 0 0, .slice none 0 0, .int .i64 0] kb (by kernel_rfl) rfl HO44.out ?_
  refine hK.out _ _ (hq1.setRow (.inl (by omega)) _) (fun hq2 => ?_)
  clear hK K
  try simp only [Act.put]
  have kc : (wq.setRow (w.heap.size + 1 + 1 + 1) #[.slice (some ⟨b1, 0, none⟩) (4096 * n) c1, .slice (some ⟨b2, 0, none⟩) n c2, .int .i64 q]).heap[w.heap.size + 1 + 1]? = some (.cells #[.int .u32 3, .int .u32 head, .int .u32 at_, .int .u32 steps, .int .u32 moved, .bool false, .int .u32 0, .int .u32 0, .int .u32 0, .int .u32 0, .bool true] 24 (0, 0)) := (heap_row_other (by omega)).trans ka
  have kd : (wq.setRow (w.heap.size + 1 + 1 + 1) #[.slice (some ⟨b1, 0, none⟩) (4096 * n) c1, .slice (some ⟨b2, 0, none⟩) n c2, .int .i64 q]).heap[w.heap.size + 1 + 1 + 1]? = some (.cells #[.slice (some ⟨b1, 0, none⟩) (4096 * n) c1, .slice (some ⟨b2, 0, none⟩) n c2, .int .i64 q] 30 (0, 0)) := setRow_heap _ _ _ _ _ _ kb
  generalize wq.setRow (w.heap.size + 1 + 1 + 1) #[.slice (some ⟨b1, 0, none⟩) (4096 * n) c1, .slice (some ⟨b2, 0, none⟩) n c2, .int .i64 q] = wz at kc kd hq2 ⊢
  clear ka kb hq1
  refine wpAnyH_done (by kernel_rfl) ?_ _
  have HBE := Lib.hid (HR35.out.trans (hq2.below (B := w.heap.size) (fun k hk e => by omega) HR35.out.size))
  go_wp2_with fail
  exact bodyPost_ret (v := .tuple #[.agg #[.int .u32 3, .int .u32 head, .int .u32 at_, .int .u32 steps, .int .u32 moved, .bool false, .int .u32 0, .int .u32 0, .int .u32 0, .int .u32 0, .bool true], .agg #[.slice (some ⟨b1, 0, none⟩) (4096 * n) c1, .slice (some ⟨b2, 0, none⟩) n c2, .int .i64 q]]) (results_two_cells Tryd.results12 _ _ (w.heap.size + 1 + 1) (w.heap.size + 1 + 1 + 1) 24 30 #[.int .u32 3, .int .u32 head, .int .u32 at_, .int .u32 steps, .int .u32 moved, .bool false, .int .u32 0, .int .u32 0, .int .u32 0, .int .u32 0, .bool true] #[.slice (some ⟨b1, 0, none⟩) (4096 * n) c1, .slice (some ⟨b2, 0, none⟩) n c2, .int .i64 q] (0, 0) (0, 0) _ _ rfl rfl kc kd Tryd.underlying24 rfl (by kernel_rfl) Tryd.underlying30 rfl (by kernel_rfl)) rfl ⟨rfl, HBE.out⟩

set_option maxRecDepth 100000 in
set_option maxHeartbeats 8000000 in
theorem r12_tk_ms1 (head : Nat) (at_ : Nat) (steps : Nat) (moved : Nat) (from_ : Nat) (to_ : Nat) (left : Nat) (next : Nat) (asks : Bool) {b1 c1 b2 n c2 : Nat} {q : Int} (w : World) (hl : left ≤ 64) (HF : Hid (∀ W, Calls Tryd.prog 55 #[.agg #[.int .u32 1, .int .u32 head, .int .u32 at_, .int .u32 steps, .int .u32 moved, .bool true, .int .u32 from_, .int .u32 to_, .int .u32 left, .int .u32 next, .bool asks]] W fun e w' => e = .returned (.agg #[.int .u32 3, .int .u32 head, .int .u32 at_, .int .u32 steps, .int .u32 moved, .bool false, .int .u32 0, .int .u32 0, .int .u32 0, .int .u32 0, .bool true]) ∧ Below W.heap.size W w')) (HI : Hid (∀ W, Calls Tryd.prog 54 #[.agg #[.slice (some ⟨b1, 0, none⟩) (4096 * n) c1, .slice (some ⟨b2, 0, none⟩) n c2, .int .i64 q], .int .u32 from_, .int .u32 left] W fun e w' => e = .returned (.bool false) ∧ Below W.heap.size W w')) (HC : Hid (∀ W, Calls Tryd.prog 41 #[.agg #[.int .u32 1, .int .u32 head, .int .u32 at_, .int .u32 steps, .int .u32 moved, .bool true, .int .u32 from_, .int .u32 to_, .int .u32 left, .int .u32 next, .bool asks]] W fun e w' => e = .returned (.int .i64 0) ∧ Below W.heap.size W w')) : Calls Tryd.prog 12 #[.agg #[.int .u32 1, .int .u32 head, .int .u32 at_, .int .u32 steps, .int .u32 moved, .bool true, .int .u32 from_, .int .u32 to_, .int .u32 left, .int .u32 next, .bool asks], .agg #[.slice (some ⟨b1, 0, none⟩) (4096 * n) c1, .slice (some ⟨b2, 0, none⟩) n c2, .int .i64 q]] w fun e w' => e = .returned (.tuple #[.agg #[.int .u32 3, .int .u32 head, .int .u32 at_, .int .u32 steps, .int .u32 moved, .bool false, .int .u32 0, .int .u32 0, .int .u32 0, .int .u32 0, .bool true], .agg #[.slice (some ⟨b1, 0, none⟩) (4096 * n) c1, .slice (some ⟨b2, 0, none⟩) n c2, .int .i64 q]]) ∧ Below w.heap.size w w' := by
  have hli : (left : Int) ≤ 64 := by omega
  clear hl
  obtain ⟨k0, k1, k2, k3, hb0⟩ := four_new w (.cells #[.int .u32 1, .int .u32 head, .int .u32 at_, .int .u32 steps, .int .u32 moved, .bool true, .int .u32 from_, .int .u32 to_, .int .u32 left, .int .u32 next, .bool asks] 24) (.cells #[.slice (some ⟨b1, 0, none⟩) (4096 * n) c1, .slice (some ⟨b2, 0, none⟩) n c2, .int .i64 q] 30) (.cells #[.int .u32 0, .int .u32 0, .int .u32 0, .int .u32 0, .int .u32 0, .bool false, .int .u32 0, .int .u32 0, .int .u32 0, .int .u32 0, .bool false] 24) (.cells #[.slice none 0 0, .slice none 0 0, .int .i64 0] 30)
  have K00 := Lib.hid k0
  have K01 := Lib.hid k1
  have K02 := Lib.hid k2
  have K03 := Lib.hid k3
  have HB0 := Lib.hid hb0
  clear k0 k1 k2 k3 hb0
  go_enter Tryd.func12, Tryd.ntmps12
  go_wp2_with fail
  refine (HC.out _).mono ?_
  rintro e w1 ⟨rfl, hb⟩
  have K2 := Lib.hid (keepB K00.out hb)
  clear K00
  have K3 := Lib.hid (keepB K01.out hb)
  clear K01
  have K4 := Lib.hid (keepB K02.out hb)
  clear K02
  have K5 := Lib.hid (keepB K03.out hb)
  clear K03
  have HB6 := Lib.hid (HB0.out.trans (hb.mono HB0.out.size))
  clear HB0
  clear hb
  have c7 := (cell_of_row _ _ 0 _ _ _ K2.out).trans (rfl : _ = some (.int .u32 1 : Value))
  have c8 := (cell_of_row _ _ 5 _ _ _ K2.out).trans (rfl : _ = some (.bool true : Value))
  have c9 := (cell_of_row _ _ 6 _ _ _ K2.out).trans (rfl : _ = some (.int .u32 from_ : Value))
  have c10 := (cell_of_row _ _ 7 _ _ _ K2.out).trans (rfl : _ = some (.int .u32 to_ : Value))
  have c11 := (cell_of_row _ _ 8 _ _ _ K2.out).trans (rfl : _ = some (.int .u32 left : Value))
  have f12 := fun j => frozen_of_row _ _ j _ _ K2.out
  go_wp2_with (first | go_skip | (refine load_rowH ?hw 30 _ rfl (w.heap.size + 1) rfl 30 #[.slice (some ⟨b1, 0, none⟩) (4096 * n) c1, .slice (some ⟨b2, 0, none⟩) n c2, .int .i64 q] (0, 0) _ K3.out Tryd.underlying30 rfl (by kernel_rfl) ?_; case hw => kernel_rfl))
  clear c7 c8 c9 c10 c11 f12
  refine (HI.out _).mono ?_
  rintro e wI ⟨rfl, hb⟩
  have K13 := Lib.hid (keepB K2.out hb)
  clear K2
  have K14 := Lib.hid (keepB K3.out hb)
  clear K3
  have K15 := Lib.hid (keepB K4.out hb)
  clear K4
  have K16 := Lib.hid (keepB K5.out hb)
  clear K5
  have HB17 := Lib.hid (HB6.out.trans (hb.mono HB6.out.size))
  clear HB6
  clear hb
  have c18 := (cell_of_row _ _ 0 _ _ _ K13.out).trans (rfl : _ = some (.int .u32 1 : Value))
  have c19 := (cell_of_row _ _ 5 _ _ _ K13.out).trans (rfl : _ = some (.bool true : Value))
  have c20 := (cell_of_row _ _ 6 _ _ _ K13.out).trans (rfl : _ = some (.int .u32 from_ : Value))
  have c21 := (cell_of_row _ _ 7 _ _ _ K13.out).trans (rfl : _ = some (.int .u32 to_ : Value))
  have c22 := (cell_of_row _ _ 8 _ _ _ K13.out).trans (rfl : _ = some (.int .u32 left : Value))
  have f23 := fun j => frozen_of_row _ _ j _ _ K13.out
  go_upto_region 18 with fail
  clear c18 c19 c20 c21 c22 f23
  have HR24 := HB17
  refine wp_region_held_drew (S := fun W => KX (fun k => k = w.heap.size + 1 + 1 ∨ k = w.heap.size + 1 + 1 + 1) (wI) W) (by kernel_rfl) ((KX.refl (fun k => k = w.heap.size + 1 + 1 ∨ k = w.heap.size + 1 + 1 + 1) _).drew) (fun hHeld => ?_)
  refine wpAnyH_take (i := 0) rfl (by kernel_rfl) (by kernel_rfl) (by kernel_rfl) (fun _ _ _ h => h) (yieldsIf_load_mid (by rfl) 24 _ rfl (w.heap.size) 0 rfl #[.int .u32 1, .int .u32 head, .int .u32 at_, .int .u32 steps, .int .u32 moved, .bool true, .int .u32 from_, .int .u32 to_, .int .u32 left, .int .u32 next, .bool asks].toList _ (fun W hSw => range_of_all (hSw.heap K13.out (by omega))) Tryd.underlying24 rfl ?hi0) (by assumption) ?rest0
  case hi0 => kernel_rfl
  simp only [Act.put, List.getElem_toArray, List.getElem_cons_zero, List.setIfInBounds_toArray, List.set_cons_zero, List.set_cons_succ]
  refine wpAnyH_take (i := 2) rfl (by kernel_rfl) (by kernel_rfl) (by kernel_rfl) (fun _ _ _ h => h) (yieldsIf_load_mid (by rfl) 30 _ rfl (w.heap.size + 1) 0 rfl #[.slice (some ⟨b1, 0, none⟩) (4096 * n) c1, .slice (some ⟨b2, 0, none⟩) n c2, .int .i64 q].toList _ (fun W hSw => range_of_all (hSw.heap K14.out (by omega))) Tryd.underlying30 rfl ?hi2) (by assumption) ?rest2
  case hi2 => kernel_rfl
  simp only [Act.put, List.getElem_toArray, List.getElem_cons_zero, List.getElem_cons_succ, List.setIfInBounds_toArray, List.set_cons_zero, List.set_cons_succ]
  refine wpAnyH_ready (rs := [1]) (by kernel_rfl) (by simp) ?_
  refine AllReadyH.cons (o := _) rfl (fun K hK => ?_) (AllReadyH.nil)
  simp only [List.getElem_toArray, List.getElem_cons_zero, List.getElem_cons_succ]
  go_simp
  refine (HF.out _).mono ?_
  rintro e w25 ⟨rfl, hb⟩
  refine hK.out _ _ (hHeld.trans (KX.of_below (X := (fun k => k = w.heap.size + 1 + 1 ∨ k = w.heap.size + 1 + 1 + 1)) hb) (fun _ _ h => h)) (fun hHeld26 => ?_)
  clear hK K
  have K27 := Lib.hid (keepB (a := (wI).drew) K13.out hb)
  have K28 := Lib.hid (keepB (a := (wI).drew) K14.out hb)
  have K29 := Lib.hid (keepB (a := (wI).drew) K15.out hb)
  have K30 := Lib.hid (keepB (a := (wI).drew) K16.out hb)
  have HB31 := Lib.hid ((HB17.out.drew).trans (hb.mono (HB17.out.drew).size))
  clear HB17
  clear hb
  have HO32 := Lib.hid (show (#[.int .u32 3, .int .u32 head, .int .u32 at_, .int .u32 steps, .int .u32 moved, .bool false, .int .u32 0, .int .u32 0, .int .u32 0, .int .u32 0, .bool true] : Array Value).all (·.oneCell') = true by simp [Value.oneCell'])
  have HO33 := Lib.hid (show (#[.slice (some ⟨b1, 0, none⟩) (4096 * n) c1, .slice (some ⟨b2, 0, none⟩) n c2, .int .i64 q] : Array Value).all (·.oneCell') = true by simp [Value.oneCell'])
  refine wpAnyH_ready (rs := [3]) (by kernel_rfl) (by simp) ?_
  refine AllReadyH.cons (o := _) rfl (fun K hK => ?_) (AllReadyH.nil)
  simp only [List.getElem_toArray, List.getElem_cons_zero, List.getElem_cons_succ]
  rw [if_pos (by rfl)]
  refine wp_store_row 24 _ _ rfl (w.heap.size + 1 + 1) #[.int .u32 3, .int .u32 head, .int .u32 at_, .int .u32 steps, .int .u32 moved, .bool false, .int .u32 0, .int .u32 0, .int .u32 0, .int .u32 0, .bool true] rfl rfl 24 #[.int .u32 0, .int .u32 0, .int .u32 0, .int .u32 0, .int .u32 0, .bool false, .int .u32 0, .int .u32 0, .int .u32 0, .int .u32 0, .bool false] K29.out (by kernel_rfl) rfl HO32.out ?_
  refine hK.out _ _ (hHeld26.setRow (.inl (by omega)) _) (fun hq1 => ?_)
  clear hK K
  try simp only [Act.put]
  have ka : ((w25).setRow (w.heap.size + 1 + 1) #[.int .u32 3, .int .u32 head, .int .u32 at_, .int .u32 steps, .int .u32 moved, .bool false, .int .u32 0, .int .u32 0, .int .u32 0, .int .u32 0, .bool true]).heap[w.heap.size + 1 + 1]? = some (.cells #[.int .u32 3, .int .u32 head, .int .u32 at_, .int .u32 steps, .int .u32 moved, .bool false, .int .u32 0, .int .u32 0, .int .u32 0, .int .u32 0, .bool true] 24 (0, 0)) := setRow_heap _ _ _ _ _ _ K29.out
  have kb : ((w25).setRow (w.heap.size + 1 + 1) #[.int .u32 3, .int .u32 head, .int .u32 at_, .int .u32 steps, .int .u32 moved, .bool false, .int .u32 0, .int .u32 0, .int .u32 0, .int .u32 0, .bool true]).heap[w.heap.size + 1 + 1 + 1]? = some (.cells #[.slice none 0 0, .slice none 0 0, .int .i64 0] 30 (0, 0)) := (heap_row_other (by omega)).trans K30.out
  generalize (w25).setRow (w.heap.size + 1 + 1) #[.int .u32 3, .int .u32 head, .int .u32 at_, .int .u32 steps, .int .u32 moved, .bool false, .int .u32 0, .int .u32 0, .int .u32 0, .int .u32 0, .bool true] = wq at ka kb hq1 ⊢
  refine wpAnyH_ready (rs := [4]) (by kernel_rfl) (by simp) ?_
  refine AllReadyH.cons (o := _) rfl (fun K hK => ?_) (AllReadyH.nil)
  simp only [List.getElem_toArray, List.getElem_cons_zero, List.getElem_cons_succ]
  rw [if_pos (by rfl)]
  refine wp_store_row 30 _ _ rfl (w.heap.size + 1 + 1 + 1) #[.slice (some ⟨b1, 0, none⟩) (4096 * n) c1, .slice (some ⟨b2, 0, none⟩) n c2, .int .i64 q] rfl rfl 30 #[.slice none 0 0, .slice none 0 0, .int .i64 0] kb (by kernel_rfl) rfl HO33.out ?_
  refine hK.out _ _ (hq1.setRow (.inl (by omega)) _) (fun hq2 => ?_)
  clear hK K
  try simp only [Act.put]
  have kc : (wq.setRow (w.heap.size + 1 + 1 + 1) #[.slice (some ⟨b1, 0, none⟩) (4096 * n) c1, .slice (some ⟨b2, 0, none⟩) n c2, .int .i64 q]).heap[w.heap.size + 1 + 1]? = some (.cells #[.int .u32 3, .int .u32 head, .int .u32 at_, .int .u32 steps, .int .u32 moved, .bool false, .int .u32 0, .int .u32 0, .int .u32 0, .int .u32 0, .bool true] 24 (0, 0)) := (heap_row_other (by omega)).trans ka
  have kd : (wq.setRow (w.heap.size + 1 + 1 + 1) #[.slice (some ⟨b1, 0, none⟩) (4096 * n) c1, .slice (some ⟨b2, 0, none⟩) n c2, .int .i64 q]).heap[w.heap.size + 1 + 1 + 1]? = some (.cells #[.slice (some ⟨b1, 0, none⟩) (4096 * n) c1, .slice (some ⟨b2, 0, none⟩) n c2, .int .i64 q] 30 (0, 0)) := setRow_heap _ _ _ _ _ _ kb
  generalize wq.setRow (w.heap.size + 1 + 1 + 1) #[.slice (some ⟨b1, 0, none⟩) (4096 * n) c1, .slice (some ⟨b2, 0, none⟩) n c2, .int .i64 q] = wz at kc kd hq2 ⊢
  clear ka kb hq1
  refine wpAnyH_done (by kernel_rfl) ?_ _
  have HBE := Lib.hid (HR24.out.trans (hq2.below (B := w.heap.size) (fun k hk e => by omega) HR24.out.size))
  go_wp2_with fail
  exact bodyPost_ret (v := .tuple #[.agg #[.int .u32 3, .int .u32 head, .int .u32 at_, .int .u32 steps, .int .u32 moved, .bool false, .int .u32 0, .int .u32 0, .int .u32 0, .int .u32 0, .bool true], .agg #[.slice (some ⟨b1, 0, none⟩) (4096 * n) c1, .slice (some ⟨b2, 0, none⟩) n c2, .int .i64 q]]) (results_two_cells Tryd.results12 _ _ (w.heap.size + 1 + 1) (w.heap.size + 1 + 1 + 1) 24 30 #[.int .u32 3, .int .u32 head, .int .u32 at_, .int .u32 steps, .int .u32 moved, .bool false, .int .u32 0, .int .u32 0, .int .u32 0, .int .u32 0, .bool true] #[.slice (some ⟨b1, 0, none⟩) (4096 * n) c1, .slice (some ⟨b2, 0, none⟩) n c2, .int .i64 q] (0, 0) (0, 0) _ _ rfl rfl kc kd Tryd.underlying24 rfl (by kernel_rfl) Tryd.underlying30 rfl (by kernel_rfl)) rfl ⟨rfl, HBE.out⟩

set_option maxRecDepth 100000 in
set_option maxHeartbeats 8000000 in
theorem r12_tk_ms2 (head : Nat) (at_ : Nat) (steps : Nat) (moved : Nat) (from_ : Nat) (to_ : Nat) (left : Nat) (next : Nat) (asks : Bool) {b1 c1 b2 n c2 : Nat} {q : Int} (w : World) (hl : left ≤ 64) (HF : Hid (∀ W, Calls Tryd.prog 55 #[.agg #[.int .u32 1, .int .u32 head, .int .u32 at_, .int .u32 steps, .int .u32 moved, .bool true, .int .u32 from_, .int .u32 to_, .int .u32 left, .int .u32 next, .bool asks]] W fun e w' => e = .returned (.agg #[.int .u32 3, .int .u32 head, .int .u32 at_, .int .u32 steps, .int .u32 moved, .bool false, .int .u32 0, .int .u32 0, .int .u32 0, .int .u32 0, .bool true]) ∧ Below W.heap.size W w')) (HI : Hid (∀ W, Calls Tryd.prog 54 #[.agg #[.slice (some ⟨b1, 0, none⟩) (4096 * n) c1, .slice (some ⟨b2, 0, none⟩) n c2, .int .i64 q], .int .u32 from_, .int .u32 left] W fun e w' => e = .returned (.bool true) ∧ Below W.heap.size W w')) (HJ : Hid (∀ W, Calls Tryd.prog 54 #[.agg #[.slice (some ⟨b1, 0, none⟩) (4096 * n) c1, .slice (some ⟨b2, 0, none⟩) n c2, .int .i64 q], .int .u32 to_, .int .u32 left] W fun e w' => e = .returned (.bool false) ∧ Below W.heap.size W w')) (HC : Hid (∀ W, Calls Tryd.prog 41 #[.agg #[.int .u32 1, .int .u32 head, .int .u32 at_, .int .u32 steps, .int .u32 moved, .bool true, .int .u32 from_, .int .u32 to_, .int .u32 left, .int .u32 next, .bool asks]] W fun e w' => e = .returned (.int .i64 0) ∧ Below W.heap.size W w')) : Calls Tryd.prog 12 #[.agg #[.int .u32 1, .int .u32 head, .int .u32 at_, .int .u32 steps, .int .u32 moved, .bool true, .int .u32 from_, .int .u32 to_, .int .u32 left, .int .u32 next, .bool asks], .agg #[.slice (some ⟨b1, 0, none⟩) (4096 * n) c1, .slice (some ⟨b2, 0, none⟩) n c2, .int .i64 q]] w fun e w' => e = .returned (.tuple #[.agg #[.int .u32 3, .int .u32 head, .int .u32 at_, .int .u32 steps, .int .u32 moved, .bool false, .int .u32 0, .int .u32 0, .int .u32 0, .int .u32 0, .bool true], .agg #[.slice (some ⟨b1, 0, none⟩) (4096 * n) c1, .slice (some ⟨b2, 0, none⟩) n c2, .int .i64 q]]) ∧ Below w.heap.size w w' := by
  have hli : (left : Int) ≤ 64 := by omega
  clear hl
  obtain ⟨k0, k1, k2, k3, hb0⟩ := four_new w (.cells #[.int .u32 1, .int .u32 head, .int .u32 at_, .int .u32 steps, .int .u32 moved, .bool true, .int .u32 from_, .int .u32 to_, .int .u32 left, .int .u32 next, .bool asks] 24) (.cells #[.slice (some ⟨b1, 0, none⟩) (4096 * n) c1, .slice (some ⟨b2, 0, none⟩) n c2, .int .i64 q] 30) (.cells #[.int .u32 0, .int .u32 0, .int .u32 0, .int .u32 0, .int .u32 0, .bool false, .int .u32 0, .int .u32 0, .int .u32 0, .int .u32 0, .bool false] 24) (.cells #[.slice none 0 0, .slice none 0 0, .int .i64 0] 30)
  have K00 := Lib.hid k0
  have K01 := Lib.hid k1
  have K02 := Lib.hid k2
  have K03 := Lib.hid k3
  have HB0 := Lib.hid hb0
  clear k0 k1 k2 k3 hb0
  go_enter Tryd.func12, Tryd.ntmps12
  go_wp2_with fail
  refine (HC.out _).mono ?_
  rintro e w1 ⟨rfl, hb⟩
  have K2 := Lib.hid (keepB K00.out hb)
  clear K00
  have K3 := Lib.hid (keepB K01.out hb)
  clear K01
  have K4 := Lib.hid (keepB K02.out hb)
  clear K02
  have K5 := Lib.hid (keepB K03.out hb)
  clear K03
  have HB6 := Lib.hid (HB0.out.trans (hb.mono HB0.out.size))
  clear HB0
  clear hb
  have c7 := (cell_of_row _ _ 0 _ _ _ K2.out).trans (rfl : _ = some (.int .u32 1 : Value))
  have c8 := (cell_of_row _ _ 5 _ _ _ K2.out).trans (rfl : _ = some (.bool true : Value))
  have c9 := (cell_of_row _ _ 6 _ _ _ K2.out).trans (rfl : _ = some (.int .u32 from_ : Value))
  have c10 := (cell_of_row _ _ 7 _ _ _ K2.out).trans (rfl : _ = some (.int .u32 to_ : Value))
  have c11 := (cell_of_row _ _ 8 _ _ _ K2.out).trans (rfl : _ = some (.int .u32 left : Value))
  have f12 := fun j => frozen_of_row _ _ j _ _ K2.out
  go_wp2_with (first | go_skip | (refine load_rowH ?hw 30 _ rfl (w.heap.size + 1) rfl 30 #[.slice (some ⟨b1, 0, none⟩) (4096 * n) c1, .slice (some ⟨b2, 0, none⟩) n c2, .int .i64 q] (0, 0) _ K3.out Tryd.underlying30 rfl (by kernel_rfl) ?_; case hw => kernel_rfl))
  clear c7 c8 c9 c10 c11 f12
  refine (HI.out _).mono ?_
  rintro e wI ⟨rfl, hb⟩
  have K13 := Lib.hid (keepB K2.out hb)
  clear K2
  have K14 := Lib.hid (keepB K3.out hb)
  clear K3
  have K15 := Lib.hid (keepB K4.out hb)
  clear K4
  have K16 := Lib.hid (keepB K5.out hb)
  clear K5
  have HB17 := Lib.hid (HB6.out.trans (hb.mono HB6.out.size))
  clear HB6
  clear hb
  have c18 := (cell_of_row _ _ 0 _ _ _ K13.out).trans (rfl : _ = some (.int .u32 1 : Value))
  have c19 := (cell_of_row _ _ 5 _ _ _ K13.out).trans (rfl : _ = some (.bool true : Value))
  have c20 := (cell_of_row _ _ 6 _ _ _ K13.out).trans (rfl : _ = some (.int .u32 from_ : Value))
  have c21 := (cell_of_row _ _ 7 _ _ _ K13.out).trans (rfl : _ = some (.int .u32 to_ : Value))
  have c22 := (cell_of_row _ _ 8 _ _ _ K13.out).trans (rfl : _ = some (.int .u32 left : Value))
  have f23 := fun j => frozen_of_row _ _ j _ _ K13.out
  go_wp2_with (first | go_skip | (refine load_rowH ?hw 30 _ rfl (w.heap.size + 1) rfl 30 #[.slice (some ⟨b1, 0, none⟩) (4096 * n) c1, .slice (some ⟨b2, 0, none⟩) n c2, .int .i64 q] (0, 0) _ K14.out Tryd.underlying30 rfl (by kernel_rfl) ?_; case hw => kernel_rfl))
  clear c18 c19 c20 c21 c22 f23
  refine (HJ.out _).mono ?_
  rintro e wJ ⟨rfl, hb⟩
  have K24 := Lib.hid (keepB K13.out hb)
  clear K13
  have K25 := Lib.hid (keepB K14.out hb)
  clear K14
  have K26 := Lib.hid (keepB K15.out hb)
  clear K15
  have K27 := Lib.hid (keepB K16.out hb)
  clear K16
  have HB28 := Lib.hid (HB17.out.trans (hb.mono HB17.out.size))
  clear HB17
  clear hb
  have c29 := (cell_of_row _ _ 0 _ _ _ K24.out).trans (rfl : _ = some (.int .u32 1 : Value))
  have c30 := (cell_of_row _ _ 5 _ _ _ K24.out).trans (rfl : _ = some (.bool true : Value))
  have c31 := (cell_of_row _ _ 6 _ _ _ K24.out).trans (rfl : _ = some (.int .u32 from_ : Value))
  have c32 := (cell_of_row _ _ 7 _ _ _ K24.out).trans (rfl : _ = some (.int .u32 to_ : Value))
  have c33 := (cell_of_row _ _ 8 _ _ _ K24.out).trans (rfl : _ = some (.int .u32 left : Value))
  have f34 := fun j => frozen_of_row _ _ j _ _ K24.out
  go_upto_region 18 with fail
  clear c29 c30 c31 c32 c33 f34
  have HR35 := HB28
  refine wp_region_held_drew (S := fun W => KX (fun k => k = w.heap.size + 1 + 1 ∨ k = w.heap.size + 1 + 1 + 1) (wJ) W) (by kernel_rfl) ((KX.refl (fun k => k = w.heap.size + 1 + 1 ∨ k = w.heap.size + 1 + 1 + 1) _).drew) (fun hHeld => ?_)
  refine wpAnyH_take (i := 0) rfl (by kernel_rfl) (by kernel_rfl) (by kernel_rfl) (fun _ _ _ h => h) (yieldsIf_load_mid (by rfl) 24 _ rfl (w.heap.size) 0 rfl #[.int .u32 1, .int .u32 head, .int .u32 at_, .int .u32 steps, .int .u32 moved, .bool true, .int .u32 from_, .int .u32 to_, .int .u32 left, .int .u32 next, .bool asks].toList _ (fun W hSw => range_of_all (hSw.heap K24.out (by omega))) Tryd.underlying24 rfl ?hi0) (by assumption) ?rest0
  case hi0 => kernel_rfl
  simp only [Act.put, List.getElem_toArray, List.getElem_cons_zero, List.setIfInBounds_toArray, List.set_cons_zero, List.set_cons_succ]
  refine wpAnyH_take (i := 2) rfl (by kernel_rfl) (by kernel_rfl) (by kernel_rfl) (fun _ _ _ h => h) (yieldsIf_load_mid (by rfl) 30 _ rfl (w.heap.size + 1) 0 rfl #[.slice (some ⟨b1, 0, none⟩) (4096 * n) c1, .slice (some ⟨b2, 0, none⟩) n c2, .int .i64 q].toList _ (fun W hSw => range_of_all (hSw.heap K25.out (by omega))) Tryd.underlying30 rfl ?hi2) (by assumption) ?rest2
  case hi2 => kernel_rfl
  simp only [Act.put, List.getElem_toArray, List.getElem_cons_zero, List.getElem_cons_succ, List.setIfInBounds_toArray, List.set_cons_zero, List.set_cons_succ]
  refine wpAnyH_ready (rs := [1]) (by kernel_rfl) (by simp) ?_
  refine AllReadyH.cons (o := _) rfl (fun K hK => ?_) (AllReadyH.nil)
  simp only [List.getElem_toArray, List.getElem_cons_zero, List.getElem_cons_succ]
  go_simp
  refine (HF.out _).mono ?_
  rintro e w36 ⟨rfl, hb⟩
  refine hK.out _ _ (hHeld.trans (KX.of_below (X := (fun k => k = w.heap.size + 1 + 1 ∨ k = w.heap.size + 1 + 1 + 1)) hb) (fun _ _ h => h)) (fun hHeld37 => ?_)
  clear hK K
  have K38 := Lib.hid (keepB (a := (wJ).drew) K24.out hb)
  have K39 := Lib.hid (keepB (a := (wJ).drew) K25.out hb)
  have K40 := Lib.hid (keepB (a := (wJ).drew) K26.out hb)
  have K41 := Lib.hid (keepB (a := (wJ).drew) K27.out hb)
  have HB42 := Lib.hid ((HB28.out.drew).trans (hb.mono (HB28.out.drew).size))
  clear HB28
  clear hb
  have HO43 := Lib.hid (show (#[.int .u32 3, .int .u32 head, .int .u32 at_, .int .u32 steps, .int .u32 moved, .bool false, .int .u32 0, .int .u32 0, .int .u32 0, .int .u32 0, .bool true] : Array Value).all (·.oneCell') = true by simp [Value.oneCell'])
  have HO44 := Lib.hid (show (#[.slice (some ⟨b1, 0, none⟩) (4096 * n) c1, .slice (some ⟨b2, 0, none⟩) n c2, .int .i64 q] : Array Value).all (·.oneCell') = true by simp [Value.oneCell'])
  refine wpAnyH_ready (rs := [3]) (by kernel_rfl) (by simp) ?_
  refine AllReadyH.cons (o := _) rfl (fun K hK => ?_) (AllReadyH.nil)
  simp only [List.getElem_toArray, List.getElem_cons_zero, List.getElem_cons_succ]
  rw [if_pos (by rfl)]
  refine wp_store_row 24 _ _ rfl (w.heap.size + 1 + 1) #[.int .u32 3, .int .u32 head, .int .u32 at_, .int .u32 steps, .int .u32 moved, .bool false, .int .u32 0, .int .u32 0, .int .u32 0, .int .u32 0, .bool true] rfl rfl 24 #[.int .u32 0, .int .u32 0, .int .u32 0, .int .u32 0, .int .u32 0, .bool false, .int .u32 0, .int .u32 0, .int .u32 0, .int .u32 0, .bool false] K40.out (by kernel_rfl) rfl HO43.out ?_
  refine hK.out _ _ (hHeld37.setRow (.inl (by omega)) _) (fun hq1 => ?_)
  clear hK K
  try simp only [Act.put]
  have ka : ((w36).setRow (w.heap.size + 1 + 1) #[.int .u32 3, .int .u32 head, .int .u32 at_, .int .u32 steps, .int .u32 moved, .bool false, .int .u32 0, .int .u32 0, .int .u32 0, .int .u32 0, .bool true]).heap[w.heap.size + 1 + 1]? = some (.cells #[.int .u32 3, .int .u32 head, .int .u32 at_, .int .u32 steps, .int .u32 moved, .bool false, .int .u32 0, .int .u32 0, .int .u32 0, .int .u32 0, .bool true] 24 (0, 0)) := setRow_heap _ _ _ _ _ _ K40.out
  have kb : ((w36).setRow (w.heap.size + 1 + 1) #[.int .u32 3, .int .u32 head, .int .u32 at_, .int .u32 steps, .int .u32 moved, .bool false, .int .u32 0, .int .u32 0, .int .u32 0, .int .u32 0, .bool true]).heap[w.heap.size + 1 + 1 + 1]? = some (.cells #[.slice none 0 0, .slice none 0 0, .int .i64 0] 30 (0, 0)) := (heap_row_other (by omega)).trans K41.out
  generalize (w36).setRow (w.heap.size + 1 + 1) #[.int .u32 3, .int .u32 head, .int .u32 at_, .int .u32 steps, .int .u32 moved, .bool false, .int .u32 0, .int .u32 0, .int .u32 0, .int .u32 0, .bool true] = wq at ka kb hq1 ⊢
  refine wpAnyH_ready (rs := [4]) (by kernel_rfl) (by simp) ?_
  refine AllReadyH.cons (o := _) rfl (fun K hK => ?_) (AllReadyH.nil)
  simp only [List.getElem_toArray, List.getElem_cons_zero, List.getElem_cons_succ]
  rw [if_pos (by rfl)]
  refine wp_store_row 30 _ _ rfl (w.heap.size + 1 + 1 + 1) #[.slice (some ⟨b1, 0, none⟩) (4096 * n) c1, .slice (some ⟨b2, 0, none⟩) n c2, .int .i64 q] rfl rfl 30 #[.slice none 0 0, .slice none 0 0, .int .i64 0] kb (by kernel_rfl) rfl HO44.out ?_
  refine hK.out _ _ (hq1.setRow (.inl (by omega)) _) (fun hq2 => ?_)
  clear hK K
  try simp only [Act.put]
  have kc : (wq.setRow (w.heap.size + 1 + 1 + 1) #[.slice (some ⟨b1, 0, none⟩) (4096 * n) c1, .slice (some ⟨b2, 0, none⟩) n c2, .int .i64 q]).heap[w.heap.size + 1 + 1]? = some (.cells #[.int .u32 3, .int .u32 head, .int .u32 at_, .int .u32 steps, .int .u32 moved, .bool false, .int .u32 0, .int .u32 0, .int .u32 0, .int .u32 0, .bool true] 24 (0, 0)) := (heap_row_other (by omega)).trans ka
  have kd : (wq.setRow (w.heap.size + 1 + 1 + 1) #[.slice (some ⟨b1, 0, none⟩) (4096 * n) c1, .slice (some ⟨b2, 0, none⟩) n c2, .int .i64 q]).heap[w.heap.size + 1 + 1 + 1]? = some (.cells #[.slice (some ⟨b1, 0, none⟩) (4096 * n) c1, .slice (some ⟨b2, 0, none⟩) n c2, .int .i64 q] 30 (0, 0)) := setRow_heap _ _ _ _ _ _ kb
  generalize wq.setRow (w.heap.size + 1 + 1 + 1) #[.slice (some ⟨b1, 0, none⟩) (4096 * n) c1, .slice (some ⟨b2, 0, none⟩) n c2, .int .i64 q] = wz at kc kd hq2 ⊢
  clear ka kb hq1
  refine wpAnyH_done (by kernel_rfl) ?_ _
  have HBE := Lib.hid (HR35.out.trans (hq2.below (B := w.heap.size) (fun k hk e => by omega) HR35.out.size))
  go_wp2_with fail
  exact bodyPost_ret (v := .tuple #[.agg #[.int .u32 3, .int .u32 head, .int .u32 at_, .int .u32 steps, .int .u32 moved, .bool false, .int .u32 0, .int .u32 0, .int .u32 0, .int .u32 0, .bool true], .agg #[.slice (some ⟨b1, 0, none⟩) (4096 * n) c1, .slice (some ⟨b2, 0, none⟩) n c2, .int .i64 q]]) (results_two_cells Tryd.results12 _ _ (w.heap.size + 1 + 1) (w.heap.size + 1 + 1 + 1) 24 30 #[.int .u32 3, .int .u32 head, .int .u32 at_, .int .u32 steps, .int .u32 moved, .bool false, .int .u32 0, .int .u32 0, .int .u32 0, .int .u32 0, .bool true] #[.slice (some ⟨b1, 0, none⟩) (4096 * n) c1, .slice (some ⟨b2, 0, none⟩) n c2, .int .i64 q] (0, 0) (0, 0) _ _ rfl rfl kc kd Tryd.underlying24 rfl (by kernel_rfl) Tryd.underlying30 rfl (by kernel_rfl)) rfl ⟨rfl, HBE.out⟩

def w4a (W0 W1 W2 W3 j : Nat) : Array Value := #[.int .u32 ((if 0 < j then W0 else 0 : Nat) : Int), .int .u32 ((if 1 < j then W1 else 0 : Nat) : Int), .int .u32 ((if 2 < j then W2 else 0 : Nat) : Int), .int .u32 ((if 3 < j then W3 else 0 : Nat) : Int)]

set_option maxRecDepth 100000 in
set_option maxHeartbeats 8000000 in
theorem r12_tk_w_zero (head x steps moved from_ to_ left next : Nat) (asks : Bool) (W0 W1 W2 W3 : Nat) {f : Nat → UInt8} {b1 c1 b2 n c2 : Nat} {q : Int} (w : World) (hs : steps ≤ 63) (hx4 : (x + 2147483648) % 4 = 0) (hx1 : x + 16 ≤ 4096 * n) (hn2 : n ≤ 16384) (HR1 : Hid (Row w b1 5 (4096 * n) (cellU f))) (HI : Hid (∀ W, Calls Tryd.prog 54 #[.agg #[.slice (some ⟨b1, 0, none⟩) (4096 * n) c1, .slice (some ⟨b2, 0, none⟩) n c2, .int .i64 q], .int .u32 ((x : Int) + 2147483648), .int .u32 16] W fun e w' => e = .returned (.bool true) ∧ Below W.heap.size W w')) (HG : Hid (∀ W, Row W b1 5 (4096 * n) (cellU f) → Calls Tryd.prog 56 #[.slice (some ⟨b1, 0, none⟩) (4096 * n) c1, .int .i64 ((x : Int)), .int .i64 4] W (fun e w' => e = .returned (.tuple #[.int .u32 W0, .int .i64 0]) ∧ W = w') ∧ Calls Tryd.prog 56 #[.slice (some ⟨b1, 0, none⟩) (4096 * n) c1, .int .i64 ((x : Int) + 4), .int .i64 4] W (fun e w' => e = .returned (.tuple #[.int .u32 W1, .int .i64 0]) ∧ W = w') ∧ Calls Tryd.prog 56 #[.slice (some ⟨b1, 0, none⟩) (4096 * n) c1, .int .i64 ((x : Int) + 8), .int .i64 4] W (fun e w' => e = .returned (.tuple #[.int .u32 W2, .int .i64 0]) ∧ W = w') ∧ Calls Tryd.prog 56 #[.slice (some ⟨b1, 0, none⟩) (4096 * n) c1, .int .i64 ((x : Int) + 12), .int .i64 4] W (fun e w' => e = .returned (.tuple #[.int .u32 W3, .int .i64 0]) ∧ W = w'))) (hw : W2 = 0) (HF : Hid (∀ W, Calls Tryd.prog 55 #[.agg #[.int .u32 1, .int .u32 head, .int .u32 ((x : Int) + 2147483648), .int .u32 ((steps : Int) + 1), .int .u32 moved, .bool false, .int .u32 from_, .int .u32 to_, .int .u32 left, .int .u32 next, .bool asks]] W fun e w' => e = .returned (.agg #[.int .u32 3, .int .u32 head, .int .u32 ((x : Int) + 2147483648), .int .u32 ((steps : Int) + 1), .int .u32 moved, .bool false, .int .u32 0, .int .u32 0, .int .u32 0, .int .u32 0, .bool true]) ∧ Below W.heap.size W w')) (HC : Hid (∀ W, Calls Tryd.prog 41 #[.agg #[.int .u32 1, .int .u32 head, .int .u32 ((x : Int) + 2147483648), .int .u32 steps, .int .u32 moved, .bool false, .int .u32 from_, .int .u32 to_, .int .u32 left, .int .u32 next, .bool asks]] W fun e w' => e = .returned (.int .i64 0) ∧ Below W.heap.size W w')) : Calls Tryd.prog 12 #[.agg #[.int .u32 1, .int .u32 head, .int .u32 ((x : Int) + 2147483648), .int .u32 steps, .int .u32 moved, .bool false, .int .u32 from_, .int .u32 to_, .int .u32 left, .int .u32 next, .bool asks], .agg #[.slice (some ⟨b1, 0, none⟩) (4096 * n) c1, .slice (some ⟨b2, 0, none⟩) n c2, .int .i64 q]] w fun e w' => e = .returned (.tuple #[.agg #[.int .u32 3, .int .u32 head, .int .u32 ((x : Int) + 2147483648), .int .u32 ((steps : Int) + 1), .int .u32 moved, .bool false, .int .u32 0, .int .u32 0, .int .u32 0, .int .u32 0, .bool true], .agg #[.slice (some ⟨b1, 0, none⟩) (4096 * n) c1, .slice (some ⟨b2, 0, none⟩) n c2, .int .i64 q]]) ∧ Below w.heap.size w w' := by
  have e1 : decide ((63 : Int) < (steps : Int)) = false := decide_eq_false (by omega)
  have e2 : ((((x : Int) + 2147483648) % 4) != 0) = false := by simp; omega
  have hst0 : (0 : Int) ≤ (steps : Int) := by omega
  have hst1 : (steps : Int) ≤ 63 := by omega
  have hxa : (0 : Int) ≤ (x : Int) := by omega
  have hxb : (x : Int) ≤ 67108864 := by omega
  have e3 : ((W2 : Int) == 0) = true := by simp; omega
  clear hs hx4 hx1 hn2 hw
  obtain ⟨k0, k1, k2, k3, hb0⟩ := four_new w (.cells #[.int .u32 1, .int .u32 head, .int .u32 ((x : Int) + 2147483648), .int .u32 steps, .int .u32 moved, .bool false, .int .u32 from_, .int .u32 to_, .int .u32 left, .int .u32 next, .bool asks] 24) (.cells #[.slice (some ⟨b1, 0, none⟩) (4096 * n) c1, .slice (some ⟨b2, 0, none⟩) n c2, .int .i64 q] 30) (.cells #[.int .u32 0, .int .u32 0, .int .u32 0, .int .u32 0, .int .u32 0, .bool false, .int .u32 0, .int .u32 0, .int .u32 0, .int .u32 0, .bool false] 24) (.cells #[.slice none 0 0, .slice none 0 0, .int .i64 0] 30)
  have K00 := Lib.hid k0
  have K01 := Lib.hid k1
  have K02 := Lib.hid k2
  have K03 := Lib.hid k3
  have HB0 := Lib.hid hb0
  clear k0 k1 k2 k3 hb0
  go_enter Tryd.func12, Tryd.ntmps12
  go_wp2_with fail
  refine (HC.out _).mono ?_
  rintro e w1 ⟨rfl, hb⟩
  have K2 := Lib.hid (keepB K00.out hb)
  clear K00
  have K3 := Lib.hid (keepB K01.out hb)
  clear K01
  have K4 := Lib.hid (keepB K02.out hb)
  clear K02
  have K5 := Lib.hid (keepB K03.out hb)
  clear K03
  have HB6 := Lib.hid (HB0.out.trans (hb.mono HB0.out.size))
  clear HB0
  clear hb
  have c7 := (cell_of_row _ _ 0 _ _ _ K2.out).trans (rfl : _ = some (.int .u32 1 : Value))
  have c8 := (cell_of_row _ _ 2 _ _ _ K2.out).trans (rfl : _ = some (.int .u32 ((x : Int) + 2147483648) : Value))
  have c9 := (cell_of_row _ _ 3 _ _ _ K2.out).trans (rfl : _ = some (.int .u32 steps : Value))
  have c10 := (cell_of_row _ _ 5 _ _ _ K2.out).trans (rfl : _ = some (.bool false : Value))
  have f11 := fun j => frozen_of_row _ _ j _ _ K2.out
  go_wp2_with (first | go_skip | (refine load_rowH ?hw 30 _ rfl (w.heap.size + 1) rfl 30 #[.slice (some ⟨b1, 0, none⟩) (4096 * n) c1, .slice (some ⟨b2, 0, none⟩) n c2, .int .i64 q] (0, 0) _ K3.out Tryd.underlying30 rfl (by kernel_rfl) ?_; case hw => kernel_rfl))
  clear c7 c8 c9 c10 f11
  refine (HI.out _).mono ?_
  rintro e wI ⟨rfl, hb⟩
  have K12 := Lib.hid (keepB K2.out hb)
  clear K2
  have K13 := Lib.hid (keepB K3.out hb)
  clear K3
  have K14 := Lib.hid (keepB K4.out hb)
  clear K4
  have K15 := Lib.hid (keepB K5.out hb)
  clear K5
  have HB16 := Lib.hid (HB6.out.trans (hb.mono HB6.out.size))
  clear HB6
  clear hb
  have c17 := (cell_of_row _ _ 0 _ _ _ K12.out).trans (rfl : _ = some (.int .u32 1 : Value))
  have c18 := (cell_of_row _ _ 2 _ _ _ K12.out).trans (rfl : _ = some (.int .u32 ((x : Int) + 2147483648) : Value))
  have c19 := (cell_of_row _ _ 3 _ _ _ K12.out).trans (rfl : _ = some (.int .u32 steps : Value))
  have c20 := (cell_of_row _ _ 5 _ _ _ K12.out).trans (rfl : _ = some (.bool false : Value))
  have f21 := fun j => frozen_of_row _ _ j _ _ K12.out
  go_upto_region 7 with fail
  clear c17 c18 c19 c20 f21
  have hal := (Below.refl wI.heap.size wI).alloc (Nat.le_refl _) (.cells #[.int .u32 0, .int .u32 0, .int .u32 0, .int .u32 0] 102)
  have KA0 := Lib.hid (heap_alloc_new wI (.cells #[.int .u32 0, .int .u32 0, .int .u32 0, .int .u32 0] 102))
  have hlt : w.heap.size + 1 + 1 + 1 < wI.heap.size := lt_heap K15.out
  generalize wI.alloc (.cells #[.int .u32 0, .int .u32 0, .int .u32 0, .int .u32 0] 102) = wL at hal KA0 ⊢
  have K22 := Lib.hid (keepB K12.out hal)
  clear K12
  have K23 := Lib.hid (keepB K13.out hal)
  clear K13
  have K24 := Lib.hid (keepB K14.out hal)
  clear K14
  have K25 := Lib.hid (keepB K15.out hal)
  clear K15
  have HB26 := Lib.hid (HB16.out.trans (hal.mono HB16.out.size))
  clear HB16
  clear hal
  generalize wI.heap.size = bA at hlt KA0 ⊢
  go_wp2_with fail
  go_loopw [7] (fun i wr => ∃ j : Nat, j ≤ 4 ∧ i = .int .i64 j ∧ wr.heap[w.heap.size]? = some (.cells #[.int .u32 1, .int .u32 head, .int .u32 ((x : Int) + 2147483648), .int .u32 steps, .int .u32 moved, .bool false, .int .u32 from_, .int .u32 to_, .int .u32 left, .int .u32 next, .bool asks] 24 (0, 0)) ∧ wr.heap[w.heap.size + 1]? = some (.cells #[.slice (some ⟨b1, 0, none⟩) (4096 * n) c1, .slice (some ⟨b2, 0, none⟩) n c2, .int .i64 q] 30 (0, 0)) ∧ wr.heap[w.heap.size + 1 + 1]? = some (.cells #[.int .u32 0, .int .u32 0, .int .u32 0, .int .u32 0, .int .u32 0, .bool false, .int .u32 0, .int .u32 0, .int .u32 0, .int .u32 0, .bool false] 24 (0, 0)) ∧ wr.heap[w.heap.size + 1 + 1 + 1]? = some (.cells #[.slice none 0 0, .slice none 0 0, .int .i64 0] 30 (0, 0)) ∧ wr.heap[bA]? = some (.cells (w4a W0 W1 W2 W3 j) 102 (0, 0)) ∧ Below w.heap.size w wr) (fun i _ => 4 - (intOf i).toNat)
  case atStart => exact ⟨0, by omega, rfl, K22.out, K23.out, K24.out, K25.out, KA0.out, HB26.out⟩
  case round =>
    clear K22 K23 K24 K25 KA0 HB26
    obtain ⟨j, hj, rfl, ks, km, krs, krm, ka, hbl⟩ := hrel
    have K27 := Lib.hid ks
    have K28 := Lib.hid km
    have K29 := Lib.hid krs
    have K30 := Lib.hid krm
    have HB31 := Lib.hid hbl
    have KA1 := Lib.hid ka
    clear ks km krs krm ka hbl
    have hj4 : j = 0 ∨ j = 1 ∨ j = 2 ∨ j = 3 ∨ j = 4 := by omega
    rcases hj4 with rfl | rfl | rfl | rfl | rfl
    · skip
      have KA2 : Hid (wr.heap[bA]? = some (.cells #[.int .u32 0, .int .u32 0, .int .u32 0, .int .u32 0] 102 (0, 0))) := KA1
      have HGJ := Lib.hid ((HG.out wr (HR1.out.below HB31.out)).1)
      have c32 := (cell_of_row _ _ 2 _ _ _ K27.out).trans (rfl : _ = some (.int .u32 ((x : Int) + 2147483648) : Value))
      have c33 := (cell_of_row _ _ 0 _ _ _ K28.out).trans (rfl : _ = some (.slice (some ⟨b1, 0, none⟩) (4096 * n) c1 : Value))
      have c34 := (cell_of_row _ _ 0 _ _ _ KA2.out).trans (rfl : _ = some (.int .u32 0 : Value))
      have f35 := fun j => frozen_of_row _ _ j _ _ KA2.out
      go_wp2_with fail
      refine (HGJ.out).mono ?_
      rintro e wG ⟨rfl, rfl⟩
      have hkk : ((wr).setCell ⟨bA, 0, none⟩ (.int .u32 W0)).heap[bA]? = some (.cells #[.int .u32 W0, .int .u32 0, .int .u32 0, .int .u32 0] 102 (0, 0)) := (set_cells (KA2.out)).trans rfl
      have hx37 := Lib.hid (show KX (fun k => k = bA) wr ((wr).setCell ⟨bA, 0, none⟩ (.int .u32 W0)) from (KX.refl (fun k => k = bA) wr).setCell (p := ⟨bA, 0, none⟩) (.inl rfl) _)
      go_upto_region 9 with fail
      generalize ((wr).setCell ⟨bA, 0, none⟩ (.int .u32 W0)) = w36 at hkk hx37 ⊢
      clear c32 c33 c34 f35
      have K38 := Lib.hid (hx37.out.heap K27.out (by omega))
      clear K27
      have K39 := Lib.hid (hx37.out.heap K28.out (by omega))
      clear K28
      have K40 := Lib.hid (hx37.out.heap K29.out (by omega))
      clear K29
      have K41 := Lib.hid (hx37.out.heap K30.out (by omega))
      clear K30
      have K42 := Lib.hid hkk
      clear hkk KA2
      have HB43 := Lib.hid (HB31.out.trans (hx37.out.below (B := w.heap.size) (fun k hk e => by omega) HB31.out.size))
      clear HB31 hx37
      go_wp2_with fail
      go_roundw
      case rel => exact ⟨1, by omega, by go_num, K38.out, K39.out, K40.out, K41.out, K42.out, HB43.out⟩
      case measure => simp [intOf]
    · skip
      have KA2 : Hid (wr.heap[bA]? = some (.cells #[.int .u32 W0, .int .u32 0, .int .u32 0, .int .u32 0] 102 (0, 0))) := KA1
      have HGJ := Lib.hid ((HG.out wr (HR1.out.below HB31.out)).2.1)
      have c44 := (cell_of_row _ _ 2 _ _ _ K27.out).trans (rfl : _ = some (.int .u32 ((x : Int) + 2147483648) : Value))
      have c45 := (cell_of_row _ _ 0 _ _ _ K28.out).trans (rfl : _ = some (.slice (some ⟨b1, 0, none⟩) (4096 * n) c1 : Value))
      have c46 := (cell_of_row _ _ 1 _ _ _ KA2.out).trans (rfl : _ = some (.int .u32 0 : Value))
      have f47 := fun j => frozen_of_row _ _ j _ _ KA2.out
      go_wp2_with fail
      refine (HGJ.out).mono ?_
      rintro e wG ⟨rfl, rfl⟩
      have hkk : ((wr).setCell ⟨bA, 1, none⟩ (.int .u32 W1)).heap[bA]? = some (.cells #[.int .u32 W0, .int .u32 W1, .int .u32 0, .int .u32 0] 102 (0, 0)) := (set_cells (KA2.out)).trans rfl
      have hx49 := Lib.hid (show KX (fun k => k = bA) wr ((wr).setCell ⟨bA, 1, none⟩ (.int .u32 W1)) from (KX.refl (fun k => k = bA) wr).setCell (p := ⟨bA, 1, none⟩) (.inl rfl) _)
      go_upto_region 9 with fail
      generalize ((wr).setCell ⟨bA, 1, none⟩ (.int .u32 W1)) = w48 at hkk hx49 ⊢
      clear c44 c45 c46 f47
      have K50 := Lib.hid (hx49.out.heap K27.out (by omega))
      clear K27
      have K51 := Lib.hid (hx49.out.heap K28.out (by omega))
      clear K28
      have K52 := Lib.hid (hx49.out.heap K29.out (by omega))
      clear K29
      have K53 := Lib.hid (hx49.out.heap K30.out (by omega))
      clear K30
      have K54 := Lib.hid hkk
      clear hkk KA2
      have HB55 := Lib.hid (HB31.out.trans (hx49.out.below (B := w.heap.size) (fun k hk e => by omega) HB31.out.size))
      clear HB31 hx49
      go_wp2_with fail
      go_roundw
      case rel => exact ⟨2, by omega, by go_num, K50.out, K51.out, K52.out, K53.out, K54.out, HB55.out⟩
      case measure => simp [intOf]
    · skip
      have KA2 : Hid (wr.heap[bA]? = some (.cells #[.int .u32 W0, .int .u32 W1, .int .u32 0, .int .u32 0] 102 (0, 0))) := KA1
      have HGJ := Lib.hid ((HG.out wr (HR1.out.below HB31.out)).2.2.1)
      have c56 := (cell_of_row _ _ 2 _ _ _ K27.out).trans (rfl : _ = some (.int .u32 ((x : Int) + 2147483648) : Value))
      have c57 := (cell_of_row _ _ 0 _ _ _ K28.out).trans (rfl : _ = some (.slice (some ⟨b1, 0, none⟩) (4096 * n) c1 : Value))
      have c58 := (cell_of_row _ _ 2 _ _ _ KA2.out).trans (rfl : _ = some (.int .u32 0 : Value))
      have f59 := fun j => frozen_of_row _ _ j _ _ KA2.out
      go_wp2_with fail
      refine (HGJ.out).mono ?_
      rintro e wG ⟨rfl, rfl⟩
      have hkk : ((wr).setCell ⟨bA, 2, none⟩ (.int .u32 W2)).heap[bA]? = some (.cells #[.int .u32 W0, .int .u32 W1, .int .u32 W2, .int .u32 0] 102 (0, 0)) := (set_cells (KA2.out)).trans rfl
      have hx61 := Lib.hid (show KX (fun k => k = bA) wr ((wr).setCell ⟨bA, 2, none⟩ (.int .u32 W2)) from (KX.refl (fun k => k = bA) wr).setCell (p := ⟨bA, 2, none⟩) (.inl rfl) _)
      go_upto_region 9 with fail
      generalize ((wr).setCell ⟨bA, 2, none⟩ (.int .u32 W2)) = w60 at hkk hx61 ⊢
      clear c56 c57 c58 f59
      have K62 := Lib.hid (hx61.out.heap K27.out (by omega))
      clear K27
      have K63 := Lib.hid (hx61.out.heap K28.out (by omega))
      clear K28
      have K64 := Lib.hid (hx61.out.heap K29.out (by omega))
      clear K29
      have K65 := Lib.hid (hx61.out.heap K30.out (by omega))
      clear K30
      have K66 := Lib.hid hkk
      clear hkk KA2
      have HB67 := Lib.hid (HB31.out.trans (hx61.out.below (B := w.heap.size) (fun k hk e => by omega) HB31.out.size))
      clear HB31 hx61
      go_wp2_with fail
      go_roundw
      case rel => exact ⟨3, by omega, by go_num, K62.out, K63.out, K64.out, K65.out, K66.out, HB67.out⟩
      case measure => simp [intOf]
    · skip
      have KA2 : Hid (wr.heap[bA]? = some (.cells #[.int .u32 W0, .int .u32 W1, .int .u32 W2, .int .u32 0] 102 (0, 0))) := KA1
      have HGJ := Lib.hid ((HG.out wr (HR1.out.below HB31.out)).2.2.2)
      have c68 := (cell_of_row _ _ 2 _ _ _ K27.out).trans (rfl : _ = some (.int .u32 ((x : Int) + 2147483648) : Value))
      have c69 := (cell_of_row _ _ 0 _ _ _ K28.out).trans (rfl : _ = some (.slice (some ⟨b1, 0, none⟩) (4096 * n) c1 : Value))
      have c70 := (cell_of_row _ _ 3 _ _ _ KA2.out).trans (rfl : _ = some (.int .u32 0 : Value))
      have f71 := fun j => frozen_of_row _ _ j _ _ KA2.out
      go_wp2_with fail
      refine (HGJ.out).mono ?_
      rintro e wG ⟨rfl, rfl⟩
      have hkk : ((wr).setCell ⟨bA, 3, none⟩ (.int .u32 W3)).heap[bA]? = some (.cells #[.int .u32 W0, .int .u32 W1, .int .u32 W2, .int .u32 W3] 102 (0, 0)) := (set_cells (KA2.out)).trans rfl
      have hx73 := Lib.hid (show KX (fun k => k = bA) wr ((wr).setCell ⟨bA, 3, none⟩ (.int .u32 W3)) from (KX.refl (fun k => k = bA) wr).setCell (p := ⟨bA, 3, none⟩) (.inl rfl) _)
      go_upto_region 9 with fail
      generalize ((wr).setCell ⟨bA, 3, none⟩ (.int .u32 W3)) = w72 at hkk hx73 ⊢
      clear c68 c69 c70 f71
      have K74 := Lib.hid (hx73.out.heap K27.out (by omega))
      clear K27
      have K75 := Lib.hid (hx73.out.heap K28.out (by omega))
      clear K28
      have K76 := Lib.hid (hx73.out.heap K29.out (by omega))
      clear K29
      have K77 := Lib.hid (hx73.out.heap K30.out (by omega))
      clear K30
      have K78 := Lib.hid hkk
      clear hkk KA2
      have HB79 := Lib.hid (HB31.out.trans (hx73.out.below (B := w.heap.size) (fun k hk e => by omega) HB31.out.size))
      clear HB31 hx73
      go_wp2_with fail
      go_roundw
      case rel => exact ⟨4, by omega, by go_num, K74.out, K75.out, K76.out, K77.out, K78.out, HB79.out⟩
      case measure => simp [intOf]
    · skip
      have KA2 : Hid (wr.heap[bA]? = some (.cells #[.int .u32 W0, .int .u32 W1, .int .u32 W2, .int .u32 W3] 102 (0, 0))) := KA1
      have c80 := (cell_of_row _ _ 3 _ _ _ K27.out).trans (rfl : _ = some (.int .u32 steps : Value))
      have f81 := fun j => frozen_of_row _ _ j _ _ K27.out
      have hkk : ((wr).setCell ⟨w.heap.size, 3, none⟩ (.int .u32 ((steps : Int) + 1))).heap[w.heap.size]? = some (.cells #[.int .u32 1, .int .u32 head, .int .u32 ((x : Int) + 2147483648), .int .u32 ((steps : Int) + 1), .int .u32 moved, .bool false, .int .u32 from_, .int .u32 to_, .int .u32 left, .int .u32 next, .bool asks] 24 (0, 0)) := (set_cells (K27.out)).trans rfl
      have hx83 := Lib.hid (show KX (fun k => k = w.heap.size) wr ((wr).setCell ⟨w.heap.size, 3, none⟩ (.int .u32 ((steps : Int) + 1))) from (KX.refl (fun k => k = w.heap.size) wr).setCell (p := ⟨w.heap.size, 3, none⟩) (.inl rfl) _)
      go_upto_region 12 with fail
      generalize ((wr).setCell ⟨w.heap.size, 3, none⟩ (.int .u32 ((steps : Int) + 1))) = w82 at hkk hx83 ⊢
      clear c80 f81
      have K84 := Lib.hid (hx83.out.heap K28.out (by omega))
      clear K28
      have K85 := Lib.hid (hx83.out.heap K29.out (by omega))
      clear K29
      have K86 := Lib.hid (hx83.out.heap K30.out (by omega))
      clear K30
      have K87 := Lib.hid (hx83.out.heap KA2.out (by omega))
      clear KA2
      have K88 := Lib.hid hkk
      clear hkk K27
      have HB89 := Lib.hid (HB31.out.trans (hx83.out.below (B := w.heap.size) (fun k hk e => by omega) HB31.out.size))
      clear HB31 hx83
      have c90 := (cell_of_row _ _ 0 _ _ _ K87.out).trans (rfl : _ = some (.int .u32 W0 : Value))
      have c91 := (cell_of_row _ _ 1 _ _ _ K87.out).trans (rfl : _ = some (.int .u32 W1 : Value))
      have c92 := (cell_of_row _ _ 2 _ _ _ K87.out).trans (rfl : _ = some (.int .u32 W2 : Value))
      have c93 := (cell_of_row _ _ 3 _ _ _ K87.out).trans (rfl : _ = some (.int .u32 W3 : Value))
      have f94 := fun j => frozen_of_row _ _ j _ _ K87.out
      go_upto_region 13 with fail
      clear c90 c91 c92 c93 f94
      have HR95 := HB89
      refine wp_region_held_drew (S := fun W => KX (fun k => k = w.heap.size + 1 + 1 ∨ k = w.heap.size + 1 + 1 + 1) (w82) W) (by kernel_rfl) ((KX.refl (fun k => k = w.heap.size + 1 + 1 ∨ k = w.heap.size + 1 + 1 + 1) _).drew) (fun hHeld => ?_)
      refine wpAnyH_take (i := 0) rfl (by kernel_rfl) (by kernel_rfl) (by kernel_rfl) (fun _ _ _ h => h) (yieldsIf_load_mid (by rfl) 24 _ rfl (w.heap.size) 0 rfl #[.int .u32 1, .int .u32 head, .int .u32 ((x : Int) + 2147483648), .int .u32 ((steps : Int) + 1), .int .u32 moved, .bool false, .int .u32 from_, .int .u32 to_, .int .u32 left, .int .u32 next, .bool asks].toList _ (fun W hSw => range_of_all (hSw.heap K88.out (by omega))) Tryd.underlying24 rfl ?hi0) (by assumption) ?rest0
      case hi0 => kernel_rfl
      simp only [Act.put, List.getElem_toArray, List.getElem_cons_zero, List.setIfInBounds_toArray, List.set_cons_zero, List.set_cons_succ]
      refine wpAnyH_take (i := 2) rfl (by kernel_rfl) (by kernel_rfl) (by kernel_rfl) (fun _ _ _ h => h) (yieldsIf_load_mid (by rfl) 30 _ rfl (w.heap.size + 1) 0 rfl #[.slice (some ⟨b1, 0, none⟩) (4096 * n) c1, .slice (some ⟨b2, 0, none⟩) n c2, .int .i64 q].toList _ (fun W hSw => range_of_all (hSw.heap K84.out (by omega))) Tryd.underlying30 rfl ?hi2) (by assumption) ?rest2
      case hi2 => kernel_rfl
      simp only [Act.put, List.getElem_toArray, List.getElem_cons_zero, List.getElem_cons_succ, List.setIfInBounds_toArray, List.set_cons_zero, List.set_cons_succ]
      refine wpAnyH_ready (rs := [1]) (by kernel_rfl) (by simp) ?_
      refine AllReadyH.cons (o := _) rfl (fun K hK => ?_) (AllReadyH.nil)
      simp only [List.getElem_toArray, List.getElem_cons_zero, List.getElem_cons_succ]
      go_simp
      refine (HF.out _).mono ?_
      rintro e w96 ⟨rfl, hb⟩
      refine hK.out _ _ (hHeld.trans (KX.of_below (X := (fun k => k = w.heap.size + 1 + 1 ∨ k = w.heap.size + 1 + 1 + 1)) hb) (fun _ _ h => h)) (fun hHeld97 => ?_)
      clear hK K
      have K98 := Lib.hid (keepB (a := (w82).drew) K88.out hb)
      have K99 := Lib.hid (keepB (a := (w82).drew) K84.out hb)
      have K100 := Lib.hid (keepB (a := (w82).drew) K85.out hb)
      have K101 := Lib.hid (keepB (a := (w82).drew) K86.out hb)
      have K102 := Lib.hid (keepB (a := (w82).drew) K87.out hb)
      have HB103 := Lib.hid ((HB89.out.drew).trans (hb.mono (HB89.out.drew).size))
      clear HB89
      clear hb
      have HO104 := Lib.hid (show (#[.int .u32 3, .int .u32 head, .int .u32 ((x : Int) + 2147483648), .int .u32 ((steps : Int) + 1), .int .u32 moved, .bool false, .int .u32 0, .int .u32 0, .int .u32 0, .int .u32 0, .bool true] : Array Value).all (·.oneCell') = true by simp [Value.oneCell'])
      have HO105 := Lib.hid (show (#[.slice (some ⟨b1, 0, none⟩) (4096 * n) c1, .slice (some ⟨b2, 0, none⟩) n c2, .int .i64 q] : Array Value).all (·.oneCell') = true by simp [Value.oneCell'])
      refine wpAnyH_ready (rs := [3]) (by kernel_rfl) (by simp) ?_
      refine AllReadyH.cons (o := _) rfl (fun K hK => ?_) (AllReadyH.nil)
      simp only [List.getElem_toArray, List.getElem_cons_zero, List.getElem_cons_succ]
      rw [if_pos (by rfl)]
      refine wp_store_row 24 _ _ rfl (w.heap.size + 1 + 1) #[.int .u32 3, .int .u32 head, .int .u32 ((x : Int) + 2147483648), .int .u32 ((steps : Int) + 1), .int .u32 moved, .bool false, .int .u32 0, .int .u32 0, .int .u32 0, .int .u32 0, .bool true] rfl rfl 24 #[.int .u32 0, .int .u32 0, .int .u32 0, .int .u32 0, .int .u32 0, .bool false, .int .u32 0, .int .u32 0, .int .u32 0, .int .u32 0, .bool false] K100.out (by kernel_rfl) rfl HO104.out ?_
      refine hK.out _ _ (hHeld97.setRow (.inl (by omega)) _) (fun hq1 => ?_)
      clear hK K
      try simp only [Act.put]
      have ka : ((w96).setRow (w.heap.size + 1 + 1) #[.int .u32 3, .int .u32 head, .int .u32 ((x : Int) + 2147483648), .int .u32 ((steps : Int) + 1), .int .u32 moved, .bool false, .int .u32 0, .int .u32 0, .int .u32 0, .int .u32 0, .bool true]).heap[w.heap.size + 1 + 1]? = some (.cells #[.int .u32 3, .int .u32 head, .int .u32 ((x : Int) + 2147483648), .int .u32 ((steps : Int) + 1), .int .u32 moved, .bool false, .int .u32 0, .int .u32 0, .int .u32 0, .int .u32 0, .bool true] 24 (0, 0)) := setRow_heap _ _ _ _ _ _ K100.out
      have kb : ((w96).setRow (w.heap.size + 1 + 1) #[.int .u32 3, .int .u32 head, .int .u32 ((x : Int) + 2147483648), .int .u32 ((steps : Int) + 1), .int .u32 moved, .bool false, .int .u32 0, .int .u32 0, .int .u32 0, .int .u32 0, .bool true]).heap[w.heap.size + 1 + 1 + 1]? = some (.cells #[.slice none 0 0, .slice none 0 0, .int .i64 0] 30 (0, 0)) := (heap_row_other (by omega)).trans K101.out
      generalize (w96).setRow (w.heap.size + 1 + 1) #[.int .u32 3, .int .u32 head, .int .u32 ((x : Int) + 2147483648), .int .u32 ((steps : Int) + 1), .int .u32 moved, .bool false, .int .u32 0, .int .u32 0, .int .u32 0, .int .u32 0, .bool true] = wq at ka kb hq1 ⊢
      refine wpAnyH_ready (rs := [4]) (by kernel_rfl) (by simp) ?_
      refine AllReadyH.cons (o := _) rfl (fun K hK => ?_) (AllReadyH.nil)
      simp only [List.getElem_toArray, List.getElem_cons_zero, List.getElem_cons_succ]
      rw [if_pos (by rfl)]
      refine wp_store_row 30 _ _ rfl (w.heap.size + 1 + 1 + 1) #[.slice (some ⟨b1, 0, none⟩) (4096 * n) c1, .slice (some ⟨b2, 0, none⟩) n c2, .int .i64 q] rfl rfl 30 #[.slice none 0 0, .slice none 0 0, .int .i64 0] kb (by kernel_rfl) rfl HO105.out ?_
      refine hK.out _ _ (hq1.setRow (.inl (by omega)) _) (fun hq2 => ?_)
      clear hK K
      try simp only [Act.put]
      have kc : (wq.setRow (w.heap.size + 1 + 1 + 1) #[.slice (some ⟨b1, 0, none⟩) (4096 * n) c1, .slice (some ⟨b2, 0, none⟩) n c2, .int .i64 q]).heap[w.heap.size + 1 + 1]? = some (.cells #[.int .u32 3, .int .u32 head, .int .u32 ((x : Int) + 2147483648), .int .u32 ((steps : Int) + 1), .int .u32 moved, .bool false, .int .u32 0, .int .u32 0, .int .u32 0, .int .u32 0, .bool true] 24 (0, 0)) := (heap_row_other (by omega)).trans ka
      have kd : (wq.setRow (w.heap.size + 1 + 1 + 1) #[.slice (some ⟨b1, 0, none⟩) (4096 * n) c1, .slice (some ⟨b2, 0, none⟩) n c2, .int .i64 q]).heap[w.heap.size + 1 + 1 + 1]? = some (.cells #[.slice (some ⟨b1, 0, none⟩) (4096 * n) c1, .slice (some ⟨b2, 0, none⟩) n c2, .int .i64 q] 30 (0, 0)) := setRow_heap _ _ _ _ _ _ kb
      generalize wq.setRow (w.heap.size + 1 + 1 + 1) #[.slice (some ⟨b1, 0, none⟩) (4096 * n) c1, .slice (some ⟨b2, 0, none⟩) n c2, .int .i64 q] = wz at kc kd hq2 ⊢
      clear ka kb hq1
      refine wpAnyH_done (by kernel_rfl) ?_ _
      have HBE := Lib.hid (HR95.out.trans (hq2.below (B := w.heap.size) (fun k hk e => by omega) HR95.out.size))
      go_wp2_with fail
      exact bodyPost_ret (v := .tuple #[.agg #[.int .u32 3, .int .u32 head, .int .u32 ((x : Int) + 2147483648), .int .u32 ((steps : Int) + 1), .int .u32 moved, .bool false, .int .u32 0, .int .u32 0, .int .u32 0, .int .u32 0, .bool true], .agg #[.slice (some ⟨b1, 0, none⟩) (4096 * n) c1, .slice (some ⟨b2, 0, none⟩) n c2, .int .i64 q]]) (results_two_cells Tryd.results12 _ _ (w.heap.size + 1 + 1) (w.heap.size + 1 + 1 + 1) 24 30 #[.int .u32 3, .int .u32 head, .int .u32 ((x : Int) + 2147483648), .int .u32 ((steps : Int) + 1), .int .u32 moved, .bool false, .int .u32 0, .int .u32 0, .int .u32 0, .int .u32 0, .bool true] #[.slice (some ⟨b1, 0, none⟩) (4096 * n) c1, .slice (some ⟨b2, 0, none⟩) n c2, .int .i64 q] (0, 0) (0, 0) _ _ rfl rfl kc kd Tryd.underlying24 rfl (by kernel_rfl) Tryd.underlying30 rfl (by kernel_rfl)) rfl ⟨rfl, HBE.out⟩

set_option maxRecDepth 100000 in
set_option maxHeartbeats 8000000 in
theorem r12_tk_w_long (head x steps moved from_ to_ left next : Nat) (asks : Bool) (W0 W1 W2 W3 : Nat) {f : Nat → UInt8} {b1 c1 b2 n c2 : Nat} {q : Int} (w : World) (hs : steps ≤ 63) (hx4 : (x + 2147483648) % 4 = 0) (hx1 : x + 16 ≤ 4096 * n) (hn2 : n ≤ 16384) (HR1 : Hid (Row w b1 5 (4096 * n) (cellU f))) (HI : Hid (∀ W, Calls Tryd.prog 54 #[.agg #[.slice (some ⟨b1, 0, none⟩) (4096 * n) c1, .slice (some ⟨b2, 0, none⟩) n c2, .int .i64 q], .int .u32 ((x : Int) + 2147483648), .int .u32 16] W fun e w' => e = .returned (.bool true) ∧ Below W.heap.size W w')) (HG : Hid (∀ W, Row W b1 5 (4096 * n) (cellU f) → Calls Tryd.prog 56 #[.slice (some ⟨b1, 0, none⟩) (4096 * n) c1, .int .i64 ((x : Int)), .int .i64 4] W (fun e w' => e = .returned (.tuple #[.int .u32 W0, .int .i64 0]) ∧ W = w') ∧ Calls Tryd.prog 56 #[.slice (some ⟨b1, 0, none⟩) (4096 * n) c1, .int .i64 ((x : Int) + 4), .int .i64 4] W (fun e w' => e = .returned (.tuple #[.int .u32 W1, .int .i64 0]) ∧ W = w') ∧ Calls Tryd.prog 56 #[.slice (some ⟨b1, 0, none⟩) (4096 * n) c1, .int .i64 ((x : Int) + 8), .int .i64 4] W (fun e w' => e = .returned (.tuple #[.int .u32 W2, .int .i64 0]) ∧ W = w') ∧ Calls Tryd.prog 56 #[.slice (some ⟨b1, 0, none⟩) (4096 * n) c1, .int .i64 ((x : Int) + 12), .int .i64 4] W (fun e w' => e = .returned (.tuple #[.int .u32 W3, .int .i64 0]) ∧ W = w'))) (hw0 : ¬ W2 = 0) (hw : 65536 < W2) (HF : Hid (∀ W, Calls Tryd.prog 55 #[.agg #[.int .u32 1, .int .u32 head, .int .u32 ((x : Int) + 2147483648), .int .u32 ((steps : Int) + 1), .int .u32 moved, .bool false, .int .u32 from_, .int .u32 to_, .int .u32 left, .int .u32 next, .bool asks]] W fun e w' => e = .returned (.agg #[.int .u32 3, .int .u32 head, .int .u32 ((x : Int) + 2147483648), .int .u32 ((steps : Int) + 1), .int .u32 moved, .bool false, .int .u32 0, .int .u32 0, .int .u32 0, .int .u32 0, .bool true]) ∧ Below W.heap.size W w')) (HC : Hid (∀ W, Calls Tryd.prog 41 #[.agg #[.int .u32 1, .int .u32 head, .int .u32 ((x : Int) + 2147483648), .int .u32 steps, .int .u32 moved, .bool false, .int .u32 from_, .int .u32 to_, .int .u32 left, .int .u32 next, .bool asks]] W fun e w' => e = .returned (.int .i64 0) ∧ Below W.heap.size W w')) : Calls Tryd.prog 12 #[.agg #[.int .u32 1, .int .u32 head, .int .u32 ((x : Int) + 2147483648), .int .u32 steps, .int .u32 moved, .bool false, .int .u32 from_, .int .u32 to_, .int .u32 left, .int .u32 next, .bool asks], .agg #[.slice (some ⟨b1, 0, none⟩) (4096 * n) c1, .slice (some ⟨b2, 0, none⟩) n c2, .int .i64 q]] w fun e w' => e = .returned (.tuple #[.agg #[.int .u32 3, .int .u32 head, .int .u32 ((x : Int) + 2147483648), .int .u32 ((steps : Int) + 1), .int .u32 moved, .bool false, .int .u32 0, .int .u32 0, .int .u32 0, .int .u32 0, .bool true], .agg #[.slice (some ⟨b1, 0, none⟩) (4096 * n) c1, .slice (some ⟨b2, 0, none⟩) n c2, .int .i64 q]]) ∧ Below w.heap.size w w' := by
  have e1 : decide ((63 : Int) < (steps : Int)) = false := decide_eq_false (by omega)
  have e2 : ((((x : Int) + 2147483648) % 4) != 0) = false := by simp; omega
  have hst0 : (0 : Int) ≤ (steps : Int) := by omega
  have hst1 : (steps : Int) ≤ 63 := by omega
  have hxa : (0 : Int) ≤ (x : Int) := by omega
  have hxb : (x : Int) ≤ 67108864 := by omega
  have e3 : ((W2 : Int) == 0) = false := by simp; omega
  have e4 : decide ((65536 : Int) < (W2 : Int)) = true := decide_eq_true (by omega)
  clear hs hx4 hx1 hn2 hw hw0
  obtain ⟨k0, k1, k2, k3, hb0⟩ := four_new w (.cells #[.int .u32 1, .int .u32 head, .int .u32 ((x : Int) + 2147483648), .int .u32 steps, .int .u32 moved, .bool false, .int .u32 from_, .int .u32 to_, .int .u32 left, .int .u32 next, .bool asks] 24) (.cells #[.slice (some ⟨b1, 0, none⟩) (4096 * n) c1, .slice (some ⟨b2, 0, none⟩) n c2, .int .i64 q] 30) (.cells #[.int .u32 0, .int .u32 0, .int .u32 0, .int .u32 0, .int .u32 0, .bool false, .int .u32 0, .int .u32 0, .int .u32 0, .int .u32 0, .bool false] 24) (.cells #[.slice none 0 0, .slice none 0 0, .int .i64 0] 30)
  have K00 := Lib.hid k0
  have K01 := Lib.hid k1
  have K02 := Lib.hid k2
  have K03 := Lib.hid k3
  have HB0 := Lib.hid hb0
  clear k0 k1 k2 k3 hb0
  go_enter Tryd.func12, Tryd.ntmps12
  go_wp2_with fail
  refine (HC.out _).mono ?_
  rintro e w1 ⟨rfl, hb⟩
  have K2 := Lib.hid (keepB K00.out hb)
  clear K00
  have K3 := Lib.hid (keepB K01.out hb)
  clear K01
  have K4 := Lib.hid (keepB K02.out hb)
  clear K02
  have K5 := Lib.hid (keepB K03.out hb)
  clear K03
  have HB6 := Lib.hid (HB0.out.trans (hb.mono HB0.out.size))
  clear HB0
  clear hb
  have c7 := (cell_of_row _ _ 0 _ _ _ K2.out).trans (rfl : _ = some (.int .u32 1 : Value))
  have c8 := (cell_of_row _ _ 2 _ _ _ K2.out).trans (rfl : _ = some (.int .u32 ((x : Int) + 2147483648) : Value))
  have c9 := (cell_of_row _ _ 3 _ _ _ K2.out).trans (rfl : _ = some (.int .u32 steps : Value))
  have c10 := (cell_of_row _ _ 5 _ _ _ K2.out).trans (rfl : _ = some (.bool false : Value))
  have f11 := fun j => frozen_of_row _ _ j _ _ K2.out
  go_wp2_with (first | go_skip | (refine load_rowH ?hw 30 _ rfl (w.heap.size + 1) rfl 30 #[.slice (some ⟨b1, 0, none⟩) (4096 * n) c1, .slice (some ⟨b2, 0, none⟩) n c2, .int .i64 q] (0, 0) _ K3.out Tryd.underlying30 rfl (by kernel_rfl) ?_; case hw => kernel_rfl))
  clear c7 c8 c9 c10 f11
  refine (HI.out _).mono ?_
  rintro e wI ⟨rfl, hb⟩
  have K12 := Lib.hid (keepB K2.out hb)
  clear K2
  have K13 := Lib.hid (keepB K3.out hb)
  clear K3
  have K14 := Lib.hid (keepB K4.out hb)
  clear K4
  have K15 := Lib.hid (keepB K5.out hb)
  clear K5
  have HB16 := Lib.hid (HB6.out.trans (hb.mono HB6.out.size))
  clear HB6
  clear hb
  have c17 := (cell_of_row _ _ 0 _ _ _ K12.out).trans (rfl : _ = some (.int .u32 1 : Value))
  have c18 := (cell_of_row _ _ 2 _ _ _ K12.out).trans (rfl : _ = some (.int .u32 ((x : Int) + 2147483648) : Value))
  have c19 := (cell_of_row _ _ 3 _ _ _ K12.out).trans (rfl : _ = some (.int .u32 steps : Value))
  have c20 := (cell_of_row _ _ 5 _ _ _ K12.out).trans (rfl : _ = some (.bool false : Value))
  have f21 := fun j => frozen_of_row _ _ j _ _ K12.out
  go_upto_region 7 with fail
  clear c17 c18 c19 c20 f21
  have hal := (Below.refl wI.heap.size wI).alloc (Nat.le_refl _) (.cells #[.int .u32 0, .int .u32 0, .int .u32 0, .int .u32 0] 102)
  have KA0 := Lib.hid (heap_alloc_new wI (.cells #[.int .u32 0, .int .u32 0, .int .u32 0, .int .u32 0] 102))
  have hlt : w.heap.size + 1 + 1 + 1 < wI.heap.size := lt_heap K15.out
  generalize wI.alloc (.cells #[.int .u32 0, .int .u32 0, .int .u32 0, .int .u32 0] 102) = wL at hal KA0 ⊢
  have K22 := Lib.hid (keepB K12.out hal)
  clear K12
  have K23 := Lib.hid (keepB K13.out hal)
  clear K13
  have K24 := Lib.hid (keepB K14.out hal)
  clear K14
  have K25 := Lib.hid (keepB K15.out hal)
  clear K15
  have HB26 := Lib.hid (HB16.out.trans (hal.mono HB16.out.size))
  clear HB16
  clear hal
  generalize wI.heap.size = bA at hlt KA0 ⊢
  go_wp2_with fail
  go_loopw [7] (fun i wr => ∃ j : Nat, j ≤ 4 ∧ i = .int .i64 j ∧ wr.heap[w.heap.size]? = some (.cells #[.int .u32 1, .int .u32 head, .int .u32 ((x : Int) + 2147483648), .int .u32 steps, .int .u32 moved, .bool false, .int .u32 from_, .int .u32 to_, .int .u32 left, .int .u32 next, .bool asks] 24 (0, 0)) ∧ wr.heap[w.heap.size + 1]? = some (.cells #[.slice (some ⟨b1, 0, none⟩) (4096 * n) c1, .slice (some ⟨b2, 0, none⟩) n c2, .int .i64 q] 30 (0, 0)) ∧ wr.heap[w.heap.size + 1 + 1]? = some (.cells #[.int .u32 0, .int .u32 0, .int .u32 0, .int .u32 0, .int .u32 0, .bool false, .int .u32 0, .int .u32 0, .int .u32 0, .int .u32 0, .bool false] 24 (0, 0)) ∧ wr.heap[w.heap.size + 1 + 1 + 1]? = some (.cells #[.slice none 0 0, .slice none 0 0, .int .i64 0] 30 (0, 0)) ∧ wr.heap[bA]? = some (.cells (w4a W0 W1 W2 W3 j) 102 (0, 0)) ∧ Below w.heap.size w wr) (fun i _ => 4 - (intOf i).toNat)
  case atStart => exact ⟨0, by omega, rfl, K22.out, K23.out, K24.out, K25.out, KA0.out, HB26.out⟩
  case round =>
    clear K22 K23 K24 K25 KA0 HB26
    obtain ⟨j, hj, rfl, ks, km, krs, krm, ka, hbl⟩ := hrel
    have K27 := Lib.hid ks
    have K28 := Lib.hid km
    have K29 := Lib.hid krs
    have K30 := Lib.hid krm
    have HB31 := Lib.hid hbl
    have KA1 := Lib.hid ka
    clear ks km krs krm ka hbl
    have hj4 : j = 0 ∨ j = 1 ∨ j = 2 ∨ j = 3 ∨ j = 4 := by omega
    rcases hj4 with rfl | rfl | rfl | rfl | rfl
    · skip
      have KA2 : Hid (wr.heap[bA]? = some (.cells #[.int .u32 0, .int .u32 0, .int .u32 0, .int .u32 0] 102 (0, 0))) := KA1
      have HGJ := Lib.hid ((HG.out wr (HR1.out.below HB31.out)).1)
      have c32 := (cell_of_row _ _ 2 _ _ _ K27.out).trans (rfl : _ = some (.int .u32 ((x : Int) + 2147483648) : Value))
      have c33 := (cell_of_row _ _ 0 _ _ _ K28.out).trans (rfl : _ = some (.slice (some ⟨b1, 0, none⟩) (4096 * n) c1 : Value))
      have c34 := (cell_of_row _ _ 0 _ _ _ KA2.out).trans (rfl : _ = some (.int .u32 0 : Value))
      have f35 := fun j => frozen_of_row _ _ j _ _ KA2.out
      go_wp2_with fail
      refine (HGJ.out).mono ?_
      rintro e wG ⟨rfl, rfl⟩
      have hkk : ((wr).setCell ⟨bA, 0, none⟩ (.int .u32 W0)).heap[bA]? = some (.cells #[.int .u32 W0, .int .u32 0, .int .u32 0, .int .u32 0] 102 (0, 0)) := (set_cells (KA2.out)).trans rfl
      have hx37 := Lib.hid (show KX (fun k => k = bA) wr ((wr).setCell ⟨bA, 0, none⟩ (.int .u32 W0)) from (KX.refl (fun k => k = bA) wr).setCell (p := ⟨bA, 0, none⟩) (.inl rfl) _)
      go_upto_region 9 with fail
      generalize ((wr).setCell ⟨bA, 0, none⟩ (.int .u32 W0)) = w36 at hkk hx37 ⊢
      clear c32 c33 c34 f35
      have K38 := Lib.hid (hx37.out.heap K27.out (by omega))
      clear K27
      have K39 := Lib.hid (hx37.out.heap K28.out (by omega))
      clear K28
      have K40 := Lib.hid (hx37.out.heap K29.out (by omega))
      clear K29
      have K41 := Lib.hid (hx37.out.heap K30.out (by omega))
      clear K30
      have K42 := Lib.hid hkk
      clear hkk KA2
      have HB43 := Lib.hid (HB31.out.trans (hx37.out.below (B := w.heap.size) (fun k hk e => by omega) HB31.out.size))
      clear HB31 hx37
      go_wp2_with fail
      go_roundw
      case rel => exact ⟨1, by omega, by go_num, K38.out, K39.out, K40.out, K41.out, K42.out, HB43.out⟩
      case measure => simp [intOf]
    · skip
      have KA2 : Hid (wr.heap[bA]? = some (.cells #[.int .u32 W0, .int .u32 0, .int .u32 0, .int .u32 0] 102 (0, 0))) := KA1
      have HGJ := Lib.hid ((HG.out wr (HR1.out.below HB31.out)).2.1)
      have c44 := (cell_of_row _ _ 2 _ _ _ K27.out).trans (rfl : _ = some (.int .u32 ((x : Int) + 2147483648) : Value))
      have c45 := (cell_of_row _ _ 0 _ _ _ K28.out).trans (rfl : _ = some (.slice (some ⟨b1, 0, none⟩) (4096 * n) c1 : Value))
      have c46 := (cell_of_row _ _ 1 _ _ _ KA2.out).trans (rfl : _ = some (.int .u32 0 : Value))
      have f47 := fun j => frozen_of_row _ _ j _ _ KA2.out
      go_wp2_with fail
      refine (HGJ.out).mono ?_
      rintro e wG ⟨rfl, rfl⟩
      have hkk : ((wr).setCell ⟨bA, 1, none⟩ (.int .u32 W1)).heap[bA]? = some (.cells #[.int .u32 W0, .int .u32 W1, .int .u32 0, .int .u32 0] 102 (0, 0)) := (set_cells (KA2.out)).trans rfl
      have hx49 := Lib.hid (show KX (fun k => k = bA) wr ((wr).setCell ⟨bA, 1, none⟩ (.int .u32 W1)) from (KX.refl (fun k => k = bA) wr).setCell (p := ⟨bA, 1, none⟩) (.inl rfl) _)
      go_upto_region 9 with fail
      generalize ((wr).setCell ⟨bA, 1, none⟩ (.int .u32 W1)) = w48 at hkk hx49 ⊢
      clear c44 c45 c46 f47
      have K50 := Lib.hid (hx49.out.heap K27.out (by omega))
      clear K27
      have K51 := Lib.hid (hx49.out.heap K28.out (by omega))
      clear K28
      have K52 := Lib.hid (hx49.out.heap K29.out (by omega))
      clear K29
      have K53 := Lib.hid (hx49.out.heap K30.out (by omega))
      clear K30
      have K54 := Lib.hid hkk
      clear hkk KA2
      have HB55 := Lib.hid (HB31.out.trans (hx49.out.below (B := w.heap.size) (fun k hk e => by omega) HB31.out.size))
      clear HB31 hx49
      go_wp2_with fail
      go_roundw
      case rel => exact ⟨2, by omega, by go_num, K50.out, K51.out, K52.out, K53.out, K54.out, HB55.out⟩
      case measure => simp [intOf]
    · skip
      have KA2 : Hid (wr.heap[bA]? = some (.cells #[.int .u32 W0, .int .u32 W1, .int .u32 0, .int .u32 0] 102 (0, 0))) := KA1
      have HGJ := Lib.hid ((HG.out wr (HR1.out.below HB31.out)).2.2.1)
      have c56 := (cell_of_row _ _ 2 _ _ _ K27.out).trans (rfl : _ = some (.int .u32 ((x : Int) + 2147483648) : Value))
      have c57 := (cell_of_row _ _ 0 _ _ _ K28.out).trans (rfl : _ = some (.slice (some ⟨b1, 0, none⟩) (4096 * n) c1 : Value))
      have c58 := (cell_of_row _ _ 2 _ _ _ KA2.out).trans (rfl : _ = some (.int .u32 0 : Value))
      have f59 := fun j => frozen_of_row _ _ j _ _ KA2.out
      go_wp2_with fail
      refine (HGJ.out).mono ?_
      rintro e wG ⟨rfl, rfl⟩
      have hkk : ((wr).setCell ⟨bA, 2, none⟩ (.int .u32 W2)).heap[bA]? = some (.cells #[.int .u32 W0, .int .u32 W1, .int .u32 W2, .int .u32 0] 102 (0, 0)) := (set_cells (KA2.out)).trans rfl
      have hx61 := Lib.hid (show KX (fun k => k = bA) wr ((wr).setCell ⟨bA, 2, none⟩ (.int .u32 W2)) from (KX.refl (fun k => k = bA) wr).setCell (p := ⟨bA, 2, none⟩) (.inl rfl) _)
      go_upto_region 9 with fail
      generalize ((wr).setCell ⟨bA, 2, none⟩ (.int .u32 W2)) = w60 at hkk hx61 ⊢
      clear c56 c57 c58 f59
      have K62 := Lib.hid (hx61.out.heap K27.out (by omega))
      clear K27
      have K63 := Lib.hid (hx61.out.heap K28.out (by omega))
      clear K28
      have K64 := Lib.hid (hx61.out.heap K29.out (by omega))
      clear K29
      have K65 := Lib.hid (hx61.out.heap K30.out (by omega))
      clear K30
      have K66 := Lib.hid hkk
      clear hkk KA2
      have HB67 := Lib.hid (HB31.out.trans (hx61.out.below (B := w.heap.size) (fun k hk e => by omega) HB31.out.size))
      clear HB31 hx61
      go_wp2_with fail
      go_roundw
      case rel => exact ⟨3, by omega, by go_num, K62.out, K63.out, K64.out, K65.out, K66.out, HB67.out⟩
      case measure => simp [intOf]
    · skip
      have KA2 : Hid (wr.heap[bA]? = some (.cells #[.int .u32 W0, .int .u32 W1, .int .u32 W2, .int .u32 0] 102 (0, 0))) := KA1
      have HGJ := Lib.hid ((HG.out wr (HR1.out.below HB31.out)).2.2.2)
      have c68 := (cell_of_row _ _ 2 _ _ _ K27.out).trans (rfl : _ = some (.int .u32 ((x : Int) + 2147483648) : Value))
      have c69 := (cell_of_row _ _ 0 _ _ _ K28.out).trans (rfl : _ = some (.slice (some ⟨b1, 0, none⟩) (4096 * n) c1 : Value))
      have c70 := (cell_of_row _ _ 3 _ _ _ KA2.out).trans (rfl : _ = some (.int .u32 0 : Value))
      have f71 := fun j => frozen_of_row _ _ j _ _ KA2.out
      go_wp2_with fail
      refine (HGJ.out).mono ?_
      rintro e wG ⟨rfl, rfl⟩
      have hkk : ((wr).setCell ⟨bA, 3, none⟩ (.int .u32 W3)).heap[bA]? = some (.cells #[.int .u32 W0, .int .u32 W1, .int .u32 W2, .int .u32 W3] 102 (0, 0)) := (set_cells (KA2.out)).trans rfl
      have hx73 := Lib.hid (show KX (fun k => k = bA) wr ((wr).setCell ⟨bA, 3, none⟩ (.int .u32 W3)) from (KX.refl (fun k => k = bA) wr).setCell (p := ⟨bA, 3, none⟩) (.inl rfl) _)
      go_upto_region 9 with fail
      generalize ((wr).setCell ⟨bA, 3, none⟩ (.int .u32 W3)) = w72 at hkk hx73 ⊢
      clear c68 c69 c70 f71
      have K74 := Lib.hid (hx73.out.heap K27.out (by omega))
      clear K27
      have K75 := Lib.hid (hx73.out.heap K28.out (by omega))
      clear K28
      have K76 := Lib.hid (hx73.out.heap K29.out (by omega))
      clear K29
      have K77 := Lib.hid (hx73.out.heap K30.out (by omega))
      clear K30
      have K78 := Lib.hid hkk
      clear hkk KA2
      have HB79 := Lib.hid (HB31.out.trans (hx73.out.below (B := w.heap.size) (fun k hk e => by omega) HB31.out.size))
      clear HB31 hx73
      go_wp2_with fail
      go_roundw
      case rel => exact ⟨4, by omega, by go_num, K74.out, K75.out, K76.out, K77.out, K78.out, HB79.out⟩
      case measure => simp [intOf]
    · skip
      have KA2 : Hid (wr.heap[bA]? = some (.cells #[.int .u32 W0, .int .u32 W1, .int .u32 W2, .int .u32 W3] 102 (0, 0))) := KA1
      have c80 := (cell_of_row _ _ 3 _ _ _ K27.out).trans (rfl : _ = some (.int .u32 steps : Value))
      have f81 := fun j => frozen_of_row _ _ j _ _ K27.out
      have hkk : ((wr).setCell ⟨w.heap.size, 3, none⟩ (.int .u32 ((steps : Int) + 1))).heap[w.heap.size]? = some (.cells #[.int .u32 1, .int .u32 head, .int .u32 ((x : Int) + 2147483648), .int .u32 ((steps : Int) + 1), .int .u32 moved, .bool false, .int .u32 from_, .int .u32 to_, .int .u32 left, .int .u32 next, .bool asks] 24 (0, 0)) := (set_cells (K27.out)).trans rfl
      have hx83 := Lib.hid (show KX (fun k => k = w.heap.size) wr ((wr).setCell ⟨w.heap.size, 3, none⟩ (.int .u32 ((steps : Int) + 1))) from (KX.refl (fun k => k = w.heap.size) wr).setCell (p := ⟨w.heap.size, 3, none⟩) (.inl rfl) _)
      go_upto_region 12 with fail
      generalize ((wr).setCell ⟨w.heap.size, 3, none⟩ (.int .u32 ((steps : Int) + 1))) = w82 at hkk hx83 ⊢
      clear c80 f81
      have K84 := Lib.hid (hx83.out.heap K28.out (by omega))
      clear K28
      have K85 := Lib.hid (hx83.out.heap K29.out (by omega))
      clear K29
      have K86 := Lib.hid (hx83.out.heap K30.out (by omega))
      clear K30
      have K87 := Lib.hid (hx83.out.heap KA2.out (by omega))
      clear KA2
      have K88 := Lib.hid hkk
      clear hkk K27
      have HB89 := Lib.hid (HB31.out.trans (hx83.out.below (B := w.heap.size) (fun k hk e => by omega) HB31.out.size))
      clear HB31 hx83
      have c90 := (cell_of_row _ _ 0 _ _ _ K87.out).trans (rfl : _ = some (.int .u32 W0 : Value))
      have c91 := (cell_of_row _ _ 1 _ _ _ K87.out).trans (rfl : _ = some (.int .u32 W1 : Value))
      have c92 := (cell_of_row _ _ 2 _ _ _ K87.out).trans (rfl : _ = some (.int .u32 W2 : Value))
      have c93 := (cell_of_row _ _ 3 _ _ _ K87.out).trans (rfl : _ = some (.int .u32 W3 : Value))
      have f94 := fun j => frozen_of_row _ _ j _ _ K87.out
      go_upto_region 13 with fail
      clear c90 c91 c92 c93 f94
      have HR95 := HB89
      refine wp_region_held_drew (S := fun W => KX (fun k => k = w.heap.size + 1 + 1 ∨ k = w.heap.size + 1 + 1 + 1) (w82) W) (by kernel_rfl) ((KX.refl (fun k => k = w.heap.size + 1 + 1 ∨ k = w.heap.size + 1 + 1 + 1) _).drew) (fun hHeld => ?_)
      refine wpAnyH_take (i := 0) rfl (by kernel_rfl) (by kernel_rfl) (by kernel_rfl) (fun _ _ _ h => h) (yieldsIf_load_mid (by rfl) 24 _ rfl (w.heap.size) 0 rfl #[.int .u32 1, .int .u32 head, .int .u32 ((x : Int) + 2147483648), .int .u32 ((steps : Int) + 1), .int .u32 moved, .bool false, .int .u32 from_, .int .u32 to_, .int .u32 left, .int .u32 next, .bool asks].toList _ (fun W hSw => range_of_all (hSw.heap K88.out (by omega))) Tryd.underlying24 rfl ?hi0) (by assumption) ?rest0
      case hi0 => kernel_rfl
      simp only [Act.put, List.getElem_toArray, List.getElem_cons_zero, List.setIfInBounds_toArray, List.set_cons_zero, List.set_cons_succ]
      refine wpAnyH_take (i := 2) rfl (by kernel_rfl) (by kernel_rfl) (by kernel_rfl) (fun _ _ _ h => h) (yieldsIf_load_mid (by rfl) 30 _ rfl (w.heap.size + 1) 0 rfl #[.slice (some ⟨b1, 0, none⟩) (4096 * n) c1, .slice (some ⟨b2, 0, none⟩) n c2, .int .i64 q].toList _ (fun W hSw => range_of_all (hSw.heap K84.out (by omega))) Tryd.underlying30 rfl ?hi2) (by assumption) ?rest2
      case hi2 => kernel_rfl
      simp only [Act.put, List.getElem_toArray, List.getElem_cons_zero, List.getElem_cons_succ, List.setIfInBounds_toArray, List.set_cons_zero, List.set_cons_succ]
      refine wpAnyH_ready (rs := [1]) (by kernel_rfl) (by simp) ?_
      refine AllReadyH.cons (o := _) rfl (fun K hK => ?_) (AllReadyH.nil)
      simp only [List.getElem_toArray, List.getElem_cons_zero, List.getElem_cons_succ]
      go_simp
      refine (HF.out _).mono ?_
      rintro e w96 ⟨rfl, hb⟩
      refine hK.out _ _ (hHeld.trans (KX.of_below (X := (fun k => k = w.heap.size + 1 + 1 ∨ k = w.heap.size + 1 + 1 + 1)) hb) (fun _ _ h => h)) (fun hHeld97 => ?_)
      clear hK K
      have K98 := Lib.hid (keepB (a := (w82).drew) K88.out hb)
      have K99 := Lib.hid (keepB (a := (w82).drew) K84.out hb)
      have K100 := Lib.hid (keepB (a := (w82).drew) K85.out hb)
      have K101 := Lib.hid (keepB (a := (w82).drew) K86.out hb)
      have K102 := Lib.hid (keepB (a := (w82).drew) K87.out hb)
      have HB103 := Lib.hid ((HB89.out.drew).trans (hb.mono (HB89.out.drew).size))
      clear HB89
      clear hb
      have HO104 := Lib.hid (show (#[.int .u32 3, .int .u32 head, .int .u32 ((x : Int) + 2147483648), .int .u32 ((steps : Int) + 1), .int .u32 moved, .bool false, .int .u32 0, .int .u32 0, .int .u32 0, .int .u32 0, .bool true] : Array Value).all (·.oneCell') = true by simp [Value.oneCell'])
      have HO105 := Lib.hid (show (#[.slice (some ⟨b1, 0, none⟩) (4096 * n) c1, .slice (some ⟨b2, 0, none⟩) n c2, .int .i64 q] : Array Value).all (·.oneCell') = true by simp [Value.oneCell'])
      refine wpAnyH_ready (rs := [3]) (by kernel_rfl) (by simp) ?_
      refine AllReadyH.cons (o := _) rfl (fun K hK => ?_) (AllReadyH.nil)
      simp only [List.getElem_toArray, List.getElem_cons_zero, List.getElem_cons_succ]
      rw [if_pos (by rfl)]
      refine wp_store_row 24 _ _ rfl (w.heap.size + 1 + 1) #[.int .u32 3, .int .u32 head, .int .u32 ((x : Int) + 2147483648), .int .u32 ((steps : Int) + 1), .int .u32 moved, .bool false, .int .u32 0, .int .u32 0, .int .u32 0, .int .u32 0, .bool true] rfl rfl 24 #[.int .u32 0, .int .u32 0, .int .u32 0, .int .u32 0, .int .u32 0, .bool false, .int .u32 0, .int .u32 0, .int .u32 0, .int .u32 0, .bool false] K100.out (by kernel_rfl) rfl HO104.out ?_
      refine hK.out _ _ (hHeld97.setRow (.inl (by omega)) _) (fun hq1 => ?_)
      clear hK K
      try simp only [Act.put]
      have ka : ((w96).setRow (w.heap.size + 1 + 1) #[.int .u32 3, .int .u32 head, .int .u32 ((x : Int) + 2147483648), .int .u32 ((steps : Int) + 1), .int .u32 moved, .bool false, .int .u32 0, .int .u32 0, .int .u32 0, .int .u32 0, .bool true]).heap[w.heap.size + 1 + 1]? = some (.cells #[.int .u32 3, .int .u32 head, .int .u32 ((x : Int) + 2147483648), .int .u32 ((steps : Int) + 1), .int .u32 moved, .bool false, .int .u32 0, .int .u32 0, .int .u32 0, .int .u32 0, .bool true] 24 (0, 0)) := setRow_heap _ _ _ _ _ _ K100.out
      have kb : ((w96).setRow (w.heap.size + 1 + 1) #[.int .u32 3, .int .u32 head, .int .u32 ((x : Int) + 2147483648), .int .u32 ((steps : Int) + 1), .int .u32 moved, .bool false, .int .u32 0, .int .u32 0, .int .u32 0, .int .u32 0, .bool true]).heap[w.heap.size + 1 + 1 + 1]? = some (.cells #[.slice none 0 0, .slice none 0 0, .int .i64 0] 30 (0, 0)) := (heap_row_other (by omega)).trans K101.out
      generalize (w96).setRow (w.heap.size + 1 + 1) #[.int .u32 3, .int .u32 head, .int .u32 ((x : Int) + 2147483648), .int .u32 ((steps : Int) + 1), .int .u32 moved, .bool false, .int .u32 0, .int .u32 0, .int .u32 0, .int .u32 0, .bool true] = wq at ka kb hq1 ⊢
      refine wpAnyH_ready (rs := [4]) (by kernel_rfl) (by simp) ?_
      refine AllReadyH.cons (o := _) rfl (fun K hK => ?_) (AllReadyH.nil)
      simp only [List.getElem_toArray, List.getElem_cons_zero, List.getElem_cons_succ]
      rw [if_pos (by rfl)]
      refine wp_store_row 30 _ _ rfl (w.heap.size + 1 + 1 + 1) #[.slice (some ⟨b1, 0, none⟩) (4096 * n) c1, .slice (some ⟨b2, 0, none⟩) n c2, .int .i64 q] rfl rfl 30 #[.slice none 0 0, .slice none 0 0, .int .i64 0] kb (by kernel_rfl) rfl HO105.out ?_
      refine hK.out _ _ (hq1.setRow (.inl (by omega)) _) (fun hq2 => ?_)
      clear hK K
      try simp only [Act.put]
      have kc : (wq.setRow (w.heap.size + 1 + 1 + 1) #[.slice (some ⟨b1, 0, none⟩) (4096 * n) c1, .slice (some ⟨b2, 0, none⟩) n c2, .int .i64 q]).heap[w.heap.size + 1 + 1]? = some (.cells #[.int .u32 3, .int .u32 head, .int .u32 ((x : Int) + 2147483648), .int .u32 ((steps : Int) + 1), .int .u32 moved, .bool false, .int .u32 0, .int .u32 0, .int .u32 0, .int .u32 0, .bool true] 24 (0, 0)) := (heap_row_other (by omega)).trans ka
      have kd : (wq.setRow (w.heap.size + 1 + 1 + 1) #[.slice (some ⟨b1, 0, none⟩) (4096 * n) c1, .slice (some ⟨b2, 0, none⟩) n c2, .int .i64 q]).heap[w.heap.size + 1 + 1 + 1]? = some (.cells #[.slice (some ⟨b1, 0, none⟩) (4096 * n) c1, .slice (some ⟨b2, 0, none⟩) n c2, .int .i64 q] 30 (0, 0)) := setRow_heap _ _ _ _ _ _ kb
      generalize wq.setRow (w.heap.size + 1 + 1 + 1) #[.slice (some ⟨b1, 0, none⟩) (4096 * n) c1, .slice (some ⟨b2, 0, none⟩) n c2, .int .i64 q] = wz at kc kd hq2 ⊢
      clear ka kb hq1
      refine wpAnyH_done (by kernel_rfl) ?_ _
      have HBE := Lib.hid (HR95.out.trans (hq2.below (B := w.heap.size) (fun k hk e => by omega) HR95.out.size))
      go_wp2_with fail
      exact bodyPost_ret (v := .tuple #[.agg #[.int .u32 3, .int .u32 head, .int .u32 ((x : Int) + 2147483648), .int .u32 ((steps : Int) + 1), .int .u32 moved, .bool false, .int .u32 0, .int .u32 0, .int .u32 0, .int .u32 0, .bool true], .agg #[.slice (some ⟨b1, 0, none⟩) (4096 * n) c1, .slice (some ⟨b2, 0, none⟩) n c2, .int .i64 q]]) (results_two_cells Tryd.results12 _ _ (w.heap.size + 1 + 1) (w.heap.size + 1 + 1 + 1) 24 30 #[.int .u32 3, .int .u32 head, .int .u32 ((x : Int) + 2147483648), .int .u32 ((steps : Int) + 1), .int .u32 moved, .bool false, .int .u32 0, .int .u32 0, .int .u32 0, .int .u32 0, .bool true] #[.slice (some ⟨b1, 0, none⟩) (4096 * n) c1, .slice (some ⟨b2, 0, none⟩) n c2, .int .i64 q] (0, 0) (0, 0) _ _ rfl rfl kc kd Tryd.underlying24 rfl (by kernel_rfl) Tryd.underlying30 rfl (by kernel_rfl)) rfl ⟨rfl, HBE.out⟩

set_option maxRecDepth 100000 in
set_option maxHeartbeats 8000000 in
theorem r12_tk_w_ok (head x steps moved from_ to_ left next : Nat) (asks : Bool) (W0 W1 W2 W3 : Nat) {f : Nat → UInt8} {b1 c1 b2 n c2 : Nat} {q : Int} (w : World) (hs : steps ≤ 63) (hx4 : (x + 2147483648) % 4 = 0) (hx1 : x + 16 ≤ 4096 * n) (hn2 : n ≤ 16384) (HR1 : Hid (Row w b1 5 (4096 * n) (cellU f))) (HI : Hid (∀ W, Calls Tryd.prog 54 #[.agg #[.slice (some ⟨b1, 0, none⟩) (4096 * n) c1, .slice (some ⟨b2, 0, none⟩) n c2, .int .i64 q], .int .u32 ((x : Int) + 2147483648), .int .u32 16] W fun e w' => e = .returned (.bool true) ∧ Below W.heap.size W w')) (HG : Hid (∀ W, Row W b1 5 (4096 * n) (cellU f) → Calls Tryd.prog 56 #[.slice (some ⟨b1, 0, none⟩) (4096 * n) c1, .int .i64 ((x : Int)), .int .i64 4] W (fun e w' => e = .returned (.tuple #[.int .u32 W0, .int .i64 0]) ∧ W = w') ∧ Calls Tryd.prog 56 #[.slice (some ⟨b1, 0, none⟩) (4096 * n) c1, .int .i64 ((x : Int) + 4), .int .i64 4] W (fun e w' => e = .returned (.tuple #[.int .u32 W1, .int .i64 0]) ∧ W = w') ∧ Calls Tryd.prog 56 #[.slice (some ⟨b1, 0, none⟩) (4096 * n) c1, .int .i64 ((x : Int) + 8), .int .i64 4] W (fun e w' => e = .returned (.tuple #[.int .u32 W2, .int .i64 0]) ∧ W = w') ∧ Calls Tryd.prog 56 #[.slice (some ⟨b1, 0, none⟩) (4096 * n) c1, .int .i64 ((x : Int) + 12), .int .i64 4] W (fun e w' => e = .returned (.tuple #[.int .u32 W3, .int .i64 0]) ∧ W = w'))) (hw0 : ¬ W2 = 0) (hw : ¬ 65536 < W2) (HC : Hid (∀ W, Calls Tryd.prog 41 #[.agg #[.int .u32 1, .int .u32 head, .int .u32 ((x : Int) + 2147483648), .int .u32 steps, .int .u32 moved, .bool false, .int .u32 from_, .int .u32 to_, .int .u32 left, .int .u32 next, .bool asks]] W fun e w' => e = .returned (.int .i64 0) ∧ Below W.heap.size W w')) : Calls Tryd.prog 12 #[.agg #[.int .u32 1, .int .u32 head, .int .u32 ((x : Int) + 2147483648), .int .u32 steps, .int .u32 moved, .bool false, .int .u32 from_, .int .u32 to_, .int .u32 left, .int .u32 next, .bool asks], .agg #[.slice (some ⟨b1, 0, none⟩) (4096 * n) c1, .slice (some ⟨b2, 0, none⟩) n c2, .int .i64 q]] w fun e w' => e = .returned (.tuple #[.agg #[.int .u32 1, .int .u32 head, .int .u32 ((x : Int) + 2147483648), .int .u32 ((steps : Int) + 1), .int .u32 moved, .bool true, .int .u32 W0, .int .u32 W1, .int .u32 W2, .int .u32 W3, .bool asks], .agg #[.slice (some ⟨b1, 0, none⟩) (4096 * n) c1, .slice (some ⟨b2, 0, none⟩) n c2, .int .i64 q]]) ∧ Below w.heap.size w w' := by
  have e1 : decide ((63 : Int) < (steps : Int)) = false := decide_eq_false (by omega)
  have e2 : ((((x : Int) + 2147483648) % 4) != 0) = false := by simp; omega
  have hst0 : (0 : Int) ≤ (steps : Int) := by omega
  have hst1 : (steps : Int) ≤ 63 := by omega
  have hxa : (0 : Int) ≤ (x : Int) := by omega
  have hxb : (x : Int) ≤ 67108864 := by omega
  have e3 : ((W2 : Int) == 0) = false := by simp; omega
  have e4 : decide ((65536 : Int) < (W2 : Int)) = false := decide_eq_false (by omega)
  clear hs hx4 hx1 hn2 hw hw0
  obtain ⟨k0, k1, k2, k3, hb0⟩ := four_new w (.cells #[.int .u32 1, .int .u32 head, .int .u32 ((x : Int) + 2147483648), .int .u32 steps, .int .u32 moved, .bool false, .int .u32 from_, .int .u32 to_, .int .u32 left, .int .u32 next, .bool asks] 24) (.cells #[.slice (some ⟨b1, 0, none⟩) (4096 * n) c1, .slice (some ⟨b2, 0, none⟩) n c2, .int .i64 q] 30) (.cells #[.int .u32 0, .int .u32 0, .int .u32 0, .int .u32 0, .int .u32 0, .bool false, .int .u32 0, .int .u32 0, .int .u32 0, .int .u32 0, .bool false] 24) (.cells #[.slice none 0 0, .slice none 0 0, .int .i64 0] 30)
  have K00 := Lib.hid k0
  have K01 := Lib.hid k1
  have K02 := Lib.hid k2
  have K03 := Lib.hid k3
  have HB0 := Lib.hid hb0
  clear k0 k1 k2 k3 hb0
  go_enter Tryd.func12, Tryd.ntmps12
  go_wp2_with fail
  refine (HC.out _).mono ?_
  rintro e w1 ⟨rfl, hb⟩
  have K2 := Lib.hid (keepB K00.out hb)
  clear K00
  have K3 := Lib.hid (keepB K01.out hb)
  clear K01
  have K4 := Lib.hid (keepB K02.out hb)
  clear K02
  have K5 := Lib.hid (keepB K03.out hb)
  clear K03
  have HB6 := Lib.hid (HB0.out.trans (hb.mono HB0.out.size))
  clear HB0
  clear hb
  have c7 := (cell_of_row _ _ 0 _ _ _ K2.out).trans (rfl : _ = some (.int .u32 1 : Value))
  have c8 := (cell_of_row _ _ 2 _ _ _ K2.out).trans (rfl : _ = some (.int .u32 ((x : Int) + 2147483648) : Value))
  have c9 := (cell_of_row _ _ 3 _ _ _ K2.out).trans (rfl : _ = some (.int .u32 steps : Value))
  have c10 := (cell_of_row _ _ 5 _ _ _ K2.out).trans (rfl : _ = some (.bool false : Value))
  have f11 := fun j => frozen_of_row _ _ j _ _ K2.out
  go_wp2_with (first | go_skip | (refine load_rowH ?hw 30 _ rfl (w.heap.size + 1) rfl 30 #[.slice (some ⟨b1, 0, none⟩) (4096 * n) c1, .slice (some ⟨b2, 0, none⟩) n c2, .int .i64 q] (0, 0) _ K3.out Tryd.underlying30 rfl (by kernel_rfl) ?_; case hw => kernel_rfl))
  clear c7 c8 c9 c10 f11
  refine (HI.out _).mono ?_
  rintro e wI ⟨rfl, hb⟩
  have K12 := Lib.hid (keepB K2.out hb)
  clear K2
  have K13 := Lib.hid (keepB K3.out hb)
  clear K3
  have K14 := Lib.hid (keepB K4.out hb)
  clear K4
  have K15 := Lib.hid (keepB K5.out hb)
  clear K5
  have HB16 := Lib.hid (HB6.out.trans (hb.mono HB6.out.size))
  clear HB6
  clear hb
  have c17 := (cell_of_row _ _ 0 _ _ _ K12.out).trans (rfl : _ = some (.int .u32 1 : Value))
  have c18 := (cell_of_row _ _ 2 _ _ _ K12.out).trans (rfl : _ = some (.int .u32 ((x : Int) + 2147483648) : Value))
  have c19 := (cell_of_row _ _ 3 _ _ _ K12.out).trans (rfl : _ = some (.int .u32 steps : Value))
  have c20 := (cell_of_row _ _ 5 _ _ _ K12.out).trans (rfl : _ = some (.bool false : Value))
  have f21 := fun j => frozen_of_row _ _ j _ _ K12.out
  go_upto_region 7 with fail
  clear c17 c18 c19 c20 f21
  have hal := (Below.refl wI.heap.size wI).alloc (Nat.le_refl _) (.cells #[.int .u32 0, .int .u32 0, .int .u32 0, .int .u32 0] 102)
  have KA0 := Lib.hid (heap_alloc_new wI (.cells #[.int .u32 0, .int .u32 0, .int .u32 0, .int .u32 0] 102))
  have hlt : w.heap.size + 1 + 1 + 1 < wI.heap.size := lt_heap K15.out
  generalize wI.alloc (.cells #[.int .u32 0, .int .u32 0, .int .u32 0, .int .u32 0] 102) = wL at hal KA0 ⊢
  have K22 := Lib.hid (keepB K12.out hal)
  clear K12
  have K23 := Lib.hid (keepB K13.out hal)
  clear K13
  have K24 := Lib.hid (keepB K14.out hal)
  clear K14
  have K25 := Lib.hid (keepB K15.out hal)
  clear K15
  have HB26 := Lib.hid (HB16.out.trans (hal.mono HB16.out.size))
  clear HB16
  clear hal
  generalize wI.heap.size = bA at hlt KA0 ⊢
  go_wp2_with fail
  go_loopw [7] (fun i wr => ∃ j : Nat, j ≤ 4 ∧ i = .int .i64 j ∧ wr.heap[w.heap.size]? = some (.cells #[.int .u32 1, .int .u32 head, .int .u32 ((x : Int) + 2147483648), .int .u32 steps, .int .u32 moved, .bool false, .int .u32 from_, .int .u32 to_, .int .u32 left, .int .u32 next, .bool asks] 24 (0, 0)) ∧ wr.heap[w.heap.size + 1]? = some (.cells #[.slice (some ⟨b1, 0, none⟩) (4096 * n) c1, .slice (some ⟨b2, 0, none⟩) n c2, .int .i64 q] 30 (0, 0)) ∧ wr.heap[w.heap.size + 1 + 1]? = some (.cells #[.int .u32 0, .int .u32 0, .int .u32 0, .int .u32 0, .int .u32 0, .bool false, .int .u32 0, .int .u32 0, .int .u32 0, .int .u32 0, .bool false] 24 (0, 0)) ∧ wr.heap[w.heap.size + 1 + 1 + 1]? = some (.cells #[.slice none 0 0, .slice none 0 0, .int .i64 0] 30 (0, 0)) ∧ wr.heap[bA]? = some (.cells (w4a W0 W1 W2 W3 j) 102 (0, 0)) ∧ Below w.heap.size w wr) (fun i _ => 4 - (intOf i).toNat)
  case atStart => exact ⟨0, by omega, rfl, K22.out, K23.out, K24.out, K25.out, KA0.out, HB26.out⟩
  case round =>
    clear K22 K23 K24 K25 KA0 HB26
    obtain ⟨j, hj, rfl, ks, km, krs, krm, ka, hbl⟩ := hrel
    have K27 := Lib.hid ks
    have K28 := Lib.hid km
    have K29 := Lib.hid krs
    have K30 := Lib.hid krm
    have HB31 := Lib.hid hbl
    have KA1 := Lib.hid ka
    clear ks km krs krm ka hbl
    have hj4 : j = 0 ∨ j = 1 ∨ j = 2 ∨ j = 3 ∨ j = 4 := by omega
    rcases hj4 with rfl | rfl | rfl | rfl | rfl
    · skip
      have KA2 : Hid (wr.heap[bA]? = some (.cells #[.int .u32 0, .int .u32 0, .int .u32 0, .int .u32 0] 102 (0, 0))) := KA1
      have HGJ := Lib.hid ((HG.out wr (HR1.out.below HB31.out)).1)
      have c32 := (cell_of_row _ _ 2 _ _ _ K27.out).trans (rfl : _ = some (.int .u32 ((x : Int) + 2147483648) : Value))
      have c33 := (cell_of_row _ _ 0 _ _ _ K28.out).trans (rfl : _ = some (.slice (some ⟨b1, 0, none⟩) (4096 * n) c1 : Value))
      have c34 := (cell_of_row _ _ 0 _ _ _ KA2.out).trans (rfl : _ = some (.int .u32 0 : Value))
      have f35 := fun j => frozen_of_row _ _ j _ _ KA2.out
      go_wp2_with fail
      refine (HGJ.out).mono ?_
      rintro e wG ⟨rfl, rfl⟩
      have hkk : ((wr).setCell ⟨bA, 0, none⟩ (.int .u32 W0)).heap[bA]? = some (.cells #[.int .u32 W0, .int .u32 0, .int .u32 0, .int .u32 0] 102 (0, 0)) := (set_cells (KA2.out)).trans rfl
      have hx37 := Lib.hid (show KX (fun k => k = bA) wr ((wr).setCell ⟨bA, 0, none⟩ (.int .u32 W0)) from (KX.refl (fun k => k = bA) wr).setCell (p := ⟨bA, 0, none⟩) (.inl rfl) _)
      go_upto_region 9 with fail
      generalize ((wr).setCell ⟨bA, 0, none⟩ (.int .u32 W0)) = w36 at hkk hx37 ⊢
      clear c32 c33 c34 f35
      have K38 := Lib.hid (hx37.out.heap K27.out (by omega))
      clear K27
      have K39 := Lib.hid (hx37.out.heap K28.out (by omega))
      clear K28
      have K40 := Lib.hid (hx37.out.heap K29.out (by omega))
      clear K29
      have K41 := Lib.hid (hx37.out.heap K30.out (by omega))
      clear K30
      have K42 := Lib.hid hkk
      clear hkk KA2
      have HB43 := Lib.hid (HB31.out.trans (hx37.out.below (B := w.heap.size) (fun k hk e => by omega) HB31.out.size))
      clear HB31 hx37
      go_wp2_with fail
      go_roundw
      case rel => exact ⟨1, by omega, by go_num, K38.out, K39.out, K40.out, K41.out, K42.out, HB43.out⟩
      case measure => simp [intOf]
    · skip
      have KA2 : Hid (wr.heap[bA]? = some (.cells #[.int .u32 W0, .int .u32 0, .int .u32 0, .int .u32 0] 102 (0, 0))) := KA1
      have HGJ := Lib.hid ((HG.out wr (HR1.out.below HB31.out)).2.1)
      have c44 := (cell_of_row _ _ 2 _ _ _ K27.out).trans (rfl : _ = some (.int .u32 ((x : Int) + 2147483648) : Value))
      have c45 := (cell_of_row _ _ 0 _ _ _ K28.out).trans (rfl : _ = some (.slice (some ⟨b1, 0, none⟩) (4096 * n) c1 : Value))
      have c46 := (cell_of_row _ _ 1 _ _ _ KA2.out).trans (rfl : _ = some (.int .u32 0 : Value))
      have f47 := fun j => frozen_of_row _ _ j _ _ KA2.out
      go_wp2_with fail
      refine (HGJ.out).mono ?_
      rintro e wG ⟨rfl, rfl⟩
      have hkk : ((wr).setCell ⟨bA, 1, none⟩ (.int .u32 W1)).heap[bA]? = some (.cells #[.int .u32 W0, .int .u32 W1, .int .u32 0, .int .u32 0] 102 (0, 0)) := (set_cells (KA2.out)).trans rfl
      have hx49 := Lib.hid (show KX (fun k => k = bA) wr ((wr).setCell ⟨bA, 1, none⟩ (.int .u32 W1)) from (KX.refl (fun k => k = bA) wr).setCell (p := ⟨bA, 1, none⟩) (.inl rfl) _)
      go_upto_region 9 with fail
      generalize ((wr).setCell ⟨bA, 1, none⟩ (.int .u32 W1)) = w48 at hkk hx49 ⊢
      clear c44 c45 c46 f47
      have K50 := Lib.hid (hx49.out.heap K27.out (by omega))
      clear K27
      have K51 := Lib.hid (hx49.out.heap K28.out (by omega))
      clear K28
      have K52 := Lib.hid (hx49.out.heap K29.out (by omega))
      clear K29
      have K53 := Lib.hid (hx49.out.heap K30.out (by omega))
      clear K30
      have K54 := Lib.hid hkk
      clear hkk KA2
      have HB55 := Lib.hid (HB31.out.trans (hx49.out.below (B := w.heap.size) (fun k hk e => by omega) HB31.out.size))
      clear HB31 hx49
      go_wp2_with fail
      go_roundw
      case rel => exact ⟨2, by omega, by go_num, K50.out, K51.out, K52.out, K53.out, K54.out, HB55.out⟩
      case measure => simp [intOf]
    · skip
      have KA2 : Hid (wr.heap[bA]? = some (.cells #[.int .u32 W0, .int .u32 W1, .int .u32 0, .int .u32 0] 102 (0, 0))) := KA1
      have HGJ := Lib.hid ((HG.out wr (HR1.out.below HB31.out)).2.2.1)
      have c56 := (cell_of_row _ _ 2 _ _ _ K27.out).trans (rfl : _ = some (.int .u32 ((x : Int) + 2147483648) : Value))
      have c57 := (cell_of_row _ _ 0 _ _ _ K28.out).trans (rfl : _ = some (.slice (some ⟨b1, 0, none⟩) (4096 * n) c1 : Value))
      have c58 := (cell_of_row _ _ 2 _ _ _ KA2.out).trans (rfl : _ = some (.int .u32 0 : Value))
      have f59 := fun j => frozen_of_row _ _ j _ _ KA2.out
      go_wp2_with fail
      refine (HGJ.out).mono ?_
      rintro e wG ⟨rfl, rfl⟩
      have hkk : ((wr).setCell ⟨bA, 2, none⟩ (.int .u32 W2)).heap[bA]? = some (.cells #[.int .u32 W0, .int .u32 W1, .int .u32 W2, .int .u32 0] 102 (0, 0)) := (set_cells (KA2.out)).trans rfl
      have hx61 := Lib.hid (show KX (fun k => k = bA) wr ((wr).setCell ⟨bA, 2, none⟩ (.int .u32 W2)) from (KX.refl (fun k => k = bA) wr).setCell (p := ⟨bA, 2, none⟩) (.inl rfl) _)
      go_upto_region 9 with fail
      generalize ((wr).setCell ⟨bA, 2, none⟩ (.int .u32 W2)) = w60 at hkk hx61 ⊢
      clear c56 c57 c58 f59
      have K62 := Lib.hid (hx61.out.heap K27.out (by omega))
      clear K27
      have K63 := Lib.hid (hx61.out.heap K28.out (by omega))
      clear K28
      have K64 := Lib.hid (hx61.out.heap K29.out (by omega))
      clear K29
      have K65 := Lib.hid (hx61.out.heap K30.out (by omega))
      clear K30
      have K66 := Lib.hid hkk
      clear hkk KA2
      have HB67 := Lib.hid (HB31.out.trans (hx61.out.below (B := w.heap.size) (fun k hk e => by omega) HB31.out.size))
      clear HB31 hx61
      go_wp2_with fail
      go_roundw
      case rel => exact ⟨3, by omega, by go_num, K62.out, K63.out, K64.out, K65.out, K66.out, HB67.out⟩
      case measure => simp [intOf]
    · skip
      have KA2 : Hid (wr.heap[bA]? = some (.cells #[.int .u32 W0, .int .u32 W1, .int .u32 W2, .int .u32 0] 102 (0, 0))) := KA1
      have HGJ := Lib.hid ((HG.out wr (HR1.out.below HB31.out)).2.2.2)
      have c68 := (cell_of_row _ _ 2 _ _ _ K27.out).trans (rfl : _ = some (.int .u32 ((x : Int) + 2147483648) : Value))
      have c69 := (cell_of_row _ _ 0 _ _ _ K28.out).trans (rfl : _ = some (.slice (some ⟨b1, 0, none⟩) (4096 * n) c1 : Value))
      have c70 := (cell_of_row _ _ 3 _ _ _ KA2.out).trans (rfl : _ = some (.int .u32 0 : Value))
      have f71 := fun j => frozen_of_row _ _ j _ _ KA2.out
      go_wp2_with fail
      refine (HGJ.out).mono ?_
      rintro e wG ⟨rfl, rfl⟩
      have hkk : ((wr).setCell ⟨bA, 3, none⟩ (.int .u32 W3)).heap[bA]? = some (.cells #[.int .u32 W0, .int .u32 W1, .int .u32 W2, .int .u32 W3] 102 (0, 0)) := (set_cells (KA2.out)).trans rfl
      have hx73 := Lib.hid (show KX (fun k => k = bA) wr ((wr).setCell ⟨bA, 3, none⟩ (.int .u32 W3)) from (KX.refl (fun k => k = bA) wr).setCell (p := ⟨bA, 3, none⟩) (.inl rfl) _)
      go_upto_region 9 with fail
      generalize ((wr).setCell ⟨bA, 3, none⟩ (.int .u32 W3)) = w72 at hkk hx73 ⊢
      clear c68 c69 c70 f71
      have K74 := Lib.hid (hx73.out.heap K27.out (by omega))
      clear K27
      have K75 := Lib.hid (hx73.out.heap K28.out (by omega))
      clear K28
      have K76 := Lib.hid (hx73.out.heap K29.out (by omega))
      clear K29
      have K77 := Lib.hid (hx73.out.heap K30.out (by omega))
      clear K30
      have K78 := Lib.hid hkk
      clear hkk KA2
      have HB79 := Lib.hid (HB31.out.trans (hx73.out.below (B := w.heap.size) (fun k hk e => by omega) HB31.out.size))
      clear HB31 hx73
      go_wp2_with fail
      go_roundw
      case rel => exact ⟨4, by omega, by go_num, K74.out, K75.out, K76.out, K77.out, K78.out, HB79.out⟩
      case measure => simp [intOf]
    · skip
      have KA2 : Hid (wr.heap[bA]? = some (.cells #[.int .u32 W0, .int .u32 W1, .int .u32 W2, .int .u32 W3] 102 (0, 0))) := KA1
      have c80 := (cell_of_row _ _ 3 _ _ _ K27.out).trans (rfl : _ = some (.int .u32 steps : Value))
      have f81 := fun j => frozen_of_row _ _ j _ _ K27.out
      have hkk : ((wr).setCell ⟨w.heap.size, 3, none⟩ (.int .u32 ((steps : Int) + 1))).heap[w.heap.size]? = some (.cells #[.int .u32 1, .int .u32 head, .int .u32 ((x : Int) + 2147483648), .int .u32 ((steps : Int) + 1), .int .u32 moved, .bool false, .int .u32 from_, .int .u32 to_, .int .u32 left, .int .u32 next, .bool asks] 24 (0, 0)) := (set_cells (K27.out)).trans rfl
      have hx83 := Lib.hid (show KX (fun k => k = w.heap.size) wr ((wr).setCell ⟨w.heap.size, 3, none⟩ (.int .u32 ((steps : Int) + 1))) from (KX.refl (fun k => k = w.heap.size) wr).setCell (p := ⟨w.heap.size, 3, none⟩) (.inl rfl) _)
      go_upto_region 12 with fail
      generalize ((wr).setCell ⟨w.heap.size, 3, none⟩ (.int .u32 ((steps : Int) + 1))) = w82 at hkk hx83 ⊢
      clear c80 f81
      have K84 := Lib.hid (hx83.out.heap K28.out (by omega))
      clear K28
      have K85 := Lib.hid (hx83.out.heap K29.out (by omega))
      clear K29
      have K86 := Lib.hid (hx83.out.heap K30.out (by omega))
      clear K30
      have K87 := Lib.hid (hx83.out.heap KA2.out (by omega))
      clear KA2
      have K88 := Lib.hid hkk
      clear hkk K27
      have HB89 := Lib.hid (HB31.out.trans (hx83.out.below (B := w.heap.size) (fun k hk e => by omega) HB31.out.size))
      clear HB31 hx83
      have c90 := (cell_of_row _ _ 0 _ _ _ K87.out).trans (rfl : _ = some (.int .u32 W0 : Value))
      have c91 := (cell_of_row _ _ 1 _ _ _ K87.out).trans (rfl : _ = some (.int .u32 W1 : Value))
      have c92 := (cell_of_row _ _ 2 _ _ _ K87.out).trans (rfl : _ = some (.int .u32 W2 : Value))
      have c93 := (cell_of_row _ _ 3 _ _ _ K87.out).trans (rfl : _ = some (.int .u32 W3 : Value))
      have f94 := fun j => frozen_of_row _ _ j _ _ K87.out
      go_upto_region 14 with fail
      clear c90 c91 c92 c93 f94
      refine wp_region_held_drew (S := fun W => KX (fun k => k = w.heap.size) (w82) W) (by kernel_rfl) ((KX.refl (fun k => k = w.heap.size) _).drew) (fun hHeld => ?_)
      have kd96 : (w82).drew.heap[w.heap.size]? = some (.cells #[.int .u32 1, .int .u32 head, .int .u32 ((x : Int) + 2147483648), .int .u32 ((steps : Int) + 1), .int .u32 moved, .bool false, .int .u32 from_, .int .u32 to_, .int .u32 left, .int .u32 next, .bool asks] 24 (0, 0)) := K88.out
      generalize (w82).drew = wd95 at kd96 hHeld ⊢
      refine wpAnyH_take (i := 0) (v := ?v0) rfl (by kernel_rfl) (by kernel_rfl) (by kernel_rfl) (fun _ _ _ h => h) (Or.inl ⟨by rfl, ?hy0⟩) (by assumption) ?rest0
      case hy0 => (intro W hSw; go_simp; first | done | with_reducible rfl)
      simp only [Act.put, List.getElem_toArray, List.getElem_cons_zero, List.setIfInBounds_toArray, List.set_cons_zero, List.set_cons_succ]
      refine wpAnyH_take (i := 1) (v := ?v1) rfl (by kernel_rfl) (by kernel_rfl) (by kernel_rfl) (fun _ _ _ h => h) (Or.inl ⟨by rfl, ?hy1⟩) (by assumption) ?rest1
      case hy1 => (intro W hSw; have cj := (cell_of_row _ _ 0 _ _ _ (hSw.heap K87.out (by omega))).trans (rfl : _ = some (.int .u32 W0 : Value)); go_simp; first | done | with_reducible rfl)
      simp only [Act.put, List.getElem_toArray, List.getElem_cons_zero, List.getElem_cons_succ, List.setIfInBounds_toArray, List.set_cons_zero, List.set_cons_succ]
      refine wpAnyH_take (i := 2) (v := ?v2) rfl (by kernel_rfl) (by kernel_rfl) (by kernel_rfl) (fun _ _ _ h => h) (Or.inl ⟨by rfl, ?hy2⟩) (by assumption) ?rest2
      case hy2 => (intro W hSw; go_simp; first | done | with_reducible rfl)
      simp only [Act.put, List.getElem_toArray, List.getElem_cons_zero, List.getElem_cons_succ, List.setIfInBounds_toArray, List.set_cons_zero, List.set_cons_succ]
      refine wpAnyH_take (i := 3) (v := ?v3) rfl (by kernel_rfl) (by kernel_rfl) (by kernel_rfl) (fun _ _ _ h => h) (Or.inl ⟨by rfl, ?hy3⟩) (by assumption) ?rest3
      case hy3 => (intro W hSw; have cj := (cell_of_row _ _ 1 _ _ _ (hSw.heap K87.out (by omega))).trans (rfl : _ = some (.int .u32 W1 : Value)); go_simp; first | done | with_reducible rfl)
      simp only [Act.put, List.getElem_toArray, List.getElem_cons_zero, List.getElem_cons_succ, List.setIfInBounds_toArray, List.set_cons_zero, List.set_cons_succ]
      refine wpAnyH_take (i := 4) (v := ?v4) rfl (by kernel_rfl) (by kernel_rfl) (by kernel_rfl) (fun _ _ _ h => h) (Or.inl ⟨by rfl, ?hy4⟩) (by assumption) ?rest4
      case hy4 => (intro W hSw; go_simp; first | done | with_reducible rfl)
      simp only [Act.put, List.getElem_toArray, List.getElem_cons_zero, List.getElem_cons_succ, List.setIfInBounds_toArray, List.set_cons_zero, List.set_cons_succ]
      refine wpAnyH_take (i := 5) (v := ?v5) rfl (by kernel_rfl) (by kernel_rfl) (by kernel_rfl) (fun _ _ _ h => h) (Or.inl ⟨by rfl, ?hy5⟩) (by assumption) ?rest5
      case hy5 => (intro W hSw; have cj := (cell_of_row _ _ 2 _ _ _ (hSw.heap K87.out (by omega))).trans (rfl : _ = some (.int .u32 W2 : Value)); go_simp; first | done | with_reducible rfl)
      simp only [Act.put, List.getElem_toArray, List.getElem_cons_zero, List.getElem_cons_succ, List.setIfInBounds_toArray, List.set_cons_zero, List.set_cons_succ]
      refine wpAnyH_take (i := 6) (v := ?v6) rfl (by kernel_rfl) (by kernel_rfl) (by kernel_rfl) (fun _ _ _ h => h) (Or.inl ⟨by rfl, ?hy6⟩) (by assumption) ?rest6
      case hy6 => (intro W hSw; go_simp; first | done | with_reducible rfl)
      simp only [Act.put, List.getElem_toArray, List.getElem_cons_zero, List.getElem_cons_succ, List.setIfInBounds_toArray, List.set_cons_zero, List.set_cons_succ]
      refine wpAnyH_take (i := 7) (v := ?v7) rfl (by kernel_rfl) (by kernel_rfl) (by kernel_rfl) (fun _ _ _ h => h) (Or.inl ⟨by rfl, ?hy7⟩) (by assumption) ?rest7
      case hy7 => (intro W hSw; have cj := (cell_of_row _ _ 3 _ _ _ (hSw.heap K87.out (by omega))).trans (rfl : _ = some (.int .u32 W3 : Value)); go_simp; first | done | with_reducible rfl)
      simp only [Act.put, List.getElem_toArray, List.getElem_cons_zero, List.getElem_cons_succ, List.setIfInBounds_toArray, List.set_cons_zero, List.set_cons_succ]
      refine wpAnyH_take (i := 8) (v := ?v8) rfl (by kernel_rfl) (by kernel_rfl) (by kernel_rfl) (fun _ _ _ h => h) (Or.inl ⟨by rfl, ?hy8⟩) (by assumption) ?rest8
      case hy8 => (intro W hSw; go_simp; first | done | with_reducible rfl)
      simp only [Act.put, List.getElem_toArray, List.getElem_cons_zero, List.getElem_cons_succ, List.setIfInBounds_toArray, List.set_cons_zero, List.set_cons_succ]
      refine wpAnyH_ready (rs := [9]) (by kernel_rfl) (by simp) ?_
      refine AllReadyH.cons (o := _) rfl (fun K hK => ?_) (AllReadyH.nil)
      simp only [List.getElem_toArray, List.getElem_cons_zero, List.getElem_cons_succ]
      have kz : wd95.heap[w.heap.size]? = some (.cells #[.int .u32 1, .int .u32 head, .int .u32 ((x : Int) + 2147483648), .int .u32 ((steps : Int) + 1), .int .u32 moved, .bool false, .int .u32 from_, .int .u32 to_, .int .u32 left, .int .u32 next, .bool asks] 24 (0, 0)) := kd96
      have cz := (cell_of_row _ _ 5 _ _ _ kz).trans (rfl : _ = some (.bool false : Value))
      have fz := frozen_of_row _ _ 5 _ _ kz
      have kn := set_cells (i := 5) (v := .bool true) kz
      clear kz
      go_simp
      refine hK.out _ _ (hHeld.setCell (p := ⟨w.heap.size, 5, none⟩) (.inl rfl) _) (fun hHeld98 => ?_)
      clear hK K cz fz hHeld kd96
      have kz99 := kn.trans (rfl : _ = some (Obj.cells #[.int .u32 1, .int .u32 head, .int .u32 ((x : Int) + 2147483648), .int .u32 ((steps : Int) + 1), .int .u32 moved, .bool true, .int .u32 from_, .int .u32 to_, .int .u32 left, .int .u32 next, .bool asks] 24 (0, 0)))
      clear kn
      generalize wd95.setCell ⟨w.heap.size, 5, none⟩ (.bool true) = w97 at kz99 hHeld98 ⊢
      try simp only [Act.put]
      refine wpAnyH_take (i := 10) (v := ?v10) rfl (by kernel_rfl) (by kernel_rfl) (by kernel_rfl) (fun _ _ _ h => h) (Or.inl ⟨by rfl, ?hy10⟩) (by assumption) ?rest10
      case hy10 => (intro W hSw; go_simp; first | done | with_reducible rfl)
      simp only [Act.put, List.getElem_toArray, List.getElem_cons_zero, List.getElem_cons_succ, List.setIfInBounds_toArray, List.set_cons_zero, List.set_cons_succ]
      refine wpAnyH_ready (rs := [11]) (by kernel_rfl) (by simp) ?_
      refine AllReadyH.cons (o := _) rfl (fun K hK => ?_) (AllReadyH.nil)
      simp only [List.getElem_toArray, List.getElem_cons_zero, List.getElem_cons_succ]
      have kz : w97.heap[w.heap.size]? = some (.cells #[.int .u32 1, .int .u32 head, .int .u32 ((x : Int) + 2147483648), .int .u32 ((steps : Int) + 1), .int .u32 moved, .bool true, .int .u32 from_, .int .u32 to_, .int .u32 left, .int .u32 next, .bool asks] 24 (0, 0)) := kz99
      have cz := (cell_of_row _ _ 6 _ _ _ kz).trans (rfl : _ = some (.int .u32 from_ : Value))
      have fz := frozen_of_row _ _ 6 _ _ kz
      have kn := set_cells (i := 6) (v := .int .u32 W0) kz
      clear kz
      go_simp
      refine hK.out _ _ (hHeld98.setCell (p := ⟨w.heap.size, 6, none⟩) (.inl rfl) _) (fun hHeld101 => ?_)
      clear hK K cz fz hHeld98 kz99
      have kz102 := kn.trans (rfl : _ = some (Obj.cells #[.int .u32 1, .int .u32 head, .int .u32 ((x : Int) + 2147483648), .int .u32 ((steps : Int) + 1), .int .u32 moved, .bool true, .int .u32 W0, .int .u32 to_, .int .u32 left, .int .u32 next, .bool asks] 24 (0, 0)))
      clear kn
      generalize w97.setCell ⟨w.heap.size, 6, none⟩ (.int .u32 W0) = w100 at kz102 hHeld101 ⊢
      try simp only [Act.put]
      refine wpAnyH_take (i := 12) (v := ?v12) rfl (by kernel_rfl) (by kernel_rfl) (by kernel_rfl) (fun _ _ _ h => h) (Or.inl ⟨by rfl, ?hy12⟩) (by assumption) ?rest12
      case hy12 => (intro W hSw; go_simp; first | done | with_reducible rfl)
      simp only [Act.put, List.getElem_toArray, List.getElem_cons_zero, List.getElem_cons_succ, List.setIfInBounds_toArray, List.set_cons_zero, List.set_cons_succ]
      refine wpAnyH_ready (rs := [13]) (by kernel_rfl) (by simp) ?_
      refine AllReadyH.cons (o := _) rfl (fun K hK => ?_) (AllReadyH.nil)
      simp only [List.getElem_toArray, List.getElem_cons_zero, List.getElem_cons_succ]
      have kz : w100.heap[w.heap.size]? = some (.cells #[.int .u32 1, .int .u32 head, .int .u32 ((x : Int) + 2147483648), .int .u32 ((steps : Int) + 1), .int .u32 moved, .bool true, .int .u32 W0, .int .u32 to_, .int .u32 left, .int .u32 next, .bool asks] 24 (0, 0)) := kz102
      have cz := (cell_of_row _ _ 7 _ _ _ kz).trans (rfl : _ = some (.int .u32 to_ : Value))
      have fz := frozen_of_row _ _ 7 _ _ kz
      have kn := set_cells (i := 7) (v := .int .u32 W1) kz
      clear kz
      go_simp
      refine hK.out _ _ (hHeld101.setCell (p := ⟨w.heap.size, 7, none⟩) (.inl rfl) _) (fun hHeld104 => ?_)
      clear hK K cz fz hHeld101 kz102
      have kz105 := kn.trans (rfl : _ = some (Obj.cells #[.int .u32 1, .int .u32 head, .int .u32 ((x : Int) + 2147483648), .int .u32 ((steps : Int) + 1), .int .u32 moved, .bool true, .int .u32 W0, .int .u32 W1, .int .u32 left, .int .u32 next, .bool asks] 24 (0, 0)))
      clear kn
      generalize w100.setCell ⟨w.heap.size, 7, none⟩ (.int .u32 W1) = w103 at kz105 hHeld104 ⊢
      try simp only [Act.put]
      refine wpAnyH_take (i := 14) (v := ?v14) rfl (by kernel_rfl) (by kernel_rfl) (by kernel_rfl) (fun _ _ _ h => h) (Or.inl ⟨by rfl, ?hy14⟩) (by assumption) ?rest14
      case hy14 => (intro W hSw; go_simp; first | done | with_reducible rfl)
      simp only [Act.put, List.getElem_toArray, List.getElem_cons_zero, List.getElem_cons_succ, List.setIfInBounds_toArray, List.set_cons_zero, List.set_cons_succ]
      refine wpAnyH_ready (rs := [15]) (by kernel_rfl) (by simp) ?_
      refine AllReadyH.cons (o := _) rfl (fun K hK => ?_) (AllReadyH.nil)
      simp only [List.getElem_toArray, List.getElem_cons_zero, List.getElem_cons_succ]
      have kz : w103.heap[w.heap.size]? = some (.cells #[.int .u32 1, .int .u32 head, .int .u32 ((x : Int) + 2147483648), .int .u32 ((steps : Int) + 1), .int .u32 moved, .bool true, .int .u32 W0, .int .u32 W1, .int .u32 left, .int .u32 next, .bool asks] 24 (0, 0)) := kz105
      have cz := (cell_of_row _ _ 8 _ _ _ kz).trans (rfl : _ = some (.int .u32 left : Value))
      have fz := frozen_of_row _ _ 8 _ _ kz
      have kn := set_cells (i := 8) (v := .int .u32 W2) kz
      clear kz
      go_simp
      refine hK.out _ _ (hHeld104.setCell (p := ⟨w.heap.size, 8, none⟩) (.inl rfl) _) (fun hHeld107 => ?_)
      clear hK K cz fz hHeld104 kz105
      have kz108 := kn.trans (rfl : _ = some (Obj.cells #[.int .u32 1, .int .u32 head, .int .u32 ((x : Int) + 2147483648), .int .u32 ((steps : Int) + 1), .int .u32 moved, .bool true, .int .u32 W0, .int .u32 W1, .int .u32 W2, .int .u32 next, .bool asks] 24 (0, 0)))
      clear kn
      generalize w103.setCell ⟨w.heap.size, 8, none⟩ (.int .u32 W2) = w106 at kz108 hHeld107 ⊢
      try simp only [Act.put]
      refine wpAnyH_take (i := 16) (v := ?v16) rfl (by kernel_rfl) (by kernel_rfl) (by kernel_rfl) (fun _ _ _ h => h) (Or.inl ⟨by rfl, ?hy16⟩) (by assumption) ?rest16
      case hy16 => (intro W hSw; go_simp; first | done | with_reducible rfl)
      simp only [Act.put, List.getElem_toArray, List.getElem_cons_zero, List.getElem_cons_succ, List.setIfInBounds_toArray, List.set_cons_zero, List.set_cons_succ]
      refine wpAnyH_ready (rs := [17]) (by kernel_rfl) (by simp) ?_
      refine AllReadyH.cons (o := _) rfl (fun K hK => ?_) (AllReadyH.nil)
      simp only [List.getElem_toArray, List.getElem_cons_zero, List.getElem_cons_succ]
      have kz : w106.heap[w.heap.size]? = some (.cells #[.int .u32 1, .int .u32 head, .int .u32 ((x : Int) + 2147483648), .int .u32 ((steps : Int) + 1), .int .u32 moved, .bool true, .int .u32 W0, .int .u32 W1, .int .u32 W2, .int .u32 next, .bool asks] 24 (0, 0)) := kz108
      have cz := (cell_of_row _ _ 9 _ _ _ kz).trans (rfl : _ = some (.int .u32 next : Value))
      have fz := frozen_of_row _ _ 9 _ _ kz
      have kn := set_cells (i := 9) (v := .int .u32 W3) kz
      clear kz
      go_simp
      refine hK.out _ _ (hHeld107.setCell (p := ⟨w.heap.size, 9, none⟩) (.inl rfl) _) (fun hHeld110 => ?_)
      clear hK K cz fz hHeld107 kz108
      have kz111 := kn.trans (rfl : _ = some (Obj.cells #[.int .u32 1, .int .u32 head, .int .u32 ((x : Int) + 2147483648), .int .u32 ((steps : Int) + 1), .int .u32 moved, .bool true, .int .u32 W0, .int .u32 W1, .int .u32 W2, .int .u32 W3, .bool asks] 24 (0, 0)))
      clear kn
      generalize w106.setCell ⟨w.heap.size, 9, none⟩ (.int .u32 W3) = w109 at kz111 hHeld110 ⊢
      try simp only [Act.put]
      refine wpAnyH_done (by kernel_rfl) ?_ _
      have hx_ := Lib.hid hHeld110
      clear hHeld110
      have K112 := Lib.hid (hx_.out.heap K84.out (by omega))
      clear K84
      have K113 := Lib.hid (hx_.out.heap K85.out (by omega))
      clear K85
      have K114 := Lib.hid (hx_.out.heap K86.out (by omega))
      clear K86
      have K115 := Lib.hid (hx_.out.heap K87.out (by omega))
      clear K87
      have K116 := Lib.hid kz111
      clear kz111 K88
      have HB117 := Lib.hid (HB89.out.trans (hx_.out.below (B := w.heap.size) (fun k hk e => by omega) HB89.out.size))
      clear HB89 hx_
      go_upto_region 15 with fail
      have HR118 := HB117
      refine wp_region_held_drew (S := fun W => KX (fun k => k = w.heap.size + 1 + 1 ∨ k = w.heap.size + 1 + 1 + 1) (w109) W) (by kernel_rfl) ((KX.refl (fun k => k = w.heap.size + 1 + 1 ∨ k = w.heap.size + 1 + 1 + 1) _).drew) (fun hHeldz => ?_)
      refine wpAnyH_take (i := 0) rfl (by kernel_rfl) (by kernel_rfl) (by kernel_rfl) (fun _ _ _ h => h) (yieldsIf_load_mid (by rfl) 24 _ rfl (w.heap.size) 0 rfl #[.int .u32 1, .int .u32 head, .int .u32 ((x : Int) + 2147483648), .int .u32 ((steps : Int) + 1), .int .u32 moved, .bool true, .int .u32 W0, .int .u32 W1, .int .u32 W2, .int .u32 W3, .bool asks].toList _ (fun W hSw => range_of_all (hSw.heap K116.out (by omega))) Tryd.underlying24 rfl ?hi0z) (by assumption) ?rest0z
      case hi0z => kernel_rfl
      simp only [Act.put, List.getElem_toArray, List.getElem_cons_zero, List.setIfInBounds_toArray, List.set_cons_zero, List.set_cons_succ]
      refine wpAnyH_take (i := 1) rfl (by kernel_rfl) (by kernel_rfl) (by kernel_rfl) (fun _ _ _ h => h) (yieldsIf_load_mid (by rfl) 30 _ rfl (w.heap.size + 1) 0 rfl #[.slice (some ⟨b1, 0, none⟩) (4096 * n) c1, .slice (some ⟨b2, 0, none⟩) n c2, .int .i64 q].toList _ (fun W hSw => range_of_all (hSw.heap K112.out (by omega))) Tryd.underlying30 rfl ?hi1z) (by assumption) ?rest1z
      case hi1z => kernel_rfl
      simp only [Act.put, List.getElem_toArray, List.getElem_cons_zero, List.getElem_cons_succ, List.setIfInBounds_toArray, List.set_cons_zero, List.set_cons_succ]
      have HO119 := Lib.hid (show (#[.int .u32 1, .int .u32 head, .int .u32 ((x : Int) + 2147483648), .int .u32 ((steps : Int) + 1), .int .u32 moved, .bool true, .int .u32 W0, .int .u32 W1, .int .u32 W2, .int .u32 W3, .bool asks] : Array Value).all (·.oneCell') = true by simp [Value.oneCell'])
      have HO120 := Lib.hid (show (#[.slice (some ⟨b1, 0, none⟩) (4096 * n) c1, .slice (some ⟨b2, 0, none⟩) n c2, .int .i64 q] : Array Value).all (·.oneCell') = true by simp [Value.oneCell'])
      refine wpAnyH_ready (rs := [2]) (by kernel_rfl) (by simp) ?_
      refine AllReadyH.cons (o := _) rfl (fun K hK => ?_) (AllReadyH.nil)
      simp only [List.getElem_toArray, List.getElem_cons_zero, List.getElem_cons_succ]
      rw [if_pos (by rfl)]
      refine wp_store_row 24 _ _ rfl (w.heap.size + 1 + 1) #[.int .u32 1, .int .u32 head, .int .u32 ((x : Int) + 2147483648), .int .u32 ((steps : Int) + 1), .int .u32 moved, .bool true, .int .u32 W0, .int .u32 W1, .int .u32 W2, .int .u32 W3, .bool asks] rfl rfl 24 #[.int .u32 0, .int .u32 0, .int .u32 0, .int .u32 0, .int .u32 0, .bool false, .int .u32 0, .int .u32 0, .int .u32 0, .int .u32 0, .bool false] K113.out (by kernel_rfl) rfl HO119.out ?_
      refine hK.out _ _ (hHeldz.setRow (.inl (by omega)) _) (fun hq1 => ?_)
      clear hK K
      try simp only [Act.put]
      have ka : (((w109).drew).setRow (w.heap.size + 1 + 1) #[.int .u32 1, .int .u32 head, .int .u32 ((x : Int) + 2147483648), .int .u32 ((steps : Int) + 1), .int .u32 moved, .bool true, .int .u32 W0, .int .u32 W1, .int .u32 W2, .int .u32 W3, .bool asks]).heap[w.heap.size + 1 + 1]? = some (.cells #[.int .u32 1, .int .u32 head, .int .u32 ((x : Int) + 2147483648), .int .u32 ((steps : Int) + 1), .int .u32 moved, .bool true, .int .u32 W0, .int .u32 W1, .int .u32 W2, .int .u32 W3, .bool asks] 24 (0, 0)) := setRow_heap _ _ _ _ _ _ K113.out
      have kb : (((w109).drew).setRow (w.heap.size + 1 + 1) #[.int .u32 1, .int .u32 head, .int .u32 ((x : Int) + 2147483648), .int .u32 ((steps : Int) + 1), .int .u32 moved, .bool true, .int .u32 W0, .int .u32 W1, .int .u32 W2, .int .u32 W3, .bool asks]).heap[w.heap.size + 1 + 1 + 1]? = some (.cells #[.slice none 0 0, .slice none 0 0, .int .i64 0] 30 (0, 0)) := (heap_row_other (by omega)).trans K114.out
      generalize ((w109).drew).setRow (w.heap.size + 1 + 1) #[.int .u32 1, .int .u32 head, .int .u32 ((x : Int) + 2147483648), .int .u32 ((steps : Int) + 1), .int .u32 moved, .bool true, .int .u32 W0, .int .u32 W1, .int .u32 W2, .int .u32 W3, .bool asks] = wq at ka kb hq1 ⊢
      refine wpAnyH_ready (rs := [3]) (by kernel_rfl) (by simp) ?_
      refine AllReadyH.cons (o := _) rfl (fun K hK => ?_) (AllReadyH.nil)
      simp only [List.getElem_toArray, List.getElem_cons_zero, List.getElem_cons_succ]
      rw [if_pos (by rfl)]
      refine wp_store_row 30 _ _ rfl (w.heap.size + 1 + 1 + 1) #[.slice (some ⟨b1, 0, none⟩) (4096 * n) c1, .slice (some ⟨b2, 0, none⟩) n c2, .int .i64 q] rfl rfl 30 #[.slice none 0 0, .slice none 0 0, .int .i64 0] kb (by kernel_rfl) rfl HO120.out ?_
      refine hK.out _ _ (hq1.setRow (.inl (by omega)) _) (fun hq2 => ?_)
      clear hK K
      try simp only [Act.put]
      have kc : (wq.setRow (w.heap.size + 1 + 1 + 1) #[.slice (some ⟨b1, 0, none⟩) (4096 * n) c1, .slice (some ⟨b2, 0, none⟩) n c2, .int .i64 q]).heap[w.heap.size + 1 + 1]? = some (.cells #[.int .u32 1, .int .u32 head, .int .u32 ((x : Int) + 2147483648), .int .u32 ((steps : Int) + 1), .int .u32 moved, .bool true, .int .u32 W0, .int .u32 W1, .int .u32 W2, .int .u32 W3, .bool asks] 24 (0, 0)) := (heap_row_other (by omega)).trans ka
      have kd : (wq.setRow (w.heap.size + 1 + 1 + 1) #[.slice (some ⟨b1, 0, none⟩) (4096 * n) c1, .slice (some ⟨b2, 0, none⟩) n c2, .int .i64 q]).heap[w.heap.size + 1 + 1 + 1]? = some (.cells #[.slice (some ⟨b1, 0, none⟩) (4096 * n) c1, .slice (some ⟨b2, 0, none⟩) n c2, .int .i64 q] 30 (0, 0)) := setRow_heap _ _ _ _ _ _ kb
      generalize wq.setRow (w.heap.size + 1 + 1 + 1) #[.slice (some ⟨b1, 0, none⟩) (4096 * n) c1, .slice (some ⟨b2, 0, none⟩) n c2, .int .i64 q] = wz at kc kd hq2 ⊢
      clear ka kb hq1
      refine wpAnyH_done (by kernel_rfl) ?_ _
      have HBE := Lib.hid (HR118.out.trans (hq2.below (B := w.heap.size) (fun k hk e => by omega) HR118.out.size))
      go_wp2_with fail
      exact bodyPost_ret (v := .tuple #[.agg #[.int .u32 1, .int .u32 head, .int .u32 ((x : Int) + 2147483648), .int .u32 ((steps : Int) + 1), .int .u32 moved, .bool true, .int .u32 W0, .int .u32 W1, .int .u32 W2, .int .u32 W3, .bool asks], .agg #[.slice (some ⟨b1, 0, none⟩) (4096 * n) c1, .slice (some ⟨b2, 0, none⟩) n c2, .int .i64 q]]) (results_two_cells Tryd.results12 _ _ (w.heap.size + 1 + 1) (w.heap.size + 1 + 1 + 1) 24 30 #[.int .u32 1, .int .u32 head, .int .u32 ((x : Int) + 2147483648), .int .u32 ((steps : Int) + 1), .int .u32 moved, .bool true, .int .u32 W0, .int .u32 W1, .int .u32 W2, .int .u32 W3, .bool asks] #[.slice (some ⟨b1, 0, none⟩) (4096 * n) c1, .slice (some ⟨b2, 0, none⟩) n c2, .int .i64 q] (0, 0) (0, 0) _ _ rfl rfl kc kd Tryd.underlying24 rfl (by kernel_rfl) Tryd.underlying30 rfl (by kernel_rfl)) rfl ⟨rfl, HBE.out⟩

set_option maxRecDepth 100000 in
set_option maxHeartbeats 8000000 in
theorem r12_tk_mv_more (head at_ steps moved from_ to_ left next : Nat) {f3 : Nat → UInt8} {d3 : Nat → Bool} {q3 : Int} {b1 c1 b2 n c2 : Nat} {q : Int} (w : World) (hl : 64 < left) (hll : left < 4294967296) (hm : moved < 4294967296) (hf : 2147483648 ≤ from_) (hf2 : from_ < 4294967296) (ht : 2147483648 ≤ to_) (ht2 : to_ < 4294967296) (a1 : Nat) (HI : Hid (∀ W, Calls Tryd.prog 54 #[.agg #[.slice (some ⟨b1, 0, none⟩) (4096 * n) c1, .slice (some ⟨b2, 0, none⟩) n c2, .int .i64 q], .int .u32 from_, .int .u32 64] W fun e w' => e = .returned (.bool true) ∧ Below W.heap.size W w')) (HJ : Hid (∀ W, Calls Tryd.prog 54 #[.agg #[.slice (some ⟨b1, 0, none⟩) (4096 * n) c1, .slice (some ⟨b2, 0, none⟩) n c2, .int .i64 q], .int .u32 to_, .int .u32 64] W fun e w' => e = .returned (.bool true) ∧ Below W.heap.size W w'))
    (HRD : Hid (∀ W, Calls Tryd.prog 57 #[.agg #[.slice (some ⟨b1, 0, none⟩) (4096 * n) c1, .slice (some ⟨b2, 0, none⟩) n c2, .int .i64 q], .int .u32 ((from_ : Int) - 2147483648), .int .i64 64] W fun e w' => e = .returned (.tuple #[.slice (some ⟨b1, a1, none⟩) 64 (c1 - a1), .int .i64 0]) ∧ Below W.heap.size W w'))
    (HWR : Hid (∀ W, Below w.heap.size w W → Calls Tryd.prog 58 #[.agg #[.slice (some ⟨b1, 0, none⟩) (4096 * n) c1, .slice (some ⟨b2, 0, none⟩) n c2, .int .i64 q], .int .u32 ((to_ : Int) - 2147483648), .slice (some ⟨b1, a1, none⟩) 64 (c1 - a1)] W fun e w' => ∃ b3 c3 b4 c4, e = .returned (.tuple #[.agg #[.slice (some ⟨b3, 0, none⟩) (4096 * n) c3, .slice (some ⟨b4, 0, none⟩) n c4, .int .i64 q3], .int .i64 0]) ∧ Row w' b3 5 (4096 * n) (cellU f3) ∧ Row w' b4 4 n (cellT d3) ∧ W.heap.size ≤ b3 ∧ W.heap.size ≤ b4 ∧ Below W.heap.size W w' ∧ 4096 * n ≤ c3))
     (HC : Hid (∀ W, Calls Tryd.prog 41 #[.agg #[.int .u32 1, .int .u32 head, .int .u32 at_, .int .u32 steps, .int .u32 moved, .bool true, .int .u32 from_, .int .u32 to_, .int .u32 left, .int .u32 next, .bool false]] W fun e w' => e = .returned (.int .i64 0) ∧ Below W.heap.size W w')) : Calls Tryd.prog 12 #[.agg #[.int .u32 1, .int .u32 head, .int .u32 at_, .int .u32 steps, .int .u32 moved, .bool true, .int .u32 from_, .int .u32 to_, .int .u32 left, .int .u32 next, .bool false], .agg #[.slice (some ⟨b1, 0, none⟩) (4096 * n) c1, .slice (some ⟨b2, 0, none⟩) n c2, .int .i64 q]] w fun e w' => ∃ b3 c3 b4 c4, e = .returned (.tuple #[.agg #[.int .u32 1, .int .u32 head, .int .u32 at_, .int .u32 steps, .int .u32 (((moved : Int) + 64) % 4294967296), .bool true, .int .u32 (((from_ : Int) + 64) % 4294967296), .int .u32 (((to_ : Int) + 64) % 4294967296), .int .u32 ((left : Int) - 64), .int .u32 next, .bool false], .agg #[.slice (some ⟨b3, 0, none⟩) (4096 * n) c3, .slice (some ⟨b4, 0, none⟩) n c4, .int .i64 q3]]) ∧ Row w' b3 5 (4096 * n) (cellU f3) ∧ Row w' b4 4 n (cellT d3) ∧ w.heap.size ≤ b3 ∧ w.heap.size ≤ b4 ∧ Below w.heap.size w w' ∧ 4096 * n ≤ c3 := by
  have hli : (64 : Int) < (left : Int) := by omega
  have hl0 : (0 : Int) ≤ (left : Int) := by omega
  have hl1 : (left : Int) < 4294967296 := by omega
  have hm0 : (0 : Int) ≤ (moved : Int) := by omega
  have hm1 : (moved : Int) < 4294967296 := by omega
  have hfi : (2147483648 : Int) ≤ (from_ : Int) := by omega
  have hfj : (from_ : Int) < 4294967296 := by omega
  have hti : (2147483648 : Int) ≤ (to_ : Int) := by omega
  have htj : (to_ : Int) < 4294967296 := by omega
  clear hl hll hm hf hf2 ht ht2
  obtain ⟨k0, k1, k2, k3, hb0⟩ := four_new w (.cells #[.int .u32 1, .int .u32 head, .int .u32 at_, .int .u32 steps, .int .u32 moved, .bool true, .int .u32 from_, .int .u32 to_, .int .u32 left, .int .u32 next, .bool false] 24) (.cells #[.slice (some ⟨b1, 0, none⟩) (4096 * n) c1, .slice (some ⟨b2, 0, none⟩) n c2, .int .i64 q] 30) (.cells #[.int .u32 0, .int .u32 0, .int .u32 0, .int .u32 0, .int .u32 0, .bool false, .int .u32 0, .int .u32 0, .int .u32 0, .int .u32 0, .bool false] 24) (.cells #[.slice none 0 0, .slice none 0 0, .int .i64 0] 30)
  have K00 := Lib.hid k0
  have K01 := Lib.hid k1
  have K02 := Lib.hid k2
  have K03 := Lib.hid k3
  have HB0 := Lib.hid hb0
  clear k0 k1 k2 k3 hb0
  go_enter Tryd.func12, Tryd.ntmps12
  go_wp2_with fail
  refine (HC.out _).mono ?_
  rintro e w1 ⟨rfl, hb⟩
  have K2 := Lib.hid (keepB K00.out hb)
  clear K00
  have K3 := Lib.hid (keepB K01.out hb)
  clear K01
  have K4 := Lib.hid (keepB K02.out hb)
  clear K02
  have K5 := Lib.hid (keepB K03.out hb)
  clear K03
  have HB6 := Lib.hid (HB0.out.trans (hb.mono HB0.out.size))
  clear HB0
  clear hb
  have c7 := (cell_of_row _ _ 0 _ _ _ K2.out).trans (rfl : _ = some (.int .u32 1 : Value))
  have c8 := (cell_of_row _ _ 5 _ _ _ K2.out).trans (rfl : _ = some (.bool true : Value))
  have c9 := (cell_of_row _ _ 6 _ _ _ K2.out).trans (rfl : _ = some (.int .u32 from_ : Value))
  have c10 := (cell_of_row _ _ 7 _ _ _ K2.out).trans (rfl : _ = some (.int .u32 to_ : Value))
  have c11 := (cell_of_row _ _ 8 _ _ _ K2.out).trans (rfl : _ = some (.int .u32 left : Value))
  have f12 := fun j => frozen_of_row _ _ j _ _ K2.out
  go_wp2_with (first | go_skip | (refine load_rowH ?hw 30 _ rfl (w.heap.size + 1) rfl 30 #[.slice (some ⟨b1, 0, none⟩) (4096 * n) c1, .slice (some ⟨b2, 0, none⟩) n c2, .int .i64 q] (0, 0) _ K3.out Tryd.underlying30 rfl (by kernel_rfl) ?_; case hw => kernel_rfl))
  clear c7 c8 c9 c10 c11 f12
  refine (HI.out _).mono ?_
  rintro e wI ⟨rfl, hb⟩
  have K13 := Lib.hid (keepB K2.out hb)
  clear K2
  have K14 := Lib.hid (keepB K3.out hb)
  clear K3
  have K15 := Lib.hid (keepB K4.out hb)
  clear K4
  have K16 := Lib.hid (keepB K5.out hb)
  clear K5
  have HB17 := Lib.hid (HB6.out.trans (hb.mono HB6.out.size))
  clear HB6
  clear hb
  have c18 := (cell_of_row _ _ 0 _ _ _ K13.out).trans (rfl : _ = some (.int .u32 1 : Value))
  have c19 := (cell_of_row _ _ 5 _ _ _ K13.out).trans (rfl : _ = some (.bool true : Value))
  have c20 := (cell_of_row _ _ 6 _ _ _ K13.out).trans (rfl : _ = some (.int .u32 from_ : Value))
  have c21 := (cell_of_row _ _ 7 _ _ _ K13.out).trans (rfl : _ = some (.int .u32 to_ : Value))
  have c22 := (cell_of_row _ _ 8 _ _ _ K13.out).trans (rfl : _ = some (.int .u32 left : Value))
  have f23 := fun j => frozen_of_row _ _ j _ _ K13.out
  go_wp2_with (first | go_skip | (refine load_rowH ?hw 30 _ rfl (w.heap.size + 1) rfl 30 #[.slice (some ⟨b1, 0, none⟩) (4096 * n) c1, .slice (some ⟨b2, 0, none⟩) n c2, .int .i64 q] (0, 0) _ K14.out Tryd.underlying30 rfl (by kernel_rfl) ?_; case hw => kernel_rfl))
  clear c18 c19 c20 c21 c22 f23
  refine (HJ.out _).mono ?_
  rintro e wJ ⟨rfl, hb⟩
  have K24 := Lib.hid (keepB K13.out hb)
  clear K13
  have K25 := Lib.hid (keepB K14.out hb)
  clear K14
  have K26 := Lib.hid (keepB K15.out hb)
  clear K15
  have K27 := Lib.hid (keepB K16.out hb)
  clear K16
  have HB28 := Lib.hid (HB17.out.trans (hb.mono HB17.out.size))
  clear HB17
  clear hb
  have c29 := (cell_of_row _ _ 0 _ _ _ K24.out).trans (rfl : _ = some (.int .u32 1 : Value))
  have c30 := (cell_of_row _ _ 5 _ _ _ K24.out).trans (rfl : _ = some (.bool true : Value))
  have c31 := (cell_of_row _ _ 6 _ _ _ K24.out).trans (rfl : _ = some (.int .u32 from_ : Value))
  have c32 := (cell_of_row _ _ 7 _ _ _ K24.out).trans (rfl : _ = some (.int .u32 to_ : Value))
  have c33 := (cell_of_row _ _ 8 _ _ _ K24.out).trans (rfl : _ = some (.int .u32 left : Value))
  have f34 := fun j => frozen_of_row _ _ j _ _ K24.out
  go_wp2_with (first | go_skip | (refine load_rowH ?hw 30 _ rfl (w.heap.size + 1) rfl 30 #[.slice (some ⟨b1, 0, none⟩) (4096 * n) c1, .slice (some ⟨b2, 0, none⟩) n c2, .int .i64 q] (0, 0) _ K25.out Tryd.underlying30 rfl (by kernel_rfl) ?_; case hw => kernel_rfl))
  clear c29 c30 c31 c32 c33 f34
  refine (HRD.out _).mono ?_
  rintro e wR ⟨rfl, hb⟩
  have K35 := Lib.hid (keepB K24.out hb)
  clear K24
  have K36 := Lib.hid (keepB K25.out hb)
  clear K25
  have K37 := Lib.hid (keepB K26.out hb)
  clear K26
  have K38 := Lib.hid (keepB K27.out hb)
  clear K27
  have HB39 := Lib.hid (HB28.out.trans (hb.mono HB28.out.size))
  clear HB28
  clear hb
  have c40 := (cell_of_row _ _ 0 _ _ _ K35.out).trans (rfl : _ = some (.int .u32 1 : Value))
  have c41 := (cell_of_row _ _ 5 _ _ _ K35.out).trans (rfl : _ = some (.bool true : Value))
  have c42 := (cell_of_row _ _ 6 _ _ _ K35.out).trans (rfl : _ = some (.int .u32 from_ : Value))
  have c43 := (cell_of_row _ _ 7 _ _ _ K35.out).trans (rfl : _ = some (.int .u32 to_ : Value))
  have c44 := (cell_of_row _ _ 8 _ _ _ K35.out).trans (rfl : _ = some (.int .u32 left : Value))
  have f45 := fun j => frozen_of_row _ _ j _ _ K35.out
  go_wp2_with (first | go_skip | (refine load_rowH ?hw 30 _ rfl (w.heap.size + 1) rfl 30 #[.slice (some ⟨b1, 0, none⟩) (4096 * n) c1, .slice (some ⟨b2, 0, none⟩) n c2, .int .i64 q] (0, 0) _ K36.out Tryd.underlying30 rfl (by kernel_rfl) ?_; case hw => kernel_rfl))
  clear c40 c41 c42 c43 c44 f45
  have hltR : w.heap.size + 1 + 1 + 1 < wR.heap.size := lt_heap K38.out
  refine (HWR.out _ HB39.out).mono ?_
  rintro e wW ⟨b3, c3, b4, c4, rfl, hr3, hr4, hb3, hb4, hb, hc3⟩
  have hlb3 : w.heap.size + 1 + 1 + 1 < b3 := by omega
  have hlb4 : w.heap.size + 1 + 1 + 1 < b4 := by omega
  have K46 := Lib.hid (keepB K35.out hb)
  clear K35
  have K47 := Lib.hid (keepB K36.out hb)
  clear K36
  have K48 := Lib.hid (keepB K37.out hb)
  clear K37
  have K49 := Lib.hid (keepB K38.out hb)
  clear K38
  have HB50 := Lib.hid (HB39.out.trans (hb.mono HB39.out.size))
  clear HB39
  have R3 := Lib.hid hr3
  have R4 := Lib.hid hr4
  have HC3 := Lib.hid hc3
  clear hb hr3 hr4 hb3 hb4 hc3 hltR
  have HO51 := Lib.hid (show (#[.slice (some ⟨b3, 0, none⟩) (4096 * n) c3, .slice (some ⟨b4, 0, none⟩) n c4, .int .i64 q3] : Array Value).all (·.oneCell') = true by simp [Value.oneCell'])
  go_wp2_with (refine wpList_store_to rfl 30 _ _ rfl (w.heap.size + 1) #[.slice (some ⟨b3, 0, none⟩) (4096 * n) c3, .slice (some ⟨b4, 0, none⟩) n c4, .int .i64 q3] rfl rfl 30 #[.slice (some ⟨b1, 0, none⟩) (4096 * n) c1, .slice (some ⟨b2, 0, none⟩) n c2, .int .i64 q] K47.out (by kernel_rfl) rfl HO51.out ?_)
  intro w52 hx53 hkk
  have R54 := Lib.hid (R3.out.kx hx53.out (by omega))
  clear R3
  have R55 := Lib.hid (R4.out.kx hx53.out (by omega))
  clear R4
  have K56 := Lib.hid (hx53.out.heap K46.out (by omega))
  clear K46
  have K57 := Lib.hid (hx53.out.heap K48.out (by omega))
  clear K48
  have K58 := Lib.hid (hx53.out.heap K49.out (by omega))
  clear K49
  have K59 := Lib.hid hkk
  clear hkk K47
  have HB60 := Lib.hid (HB50.out.trans (hx53.out.below (B := w.heap.size) (fun k hk e => by omega) HB50.out.size))
  clear HB50 hx53
  have c61 := (cell_of_row _ _ 4 _ _ _ K56.out).trans (rfl : _ = some (.int .u32 moved : Value))
  have f62 := fun j => frozen_of_row _ _ j _ _ K56.out
  have hkk : ((w52).setCell ⟨w.heap.size, 4, none⟩ (.int .u32 (((moved : Int) + 64) % 4294967296))).heap[w.heap.size]? = some (.cells #[.int .u32 1, .int .u32 head, .int .u32 at_, .int .u32 steps, .int .u32 (((moved : Int) + 64) % 4294967296), .bool true, .int .u32 from_, .int .u32 to_, .int .u32 left, .int .u32 next, .bool false] 24 (0, 0)) := (set_cells (K56.out)).trans rfl
  have hx64 := Lib.hid (show KX (fun k => k = w.heap.size) w52 ((w52).setCell ⟨w.heap.size, 4, none⟩ (.int .u32 (((moved : Int) + 64) % 4294967296))) from (KX.refl (fun k => k = w.heap.size) w52).setCell (p := ⟨w.heap.size, 4, none⟩) (.inl rfl) _)
  go_upto_region 22 with fail
  generalize ((w52).setCell ⟨w.heap.size, 4, none⟩ (.int .u32 (((moved : Int) + 64) % 4294967296))) = w63 at hkk hx64 ⊢
  have R65 := Lib.hid (R54.out.kx hx64.out (by omega))
  clear R54
  have R66 := Lib.hid (R55.out.kx hx64.out (by omega))
  clear R55
  clear c61 f62
  have K67 := Lib.hid (hx64.out.heap K59.out (by omega))
  clear K59
  have K68 := Lib.hid (hx64.out.heap K57.out (by omega))
  clear K57
  have K69 := Lib.hid (hx64.out.heap K58.out (by omega))
  clear K58
  have K70 := Lib.hid hkk
  clear hkk K56
  have HB71 := Lib.hid (HB60.out.trans (hx64.out.below (B := w.heap.size) (fun k hk e => by omega) HB60.out.size))
  clear HB60 hx64
  have c72 := (cell_of_row _ _ 6 _ _ _ K70.out).trans (rfl : _ = some (.int .u32 from_ : Value))
  have c73 := (cell_of_row _ _ 7 _ _ _ K70.out).trans (rfl : _ = some (.int .u32 to_ : Value))
  have c74 := (cell_of_row _ _ 8 _ _ _ K70.out).trans (rfl : _ = some (.int .u32 left : Value))
  have f75 := fun j => frozen_of_row _ _ j _ _ K70.out
  have hkk : ((((((w63).setCell ⟨w.heap.size, 6, none⟩ (.int .u32 (((from_ : Int) + 64) % 4294967296)))).setCell ⟨w.heap.size, 7, none⟩ (.int .u32 (((to_ : Int) + 64) % 4294967296)))).setCell ⟨w.heap.size, 8, none⟩ (.int .u32 ((left : Int) - 64))).heap[w.heap.size]? = some (.cells #[.int .u32 1, .int .u32 head, .int .u32 at_, .int .u32 steps, .int .u32 (((moved : Int) + 64) % 4294967296), .bool true, .int .u32 (((from_ : Int) + 64) % 4294967296), .int .u32 (((to_ : Int) + 64) % 4294967296), .int .u32 ((left : Int) - 64), .int .u32 next, .bool false] 24 (0, 0)) := (set_cells (set_cells (set_cells (K70.out)))).trans rfl
  have hx77 := Lib.hid (show KX (fun k => k = w.heap.size) w63 ((((((w63).setCell ⟨w.heap.size, 6, none⟩ (.int .u32 (((from_ : Int) + 64) % 4294967296)))).setCell ⟨w.heap.size, 7, none⟩ (.int .u32 (((to_ : Int) + 64) % 4294967296)))).setCell ⟨w.heap.size, 8, none⟩ (.int .u32 ((left : Int) - 64))) from (((KX.refl (fun k => k = w.heap.size) w63).setCell (p := ⟨w.heap.size, 6, none⟩) (.inl rfl) _).setCell (p := ⟨w.heap.size, 7, none⟩) (.inl rfl) _).setCell (p := ⟨w.heap.size, 8, none⟩) (.inl rfl) _)
  go_upto_region 24 with fail
  generalize ((((((w63).setCell ⟨w.heap.size, 6, none⟩ (.int .u32 (((from_ : Int) + 64) % 4294967296)))).setCell ⟨w.heap.size, 7, none⟩ (.int .u32 (((to_ : Int) + 64) % 4294967296)))).setCell ⟨w.heap.size, 8, none⟩ (.int .u32 ((left : Int) - 64))) = w76 at hkk hx77 ⊢
  have R78 := Lib.hid (R65.out.kx hx77.out (by omega))
  clear R65
  have R79 := Lib.hid (R66.out.kx hx77.out (by omega))
  clear R66
  clear c72 c73 c74 f75
  have K80 := Lib.hid (hx77.out.heap K67.out (by omega))
  clear K67
  have K81 := Lib.hid (hx77.out.heap K68.out (by omega))
  clear K68
  have K82 := Lib.hid (hx77.out.heap K69.out (by omega))
  clear K69
  have K83 := Lib.hid hkk
  clear hkk K70
  have HB84 := Lib.hid (HB71.out.trans (hx77.out.below (B := w.heap.size) (fun k hk e => by omega) HB71.out.size))
  clear HB71 hx77
  have HR85 := HB84
  refine wp_region_held_drew (S := fun W => KX (fun k => k = w.heap.size + 1 + 1 ∨ k = w.heap.size + 1 + 1 + 1) (w76) W) (by kernel_rfl) ((KX.refl (fun k => k = w.heap.size + 1 + 1 ∨ k = w.heap.size + 1 + 1 + 1) _).drew) (fun hHeld => ?_)
  refine wpAnyH_take (i := 0) rfl (by kernel_rfl) (by kernel_rfl) (by kernel_rfl) (fun _ _ _ h => h) (yieldsIf_load_mid (by rfl) 24 _ rfl (w.heap.size) 0 rfl #[.int .u32 1, .int .u32 head, .int .u32 at_, .int .u32 steps, .int .u32 (((moved : Int) + 64) % 4294967296), .bool true, .int .u32 (((from_ : Int) + 64) % 4294967296), .int .u32 (((to_ : Int) + 64) % 4294967296), .int .u32 ((left : Int) - 64), .int .u32 next, .bool false].toList _ (fun W hSw => range_of_all (hSw.heap K83.out (by omega))) Tryd.underlying24 rfl ?hi0) (by assumption) ?rest0
  case hi0 => kernel_rfl
  simp only [Act.put, List.getElem_toArray, List.getElem_cons_zero, List.setIfInBounds_toArray, List.set_cons_zero, List.set_cons_succ]
  refine wpAnyH_take (i := 1) rfl (by kernel_rfl) (by kernel_rfl) (by kernel_rfl) (fun _ _ _ h => h) (yieldsIf_load_mid (by rfl) 30 _ rfl (w.heap.size + 1) 0 rfl #[.slice (some ⟨b3, 0, none⟩) (4096 * n) c3, .slice (some ⟨b4, 0, none⟩) n c4, .int .i64 q3].toList _ (fun W hSw => range_of_all (hSw.heap K80.out (by omega))) Tryd.underlying30 rfl ?hi1) (by assumption) ?rest1
  case hi1 => kernel_rfl
  simp only [Act.put, List.getElem_toArray, List.getElem_cons_zero, List.getElem_cons_succ, List.setIfInBounds_toArray, List.set_cons_zero, List.set_cons_succ]
  have HO86 := Lib.hid (show (#[.int .u32 1, .int .u32 head, .int .u32 at_, .int .u32 steps, .int .u32 (((moved : Int) + 64) % 4294967296), .bool true, .int .u32 (((from_ : Int) + 64) % 4294967296), .int .u32 (((to_ : Int) + 64) % 4294967296), .int .u32 ((left : Int) - 64), .int .u32 next, .bool false] : Array Value).all (·.oneCell') = true by simp [Value.oneCell'])
  have HO87 := Lib.hid (show (#[.slice (some ⟨b3, 0, none⟩) (4096 * n) c3, .slice (some ⟨b4, 0, none⟩) n c4, .int .i64 q3] : Array Value).all (·.oneCell') = true by simp [Value.oneCell'])
  refine wpAnyH_ready (rs := [2]) (by kernel_rfl) (by simp) ?_
  refine AllReadyH.cons (o := _) rfl (fun K hK => ?_) (AllReadyH.nil)
  simp only [List.getElem_toArray, List.getElem_cons_zero, List.getElem_cons_succ]
  rw [if_pos (by rfl)]
  refine wp_store_row 24 _ _ rfl (w.heap.size + 1 + 1) #[.int .u32 1, .int .u32 head, .int .u32 at_, .int .u32 steps, .int .u32 (((moved : Int) + 64) % 4294967296), .bool true, .int .u32 (((from_ : Int) + 64) % 4294967296), .int .u32 (((to_ : Int) + 64) % 4294967296), .int .u32 ((left : Int) - 64), .int .u32 next, .bool false] rfl rfl 24 #[.int .u32 0, .int .u32 0, .int .u32 0, .int .u32 0, .int .u32 0, .bool false, .int .u32 0, .int .u32 0, .int .u32 0, .int .u32 0, .bool false] K81.out (by kernel_rfl) rfl HO86.out ?_
  refine hK.out _ _ (hHeld.setRow (.inl (by omega)) _) (fun hq1 => ?_)
  clear hK K
  try simp only [Act.put]
  have ka : (((w76).drew).setRow (w.heap.size + 1 + 1) #[.int .u32 1, .int .u32 head, .int .u32 at_, .int .u32 steps, .int .u32 (((moved : Int) + 64) % 4294967296), .bool true, .int .u32 (((from_ : Int) + 64) % 4294967296), .int .u32 (((to_ : Int) + 64) % 4294967296), .int .u32 ((left : Int) - 64), .int .u32 next, .bool false]).heap[w.heap.size + 1 + 1]? = some (.cells #[.int .u32 1, .int .u32 head, .int .u32 at_, .int .u32 steps, .int .u32 (((moved : Int) + 64) % 4294967296), .bool true, .int .u32 (((from_ : Int) + 64) % 4294967296), .int .u32 (((to_ : Int) + 64) % 4294967296), .int .u32 ((left : Int) - 64), .int .u32 next, .bool false] 24 (0, 0)) := setRow_heap _ _ _ _ _ _ K81.out
  have kb : (((w76).drew).setRow (w.heap.size + 1 + 1) #[.int .u32 1, .int .u32 head, .int .u32 at_, .int .u32 steps, .int .u32 (((moved : Int) + 64) % 4294967296), .bool true, .int .u32 (((from_ : Int) + 64) % 4294967296), .int .u32 (((to_ : Int) + 64) % 4294967296), .int .u32 ((left : Int) - 64), .int .u32 next, .bool false]).heap[w.heap.size + 1 + 1 + 1]? = some (.cells #[.slice none 0 0, .slice none 0 0, .int .i64 0] 30 (0, 0)) := (heap_row_other (by omega)).trans K82.out
  generalize ((w76).drew).setRow (w.heap.size + 1 + 1) #[.int .u32 1, .int .u32 head, .int .u32 at_, .int .u32 steps, .int .u32 (((moved : Int) + 64) % 4294967296), .bool true, .int .u32 (((from_ : Int) + 64) % 4294967296), .int .u32 (((to_ : Int) + 64) % 4294967296), .int .u32 ((left : Int) - 64), .int .u32 next, .bool false] = wq at ka kb hq1 ⊢
  refine wpAnyH_ready (rs := [3]) (by kernel_rfl) (by simp) ?_
  refine AllReadyH.cons (o := _) rfl (fun K hK => ?_) (AllReadyH.nil)
  simp only [List.getElem_toArray, List.getElem_cons_zero, List.getElem_cons_succ]
  rw [if_pos (by rfl)]
  refine wp_store_row 30 _ _ rfl (w.heap.size + 1 + 1 + 1) #[.slice (some ⟨b3, 0, none⟩) (4096 * n) c3, .slice (some ⟨b4, 0, none⟩) n c4, .int .i64 q3] rfl rfl 30 #[.slice none 0 0, .slice none 0 0, .int .i64 0] kb (by kernel_rfl) rfl HO87.out ?_
  refine hK.out _ _ (hq1.setRow (.inl (by omega)) _) (fun hq2 => ?_)
  clear hK K
  try simp only [Act.put]
  have kc : (wq.setRow (w.heap.size + 1 + 1 + 1) #[.slice (some ⟨b3, 0, none⟩) (4096 * n) c3, .slice (some ⟨b4, 0, none⟩) n c4, .int .i64 q3]).heap[w.heap.size + 1 + 1]? = some (.cells #[.int .u32 1, .int .u32 head, .int .u32 at_, .int .u32 steps, .int .u32 (((moved : Int) + 64) % 4294967296), .bool true, .int .u32 (((from_ : Int) + 64) % 4294967296), .int .u32 (((to_ : Int) + 64) % 4294967296), .int .u32 ((left : Int) - 64), .int .u32 next, .bool false] 24 (0, 0)) := (heap_row_other (by omega)).trans ka
  have kd : (wq.setRow (w.heap.size + 1 + 1 + 1) #[.slice (some ⟨b3, 0, none⟩) (4096 * n) c3, .slice (some ⟨b4, 0, none⟩) n c4, .int .i64 q3]).heap[w.heap.size + 1 + 1 + 1]? = some (.cells #[.slice (some ⟨b3, 0, none⟩) (4096 * n) c3, .slice (some ⟨b4, 0, none⟩) n c4, .int .i64 q3] 30 (0, 0)) := setRow_heap _ _ _ _ _ _ kb
  generalize wq.setRow (w.heap.size + 1 + 1 + 1) #[.slice (some ⟨b3, 0, none⟩) (4096 * n) c3, .slice (some ⟨b4, 0, none⟩) n c4, .int .i64 q3] = wz at kc kd hq2 ⊢
  clear ka kb hq1
  refine wpAnyH_done (by kernel_rfl) ?_ _
  have HBE := Lib.hid (HR85.out.trans (hq2.below (B := w.heap.size) (fun k hk e => by omega) HR85.out.size))
  go_wp2_with fail
  exact bodyPost_ret (v := .tuple #[.agg #[.int .u32 1, .int .u32 head, .int .u32 at_, .int .u32 steps, .int .u32 (((moved : Int) + 64) % 4294967296), .bool true, .int .u32 (((from_ : Int) + 64) % 4294967296), .int .u32 (((to_ : Int) + 64) % 4294967296), .int .u32 ((left : Int) - 64), .int .u32 next, .bool false], .agg #[.slice (some ⟨b3, 0, none⟩) (4096 * n) c3, .slice (some ⟨b4, 0, none⟩) n c4, .int .i64 q3]]) (results_two_cells Tryd.results12 _ _ (w.heap.size + 1 + 1) (w.heap.size + 1 + 1 + 1) 24 30 #[.int .u32 1, .int .u32 head, .int .u32 at_, .int .u32 steps, .int .u32 (((moved : Int) + 64) % 4294967296), .bool true, .int .u32 (((from_ : Int) + 64) % 4294967296), .int .u32 (((to_ : Int) + 64) % 4294967296), .int .u32 ((left : Int) - 64), .int .u32 next, .bool false] #[.slice (some ⟨b3, 0, none⟩) (4096 * n) c3, .slice (some ⟨b4, 0, none⟩) n c4, .int .i64 q3] (0, 0) (0, 0) _ _ rfl rfl kc kd Tryd.underlying24 rfl (by kernel_rfl) Tryd.underlying30 rfl (by kernel_rfl)) rfl ⟨b3, c3, b4, c4, rfl, R78.out.kx hq2 (by omega), R79.out.kx hq2 (by omega), by omega, by omega, HBE.out, HC3.out⟩

set_option maxRecDepth 100000 in
set_option maxHeartbeats 8000000 in
theorem r12_tk_mv_chain (head at_ steps moved from_ to_ left next : Nat) {f3 : Nat → UInt8} {d3 : Nat → Bool} {q3 : Int} {b1 c1 b2 n c2 : Nat} {q : Int} (w : World) (hl : left ≤ 64) (hll : left < 4294967296) (hm : moved < 4294967296) (hf : 2147483648 ≤ from_) (hf2 : from_ < 4294967296) (ht : 2147483648 ≤ to_) (ht2 : to_ < 4294967296) (a1 : Nat) (hn : ¬ next = 0) (HI : Hid (∀ W, Calls Tryd.prog 54 #[.agg #[.slice (some ⟨b1, 0, none⟩) (4096 * n) c1, .slice (some ⟨b2, 0, none⟩) n c2, .int .i64 q], .int .u32 from_, .int .u32 left] W fun e w' => e = .returned (.bool true) ∧ Below W.heap.size W w')) (HJ : Hid (∀ W, Calls Tryd.prog 54 #[.agg #[.slice (some ⟨b1, 0, none⟩) (4096 * n) c1, .slice (some ⟨b2, 0, none⟩) n c2, .int .i64 q], .int .u32 to_, .int .u32 left] W fun e w' => e = .returned (.bool true) ∧ Below W.heap.size W w'))
    (HRD : Hid (∀ W, Calls Tryd.prog 57 #[.agg #[.slice (some ⟨b1, 0, none⟩) (4096 * n) c1, .slice (some ⟨b2, 0, none⟩) n c2, .int .i64 q], .int .u32 ((from_ : Int) - 2147483648), .int .i64 left] W fun e w' => e = .returned (.tuple #[.slice (some ⟨b1, a1, none⟩) left (c1 - a1), .int .i64 0]) ∧ Below W.heap.size W w'))
    (HWR : Hid (∀ W, Below w.heap.size w W → Calls Tryd.prog 58 #[.agg #[.slice (some ⟨b1, 0, none⟩) (4096 * n) c1, .slice (some ⟨b2, 0, none⟩) n c2, .int .i64 q], .int .u32 ((to_ : Int) - 2147483648), .slice (some ⟨b1, a1, none⟩) left (c1 - a1)] W fun e w' => ∃ b3 c3 b4 c4, e = .returned (.tuple #[.agg #[.slice (some ⟨b3, 0, none⟩) (4096 * n) c3, .slice (some ⟨b4, 0, none⟩) n c4, .int .i64 q3], .int .i64 0]) ∧ Row w' b3 5 (4096 * n) (cellU f3) ∧ Row w' b4 4 n (cellT d3) ∧ W.heap.size ≤ b3 ∧ W.heap.size ≤ b4 ∧ Below W.heap.size W w' ∧ 4096 * n ≤ c3))
     (HC : Hid (∀ W, Calls Tryd.prog 41 #[.agg #[.int .u32 1, .int .u32 head, .int .u32 at_, .int .u32 steps, .int .u32 moved, .bool true, .int .u32 from_, .int .u32 to_, .int .u32 left, .int .u32 next, .bool false]] W fun e w' => e = .returned (.int .i64 0) ∧ Below W.heap.size W w')) : Calls Tryd.prog 12 #[.agg #[.int .u32 1, .int .u32 head, .int .u32 at_, .int .u32 steps, .int .u32 moved, .bool true, .int .u32 from_, .int .u32 to_, .int .u32 left, .int .u32 next, .bool false], .agg #[.slice (some ⟨b1, 0, none⟩) (4096 * n) c1, .slice (some ⟨b2, 0, none⟩) n c2, .int .i64 q]] w fun e w' => ∃ b3 c3 b4 c4, e = .returned (.tuple #[.agg #[.int .u32 1, .int .u32 head, .int .u32 next, .int .u32 steps, .int .u32 (((moved : Int) + (left : Int)) % 4294967296), .bool false, .int .u32 0, .int .u32 0, .int .u32 0, .int .u32 0, .bool false], .agg #[.slice (some ⟨b3, 0, none⟩) (4096 * n) c3, .slice (some ⟨b4, 0, none⟩) n c4, .int .i64 q3]]) ∧ Row w' b3 5 (4096 * n) (cellU f3) ∧ Row w' b4 4 n (cellT d3) ∧ w.heap.size ≤ b3 ∧ w.heap.size ≤ b4 ∧ Below w.heap.size w w' ∧ 4096 * n ≤ c3 := by
  have hli : (left : Int) ≤ 64 := by omega
  have hl0 : (0 : Int) ≤ (left : Int) := by omega
  have hl1 : (left : Int) < 4294967296 := by omega
  have hm0 : (0 : Int) ≤ (moved : Int) := by omega
  have hm1 : (moved : Int) < 4294967296 := by omega
  have hfi : (2147483648 : Int) ≤ (from_ : Int) := by omega
  have hfj : (from_ : Int) < 4294967296 := by omega
  have hti : (2147483648 : Int) ≤ (to_ : Int) := by omega
  have htj : (to_ : Int) < 4294967296 := by omega
  have e3 : ((next : Int) == 0) = false := by simp; omega
  clear hl hll hm hf hf2 ht ht2 hn
  obtain ⟨k0, k1, k2, k3, hb0⟩ := four_new w (.cells #[.int .u32 1, .int .u32 head, .int .u32 at_, .int .u32 steps, .int .u32 moved, .bool true, .int .u32 from_, .int .u32 to_, .int .u32 left, .int .u32 next, .bool false] 24) (.cells #[.slice (some ⟨b1, 0, none⟩) (4096 * n) c1, .slice (some ⟨b2, 0, none⟩) n c2, .int .i64 q] 30) (.cells #[.int .u32 0, .int .u32 0, .int .u32 0, .int .u32 0, .int .u32 0, .bool false, .int .u32 0, .int .u32 0, .int .u32 0, .int .u32 0, .bool false] 24) (.cells #[.slice none 0 0, .slice none 0 0, .int .i64 0] 30)
  have K00 := Lib.hid k0
  have K01 := Lib.hid k1
  have K02 := Lib.hid k2
  have K03 := Lib.hid k3
  have HB0 := Lib.hid hb0
  clear k0 k1 k2 k3 hb0
  go_enter Tryd.func12, Tryd.ntmps12
  go_wp2_with fail
  refine (HC.out _).mono ?_
  rintro e w1 ⟨rfl, hb⟩
  have K2 := Lib.hid (keepB K00.out hb)
  clear K00
  have K3 := Lib.hid (keepB K01.out hb)
  clear K01
  have K4 := Lib.hid (keepB K02.out hb)
  clear K02
  have K5 := Lib.hid (keepB K03.out hb)
  clear K03
  have HB6 := Lib.hid (HB0.out.trans (hb.mono HB0.out.size))
  clear HB0
  clear hb
  have c7 := (cell_of_row _ _ 0 _ _ _ K2.out).trans (rfl : _ = some (.int .u32 1 : Value))
  have c8 := (cell_of_row _ _ 5 _ _ _ K2.out).trans (rfl : _ = some (.bool true : Value))
  have c9 := (cell_of_row _ _ 6 _ _ _ K2.out).trans (rfl : _ = some (.int .u32 from_ : Value))
  have c10 := (cell_of_row _ _ 7 _ _ _ K2.out).trans (rfl : _ = some (.int .u32 to_ : Value))
  have c11 := (cell_of_row _ _ 8 _ _ _ K2.out).trans (rfl : _ = some (.int .u32 left : Value))
  have f12 := fun j => frozen_of_row _ _ j _ _ K2.out
  go_wp2_with (first | go_skip | (refine load_rowH ?hw 30 _ rfl (w.heap.size + 1) rfl 30 #[.slice (some ⟨b1, 0, none⟩) (4096 * n) c1, .slice (some ⟨b2, 0, none⟩) n c2, .int .i64 q] (0, 0) _ K3.out Tryd.underlying30 rfl (by kernel_rfl) ?_; case hw => kernel_rfl))
  clear c7 c8 c9 c10 c11 f12
  refine (HI.out _).mono ?_
  rintro e wI ⟨rfl, hb⟩
  have K13 := Lib.hid (keepB K2.out hb)
  clear K2
  have K14 := Lib.hid (keepB K3.out hb)
  clear K3
  have K15 := Lib.hid (keepB K4.out hb)
  clear K4
  have K16 := Lib.hid (keepB K5.out hb)
  clear K5
  have HB17 := Lib.hid (HB6.out.trans (hb.mono HB6.out.size))
  clear HB6
  clear hb
  have c18 := (cell_of_row _ _ 0 _ _ _ K13.out).trans (rfl : _ = some (.int .u32 1 : Value))
  have c19 := (cell_of_row _ _ 5 _ _ _ K13.out).trans (rfl : _ = some (.bool true : Value))
  have c20 := (cell_of_row _ _ 6 _ _ _ K13.out).trans (rfl : _ = some (.int .u32 from_ : Value))
  have c21 := (cell_of_row _ _ 7 _ _ _ K13.out).trans (rfl : _ = some (.int .u32 to_ : Value))
  have c22 := (cell_of_row _ _ 8 _ _ _ K13.out).trans (rfl : _ = some (.int .u32 left : Value))
  have f23 := fun j => frozen_of_row _ _ j _ _ K13.out
  go_wp2_with (first | go_skip | (refine load_rowH ?hw 30 _ rfl (w.heap.size + 1) rfl 30 #[.slice (some ⟨b1, 0, none⟩) (4096 * n) c1, .slice (some ⟨b2, 0, none⟩) n c2, .int .i64 q] (0, 0) _ K14.out Tryd.underlying30 rfl (by kernel_rfl) ?_; case hw => kernel_rfl))
  clear c18 c19 c20 c21 c22 f23
  refine (HJ.out _).mono ?_
  rintro e wJ ⟨rfl, hb⟩
  have K24 := Lib.hid (keepB K13.out hb)
  clear K13
  have K25 := Lib.hid (keepB K14.out hb)
  clear K14
  have K26 := Lib.hid (keepB K15.out hb)
  clear K15
  have K27 := Lib.hid (keepB K16.out hb)
  clear K16
  have HB28 := Lib.hid (HB17.out.trans (hb.mono HB17.out.size))
  clear HB17
  clear hb
  have c29 := (cell_of_row _ _ 0 _ _ _ K24.out).trans (rfl : _ = some (.int .u32 1 : Value))
  have c30 := (cell_of_row _ _ 5 _ _ _ K24.out).trans (rfl : _ = some (.bool true : Value))
  have c31 := (cell_of_row _ _ 6 _ _ _ K24.out).trans (rfl : _ = some (.int .u32 from_ : Value))
  have c32 := (cell_of_row _ _ 7 _ _ _ K24.out).trans (rfl : _ = some (.int .u32 to_ : Value))
  have c33 := (cell_of_row _ _ 8 _ _ _ K24.out).trans (rfl : _ = some (.int .u32 left : Value))
  have f34 := fun j => frozen_of_row _ _ j _ _ K24.out
  go_wp2_with (first | go_skip | (refine load_rowH ?hw 30 _ rfl (w.heap.size + 1) rfl 30 #[.slice (some ⟨b1, 0, none⟩) (4096 * n) c1, .slice (some ⟨b2, 0, none⟩) n c2, .int .i64 q] (0, 0) _ K25.out Tryd.underlying30 rfl (by kernel_rfl) ?_; case hw => kernel_rfl))
  clear c29 c30 c31 c32 c33 f34
  refine (HRD.out _).mono ?_
  rintro e wR ⟨rfl, hb⟩
  have K35 := Lib.hid (keepB K24.out hb)
  clear K24
  have K36 := Lib.hid (keepB K25.out hb)
  clear K25
  have K37 := Lib.hid (keepB K26.out hb)
  clear K26
  have K38 := Lib.hid (keepB K27.out hb)
  clear K27
  have HB39 := Lib.hid (HB28.out.trans (hb.mono HB28.out.size))
  clear HB28
  clear hb
  have c40 := (cell_of_row _ _ 0 _ _ _ K35.out).trans (rfl : _ = some (.int .u32 1 : Value))
  have c41 := (cell_of_row _ _ 5 _ _ _ K35.out).trans (rfl : _ = some (.bool true : Value))
  have c42 := (cell_of_row _ _ 6 _ _ _ K35.out).trans (rfl : _ = some (.int .u32 from_ : Value))
  have c43 := (cell_of_row _ _ 7 _ _ _ K35.out).trans (rfl : _ = some (.int .u32 to_ : Value))
  have c44 := (cell_of_row _ _ 8 _ _ _ K35.out).trans (rfl : _ = some (.int .u32 left : Value))
  have f45 := fun j => frozen_of_row _ _ j _ _ K35.out
  go_wp2_with (first | go_skip | (refine load_rowH ?hw 30 _ rfl (w.heap.size + 1) rfl 30 #[.slice (some ⟨b1, 0, none⟩) (4096 * n) c1, .slice (some ⟨b2, 0, none⟩) n c2, .int .i64 q] (0, 0) _ K36.out Tryd.underlying30 rfl (by kernel_rfl) ?_; case hw => kernel_rfl))
  clear c40 c41 c42 c43 c44 f45
  have hltR : w.heap.size + 1 + 1 + 1 < wR.heap.size := lt_heap K38.out
  refine (HWR.out _ HB39.out).mono ?_
  rintro e wW ⟨b3, c3, b4, c4, rfl, hr3, hr4, hb3, hb4, hb, hc3⟩
  have hlb3 : w.heap.size + 1 + 1 + 1 < b3 := by omega
  have hlb4 : w.heap.size + 1 + 1 + 1 < b4 := by omega
  have K46 := Lib.hid (keepB K35.out hb)
  clear K35
  have K47 := Lib.hid (keepB K36.out hb)
  clear K36
  have K48 := Lib.hid (keepB K37.out hb)
  clear K37
  have K49 := Lib.hid (keepB K38.out hb)
  clear K38
  have HB50 := Lib.hid (HB39.out.trans (hb.mono HB39.out.size))
  clear HB39
  have R3 := Lib.hid hr3
  have R4 := Lib.hid hr4
  have HC3 := Lib.hid hc3
  clear hb hr3 hr4 hb3 hb4 hc3 hltR
  have HO51 := Lib.hid (show (#[.slice (some ⟨b3, 0, none⟩) (4096 * n) c3, .slice (some ⟨b4, 0, none⟩) n c4, .int .i64 q3] : Array Value).all (·.oneCell') = true by simp [Value.oneCell'])
  go_wp2_with (refine wpList_store_to rfl 30 _ _ rfl (w.heap.size + 1) #[.slice (some ⟨b3, 0, none⟩) (4096 * n) c3, .slice (some ⟨b4, 0, none⟩) n c4, .int .i64 q3] rfl rfl 30 #[.slice (some ⟨b1, 0, none⟩) (4096 * n) c1, .slice (some ⟨b2, 0, none⟩) n c2, .int .i64 q] K47.out (by kernel_rfl) rfl HO51.out ?_)
  intro w52 hx53 hkk
  have R54 := Lib.hid (R3.out.kx hx53.out (by omega))
  clear R3
  have R55 := Lib.hid (R4.out.kx hx53.out (by omega))
  clear R4
  have K56 := Lib.hid (hx53.out.heap K46.out (by omega))
  clear K46
  have K57 := Lib.hid (hx53.out.heap K48.out (by omega))
  clear K48
  have K58 := Lib.hid (hx53.out.heap K49.out (by omega))
  clear K49
  have K59 := Lib.hid hkk
  clear hkk K47
  have HB60 := Lib.hid (HB50.out.trans (hx53.out.below (B := w.heap.size) (fun k hk e => by omega) HB50.out.size))
  clear HB50 hx53
  have c61 := (cell_of_row _ _ 4 _ _ _ K56.out).trans (rfl : _ = some (.int .u32 moved : Value))
  have f62 := fun j => frozen_of_row _ _ j _ _ K56.out
  have hkk : ((w52).setCell ⟨w.heap.size, 4, none⟩ (.int .u32 (((moved : Int) + (left : Int)) % 4294967296))).heap[w.heap.size]? = some (.cells #[.int .u32 1, .int .u32 head, .int .u32 at_, .int .u32 steps, .int .u32 (((moved : Int) + (left : Int)) % 4294967296), .bool true, .int .u32 from_, .int .u32 to_, .int .u32 left, .int .u32 next, .bool false] 24 (0, 0)) := (set_cells (K56.out)).trans rfl
  have hx64 := Lib.hid (show KX (fun k => k = w.heap.size) w52 ((w52).setCell ⟨w.heap.size, 4, none⟩ (.int .u32 (((moved : Int) + (left : Int)) % 4294967296))) from (KX.refl (fun k => k = w.heap.size) w52).setCell (p := ⟨w.heap.size, 4, none⟩) (.inl rfl) _)
  go_upto_region 22 with fail
  generalize ((w52).setCell ⟨w.heap.size, 4, none⟩ (.int .u32 (((moved : Int) + (left : Int)) % 4294967296))) = w63 at hkk hx64 ⊢
  have R65 := Lib.hid (R54.out.kx hx64.out (by omega))
  clear R54
  have R66 := Lib.hid (R55.out.kx hx64.out (by omega))
  clear R55
  clear c61 f62
  have K67 := Lib.hid (hx64.out.heap K59.out (by omega))
  clear K59
  have K68 := Lib.hid (hx64.out.heap K57.out (by omega))
  clear K57
  have K69 := Lib.hid (hx64.out.heap K58.out (by omega))
  clear K58
  have K70 := Lib.hid hkk
  clear hkk K56
  have HB71 := Lib.hid (HB60.out.trans (hx64.out.below (B := w.heap.size) (fun k hk e => by omega) HB60.out.size))
  clear HB60 hx64
  have c72 := (cell_of_row _ _ 1 _ _ _ K70.out).trans (rfl : _ = some (.int .u32 head : Value))
  have c73 := (cell_of_row _ _ 2 _ _ _ K70.out).trans (rfl : _ = some (.int .u32 at_ : Value))
  have c74 := (cell_of_row _ _ 3 _ _ _ K70.out).trans (rfl : _ = some (.int .u32 steps : Value))
  have c75 := (cell_of_row _ _ 4 _ _ _ K70.out).trans (rfl : _ = some (.int .u32 (((moved : Int) + (left : Int)) % 4294967296) : Value))
  have c76 := (cell_of_row _ _ 8 _ _ _ K70.out).trans (rfl : _ = some (.int .u32 left : Value))
  have c77 := (cell_of_row _ _ 9 _ _ _ K70.out).trans (rfl : _ = some (.int .u32 next : Value))
  have f78 := fun j => frozen_of_row _ _ j _ _ K70.out
  have HO81 := Lib.hid (show (#[.int .u32 1, .int .u32 head, .int .u32 next, .int .u32 steps, .int .u32 (((moved : Int) + (left : Int)) % 4294967296), .bool false, .int .u32 0, .int .u32 0, .int .u32 0, .int .u32 0, .bool false] : Array Value).all (·.oneCell') = true by simp [Value.oneCell'])
  have hal := (Below.refl w63.heap.size w63).alloc (Nat.le_refl _) (.cells #[.int .u32 0, .int .u32 0, .int .u32 0, .int .u32 0, .int .u32 0, .bool false, .int .u32 0, .int .u32 0, .int .u32 0, .int .u32 0, .bool false] 24)
  have KT := Lib.hid (heap_alloc_new w63 (.cells #[.int .u32 0, .int .u32 0, .int .u32 0, .int .u32 0, .int .u32 0, .bool false, .int .u32 0, .int .u32 0, .int .u32 0, .int .u32 0, .bool false] 24))
  have hltT : w.heap.size + 1 + 1 + 1 < w63.heap.size := lt_heap K69.out
  have hT3 : b3 < w63.heap.size := R65.out.lt
  have hT4 : b4 < w63.heap.size := R66.out.lt
  have K82 := Lib.hid (keepB K70.out hal)
  have K83 := Lib.hid (keepB K67.out hal)
  have K84 := Lib.hid (keepB K68.out hal)
  have K85 := Lib.hid (keepB K69.out hal)
  have R86 := Lib.hid (R65.out.below hal)
  have R87 := Lib.hid (R66.out.below hal)
  have HB88 := Lib.hid (HB71.out.trans (hal.mono HB71.out.size))
  clear hal
  go_wp2_with (refine wpList_store_to rfl 24 _ _ rfl w63.heap.size #[.int .u32 1, .int .u32 head, .int .u32 next, .int .u32 steps, .int .u32 (((moved : Int) + (left : Int)) % 4294967296), .bool false, .int .u32 0, .int .u32 0, .int .u32 0, .int .u32 0, .bool false] rfl rfl 24 #[.int .u32 0, .int .u32 0, .int .u32 0, .int .u32 0, .int .u32 0, .bool false, .int .u32 0, .int .u32 0, .int .u32 0, .int .u32 0, .bool false] KT.out (by kernel_rfl) rfl HO81.out ?_)
  intro wY hxY hkY
  clear c72 c73 c74 c75 c76 c77 f78
  clear K70 K67 K68 K69 R65 R66 HB71
  have hxY2 := hxY
  have R89 := Lib.hid (R86.out.kx hxY.out (by omega))
  clear R86
  have R90 := Lib.hid (R87.out.kx hxY.out (by omega))
  clear R87
  have K91 := Lib.hid (hxY.out.heap K82.out (by omega))
  clear K82
  have K92 := Lib.hid (hxY.out.heap K83.out (by omega))
  clear K83
  have K93 := Lib.hid (hxY.out.heap K84.out (by omega))
  clear K84
  have K94 := Lib.hid (hxY.out.heap K85.out (by omega))
  clear K85
  have K95 := Lib.hid hkY
  clear hkY KT
  have HB96 := Lib.hid (HB88.out.trans (hxY.out.below (B := w.heap.size) (fun k hk e => by omega) HB88.out.size))
  clear HB88 hxY
  clear hxY2
  generalize w63.heap.size = bT at hltT hT3 hT4 K95 ⊢
  have c97 := (cell_of_row _ _ 1 _ _ _ K91.out).trans (rfl : _ = some (.int .u32 head : Value))
  have c98 := (cell_of_row _ _ 2 _ _ _ K91.out).trans (rfl : _ = some (.int .u32 at_ : Value))
  have c99 := (cell_of_row _ _ 3 _ _ _ K91.out).trans (rfl : _ = some (.int .u32 steps : Value))
  have c100 := (cell_of_row _ _ 4 _ _ _ K91.out).trans (rfl : _ = some (.int .u32 (((moved : Int) + (left : Int)) % 4294967296) : Value))
  have c101 := (cell_of_row _ _ 9 _ _ _ K91.out).trans (rfl : _ = some (.int .u32 next : Value))
  have f102 := fun j => frozen_of_row _ _ j _ _ K91.out
  go_upto_region 28 with fail
  clear c97 c98 c99 c100 c101 f102
  have HR103 := HB96
  refine wp_region_held_drew (S := fun W => KX (fun k => k = w.heap.size + 1 + 1 ∨ k = w.heap.size + 1 + 1 + 1) (wY) W) (by kernel_rfl) ((KX.refl (fun k => k = w.heap.size + 1 + 1 ∨ k = w.heap.size + 1 + 1 + 1) _).drew) (fun hHeld => ?_)
  refine wpAnyH_take (i := 0) rfl (by kernel_rfl) (by kernel_rfl) (by kernel_rfl) (fun _ _ _ h => h) (yieldsIf_load_mid (by rfl) 24 _ rfl (bT) 0 rfl #[.int .u32 1, .int .u32 head, .int .u32 next, .int .u32 steps, .int .u32 (((moved : Int) + (left : Int)) % 4294967296), .bool false, .int .u32 0, .int .u32 0, .int .u32 0, .int .u32 0, .bool false].toList _ (fun W hSw => range_of_all (hSw.heap K95.out (by omega))) Tryd.underlying24 rfl ?hi0) (by assumption) ?rest0
  case hi0 => kernel_rfl
  simp only [Act.put, List.getElem_toArray, List.getElem_cons_zero, List.setIfInBounds_toArray, List.set_cons_zero, List.set_cons_succ]
  refine wpAnyH_take (i := 1) rfl (by kernel_rfl) (by kernel_rfl) (by kernel_rfl) (fun _ _ _ h => h) (yieldsIf_load_mid (by rfl) 30 _ rfl (w.heap.size + 1) 0 rfl #[.slice (some ⟨b3, 0, none⟩) (4096 * n) c3, .slice (some ⟨b4, 0, none⟩) n c4, .int .i64 q3].toList _ (fun W hSw => range_of_all (hSw.heap K92.out (by omega))) Tryd.underlying30 rfl ?hi1) (by assumption) ?rest1
  case hi1 => kernel_rfl
  simp only [Act.put, List.getElem_toArray, List.getElem_cons_zero, List.getElem_cons_succ, List.setIfInBounds_toArray, List.set_cons_zero, List.set_cons_succ]
  have HO104 := Lib.hid (show (#[.int .u32 1, .int .u32 head, .int .u32 next, .int .u32 steps, .int .u32 (((moved : Int) + (left : Int)) % 4294967296), .bool false, .int .u32 0, .int .u32 0, .int .u32 0, .int .u32 0, .bool false] : Array Value).all (·.oneCell') = true by simp [Value.oneCell'])
  have HO105 := Lib.hid (show (#[.slice (some ⟨b3, 0, none⟩) (4096 * n) c3, .slice (some ⟨b4, 0, none⟩) n c4, .int .i64 q3] : Array Value).all (·.oneCell') = true by simp [Value.oneCell'])
  refine wpAnyH_ready (rs := [2]) (by kernel_rfl) (by simp) ?_
  refine AllReadyH.cons (o := _) rfl (fun K hK => ?_) (AllReadyH.nil)
  simp only [List.getElem_toArray, List.getElem_cons_zero, List.getElem_cons_succ]
  rw [if_pos (by rfl)]
  refine wp_store_row 24 _ _ rfl (w.heap.size + 1 + 1) #[.int .u32 1, .int .u32 head, .int .u32 next, .int .u32 steps, .int .u32 (((moved : Int) + (left : Int)) % 4294967296), .bool false, .int .u32 0, .int .u32 0, .int .u32 0, .int .u32 0, .bool false] rfl rfl 24 #[.int .u32 0, .int .u32 0, .int .u32 0, .int .u32 0, .int .u32 0, .bool false, .int .u32 0, .int .u32 0, .int .u32 0, .int .u32 0, .bool false] K93.out (by kernel_rfl) rfl HO104.out ?_
  refine hK.out _ _ (hHeld.setRow (.inl (by omega)) _) (fun hq1 => ?_)
  clear hK K
  try simp only [Act.put]
  have ka : (((wY).drew).setRow (w.heap.size + 1 + 1) #[.int .u32 1, .int .u32 head, .int .u32 next, .int .u32 steps, .int .u32 (((moved : Int) + (left : Int)) % 4294967296), .bool false, .int .u32 0, .int .u32 0, .int .u32 0, .int .u32 0, .bool false]).heap[w.heap.size + 1 + 1]? = some (.cells #[.int .u32 1, .int .u32 head, .int .u32 next, .int .u32 steps, .int .u32 (((moved : Int) + (left : Int)) % 4294967296), .bool false, .int .u32 0, .int .u32 0, .int .u32 0, .int .u32 0, .bool false] 24 (0, 0)) := setRow_heap _ _ _ _ _ _ K93.out
  have kb : (((wY).drew).setRow (w.heap.size + 1 + 1) #[.int .u32 1, .int .u32 head, .int .u32 next, .int .u32 steps, .int .u32 (((moved : Int) + (left : Int)) % 4294967296), .bool false, .int .u32 0, .int .u32 0, .int .u32 0, .int .u32 0, .bool false]).heap[w.heap.size + 1 + 1 + 1]? = some (.cells #[.slice none 0 0, .slice none 0 0, .int .i64 0] 30 (0, 0)) := (heap_row_other (by omega)).trans K94.out
  generalize ((wY).drew).setRow (w.heap.size + 1 + 1) #[.int .u32 1, .int .u32 head, .int .u32 next, .int .u32 steps, .int .u32 (((moved : Int) + (left : Int)) % 4294967296), .bool false, .int .u32 0, .int .u32 0, .int .u32 0, .int .u32 0, .bool false] = wq at ka kb hq1 ⊢
  refine wpAnyH_ready (rs := [3]) (by kernel_rfl) (by simp) ?_
  refine AllReadyH.cons (o := _) rfl (fun K hK => ?_) (AllReadyH.nil)
  simp only [List.getElem_toArray, List.getElem_cons_zero, List.getElem_cons_succ]
  rw [if_pos (by rfl)]
  refine wp_store_row 30 _ _ rfl (w.heap.size + 1 + 1 + 1) #[.slice (some ⟨b3, 0, none⟩) (4096 * n) c3, .slice (some ⟨b4, 0, none⟩) n c4, .int .i64 q3] rfl rfl 30 #[.slice none 0 0, .slice none 0 0, .int .i64 0] kb (by kernel_rfl) rfl HO105.out ?_
  refine hK.out _ _ (hq1.setRow (.inl (by omega)) _) (fun hq2 => ?_)
  clear hK K
  try simp only [Act.put]
  have kc : (wq.setRow (w.heap.size + 1 + 1 + 1) #[.slice (some ⟨b3, 0, none⟩) (4096 * n) c3, .slice (some ⟨b4, 0, none⟩) n c4, .int .i64 q3]).heap[w.heap.size + 1 + 1]? = some (.cells #[.int .u32 1, .int .u32 head, .int .u32 next, .int .u32 steps, .int .u32 (((moved : Int) + (left : Int)) % 4294967296), .bool false, .int .u32 0, .int .u32 0, .int .u32 0, .int .u32 0, .bool false] 24 (0, 0)) := (heap_row_other (by omega)).trans ka
  have kd : (wq.setRow (w.heap.size + 1 + 1 + 1) #[.slice (some ⟨b3, 0, none⟩) (4096 * n) c3, .slice (some ⟨b4, 0, none⟩) n c4, .int .i64 q3]).heap[w.heap.size + 1 + 1 + 1]? = some (.cells #[.slice (some ⟨b3, 0, none⟩) (4096 * n) c3, .slice (some ⟨b4, 0, none⟩) n c4, .int .i64 q3] 30 (0, 0)) := setRow_heap _ _ _ _ _ _ kb
  generalize wq.setRow (w.heap.size + 1 + 1 + 1) #[.slice (some ⟨b3, 0, none⟩) (4096 * n) c3, .slice (some ⟨b4, 0, none⟩) n c4, .int .i64 q3] = wz at kc kd hq2 ⊢
  clear ka kb hq1
  refine wpAnyH_done (by kernel_rfl) ?_ _
  have HBE := Lib.hid (HR103.out.trans (hq2.below (B := w.heap.size) (fun k hk e => by omega) HR103.out.size))
  go_wp2_with fail
  exact bodyPost_ret (v := .tuple #[.agg #[.int .u32 1, .int .u32 head, .int .u32 next, .int .u32 steps, .int .u32 (((moved : Int) + (left : Int)) % 4294967296), .bool false, .int .u32 0, .int .u32 0, .int .u32 0, .int .u32 0, .bool false], .agg #[.slice (some ⟨b3, 0, none⟩) (4096 * n) c3, .slice (some ⟨b4, 0, none⟩) n c4, .int .i64 q3]]) (results_two_cells Tryd.results12 _ _ (w.heap.size + 1 + 1) (w.heap.size + 1 + 1 + 1) 24 30 #[.int .u32 1, .int .u32 head, .int .u32 next, .int .u32 steps, .int .u32 (((moved : Int) + (left : Int)) % 4294967296), .bool false, .int .u32 0, .int .u32 0, .int .u32 0, .int .u32 0, .bool false] #[.slice (some ⟨b3, 0, none⟩) (4096 * n) c3, .slice (some ⟨b4, 0, none⟩) n c4, .int .i64 q3] (0, 0) (0, 0) _ _ rfl rfl kc kd Tryd.underlying24 rfl (by kernel_rfl) Tryd.underlying30 rfl (by kernel_rfl)) rfl ⟨b3, c3, b4, c4, rfl, R89.out.kx hq2 (by omega), R90.out.kx hq2 (by omega), by omega, by omega, HBE.out, HC3.out⟩

set_option maxRecDepth 100000 in
set_option maxHeartbeats 8000000 in
theorem r12_tk_mv_done (head at_ steps moved from_ to_ left next : Nat) {f3 : Nat → UInt8} {d3 : Nat → Bool} {q3 : Int} {b1 c1 b2 n c2 : Nat} {q : Int} (w : World) (hl : left ≤ 64) (hll : left < 4294967296) (hm : moved < 4294967296) (hf : 2147483648 ≤ from_) (hf2 : from_ < 4294967296) (ht : 2147483648 ≤ to_) (ht2 : to_ < 4294967296) (a1 : Nat) (hn : next = 0) (HI : Hid (∀ W, Calls Tryd.prog 54 #[.agg #[.slice (some ⟨b1, 0, none⟩) (4096 * n) c1, .slice (some ⟨b2, 0, none⟩) n c2, .int .i64 q], .int .u32 from_, .int .u32 left] W fun e w' => e = .returned (.bool true) ∧ Below W.heap.size W w')) (HJ : Hid (∀ W, Calls Tryd.prog 54 #[.agg #[.slice (some ⟨b1, 0, none⟩) (4096 * n) c1, .slice (some ⟨b2, 0, none⟩) n c2, .int .i64 q], .int .u32 to_, .int .u32 left] W fun e w' => e = .returned (.bool true) ∧ Below W.heap.size W w'))
    (HRD : Hid (∀ W, Calls Tryd.prog 57 #[.agg #[.slice (some ⟨b1, 0, none⟩) (4096 * n) c1, .slice (some ⟨b2, 0, none⟩) n c2, .int .i64 q], .int .u32 ((from_ : Int) - 2147483648), .int .i64 left] W fun e w' => e = .returned (.tuple #[.slice (some ⟨b1, a1, none⟩) left (c1 - a1), .int .i64 0]) ∧ Below W.heap.size W w'))
    (HWR : Hid (∀ W, Below w.heap.size w W → Calls Tryd.prog 58 #[.agg #[.slice (some ⟨b1, 0, none⟩) (4096 * n) c1, .slice (some ⟨b2, 0, none⟩) n c2, .int .i64 q], .int .u32 ((to_ : Int) - 2147483648), .slice (some ⟨b1, a1, none⟩) left (c1 - a1)] W fun e w' => ∃ b3 c3 b4 c4, e = .returned (.tuple #[.agg #[.slice (some ⟨b3, 0, none⟩) (4096 * n) c3, .slice (some ⟨b4, 0, none⟩) n c4, .int .i64 q3], .int .i64 0]) ∧ Row w' b3 5 (4096 * n) (cellU f3) ∧ Row w' b4 4 n (cellT d3) ∧ W.heap.size ≤ b3 ∧ W.heap.size ≤ b4 ∧ Below W.heap.size W w' ∧ 4096 * n ≤ c3))
     (HC : Hid (∀ W, Calls Tryd.prog 41 #[.agg #[.int .u32 1, .int .u32 head, .int .u32 at_, .int .u32 steps, .int .u32 moved, .bool true, .int .u32 from_, .int .u32 to_, .int .u32 left, .int .u32 next, .bool false]] W fun e w' => e = .returned (.int .i64 0) ∧ Below W.heap.size W w')) : Calls Tryd.prog 12 #[.agg #[.int .u32 1, .int .u32 head, .int .u32 at_, .int .u32 steps, .int .u32 moved, .bool true, .int .u32 from_, .int .u32 to_, .int .u32 left, .int .u32 next, .bool false], .agg #[.slice (some ⟨b1, 0, none⟩) (4096 * n) c1, .slice (some ⟨b2, 0, none⟩) n c2, .int .i64 q]] w fun e w' => ∃ b3 c3 b4 c4, e = .returned (.tuple #[.agg #[.int .u32 2, .int .u32 head, .int .u32 at_, .int .u32 steps, .int .u32 (((moved : Int) + (left : Int)) % 4294967296), .bool false, .int .u32 0, .int .u32 0, .int .u32 0, .int .u32 0, .bool true], .agg #[.slice (some ⟨b3, 0, none⟩) (4096 * n) c3, .slice (some ⟨b4, 0, none⟩) n c4, .int .i64 q3]]) ∧ Row w' b3 5 (4096 * n) (cellU f3) ∧ Row w' b4 4 n (cellT d3) ∧ w.heap.size ≤ b3 ∧ w.heap.size ≤ b4 ∧ Below w.heap.size w w' ∧ 4096 * n ≤ c3 := by
  have hli : (left : Int) ≤ 64 := by omega
  have hl0 : (0 : Int) ≤ (left : Int) := by omega
  have hl1 : (left : Int) < 4294967296 := by omega
  have hm0 : (0 : Int) ≤ (moved : Int) := by omega
  have hm1 : (moved : Int) < 4294967296 := by omega
  have hfi : (2147483648 : Int) ≤ (from_ : Int) := by omega
  have hfj : (from_ : Int) < 4294967296 := by omega
  have hti : (2147483648 : Int) ≤ (to_ : Int) := by omega
  have htj : (to_ : Int) < 4294967296 := by omega
  have e3 : ((next : Int) == 0) = true := by simp; omega
  clear hl hll hm hf hf2 ht ht2 hn
  obtain ⟨k0, k1, k2, k3, hb0⟩ := four_new w (.cells #[.int .u32 1, .int .u32 head, .int .u32 at_, .int .u32 steps, .int .u32 moved, .bool true, .int .u32 from_, .int .u32 to_, .int .u32 left, .int .u32 next, .bool false] 24) (.cells #[.slice (some ⟨b1, 0, none⟩) (4096 * n) c1, .slice (some ⟨b2, 0, none⟩) n c2, .int .i64 q] 30) (.cells #[.int .u32 0, .int .u32 0, .int .u32 0, .int .u32 0, .int .u32 0, .bool false, .int .u32 0, .int .u32 0, .int .u32 0, .int .u32 0, .bool false] 24) (.cells #[.slice none 0 0, .slice none 0 0, .int .i64 0] 30)
  have K00 := Lib.hid k0
  have K01 := Lib.hid k1
  have K02 := Lib.hid k2
  have K03 := Lib.hid k3
  have HB0 := Lib.hid hb0
  clear k0 k1 k2 k3 hb0
  go_enter Tryd.func12, Tryd.ntmps12
  go_wp2_with fail
  refine (HC.out _).mono ?_
  rintro e w1 ⟨rfl, hb⟩
  have K2 := Lib.hid (keepB K00.out hb)
  clear K00
  have K3 := Lib.hid (keepB K01.out hb)
  clear K01
  have K4 := Lib.hid (keepB K02.out hb)
  clear K02
  have K5 := Lib.hid (keepB K03.out hb)
  clear K03
  have HB6 := Lib.hid (HB0.out.trans (hb.mono HB0.out.size))
  clear HB0
  clear hb
  have c7 := (cell_of_row _ _ 0 _ _ _ K2.out).trans (rfl : _ = some (.int .u32 1 : Value))
  have c8 := (cell_of_row _ _ 5 _ _ _ K2.out).trans (rfl : _ = some (.bool true : Value))
  have c9 := (cell_of_row _ _ 6 _ _ _ K2.out).trans (rfl : _ = some (.int .u32 from_ : Value))
  have c10 := (cell_of_row _ _ 7 _ _ _ K2.out).trans (rfl : _ = some (.int .u32 to_ : Value))
  have c11 := (cell_of_row _ _ 8 _ _ _ K2.out).trans (rfl : _ = some (.int .u32 left : Value))
  have f12 := fun j => frozen_of_row _ _ j _ _ K2.out
  go_wp2_with (first | go_skip | (refine load_rowH ?hw 30 _ rfl (w.heap.size + 1) rfl 30 #[.slice (some ⟨b1, 0, none⟩) (4096 * n) c1, .slice (some ⟨b2, 0, none⟩) n c2, .int .i64 q] (0, 0) _ K3.out Tryd.underlying30 rfl (by kernel_rfl) ?_; case hw => kernel_rfl))
  clear c7 c8 c9 c10 c11 f12
  refine (HI.out _).mono ?_
  rintro e wI ⟨rfl, hb⟩
  have K13 := Lib.hid (keepB K2.out hb)
  clear K2
  have K14 := Lib.hid (keepB K3.out hb)
  clear K3
  have K15 := Lib.hid (keepB K4.out hb)
  clear K4
  have K16 := Lib.hid (keepB K5.out hb)
  clear K5
  have HB17 := Lib.hid (HB6.out.trans (hb.mono HB6.out.size))
  clear HB6
  clear hb
  have c18 := (cell_of_row _ _ 0 _ _ _ K13.out).trans (rfl : _ = some (.int .u32 1 : Value))
  have c19 := (cell_of_row _ _ 5 _ _ _ K13.out).trans (rfl : _ = some (.bool true : Value))
  have c20 := (cell_of_row _ _ 6 _ _ _ K13.out).trans (rfl : _ = some (.int .u32 from_ : Value))
  have c21 := (cell_of_row _ _ 7 _ _ _ K13.out).trans (rfl : _ = some (.int .u32 to_ : Value))
  have c22 := (cell_of_row _ _ 8 _ _ _ K13.out).trans (rfl : _ = some (.int .u32 left : Value))
  have f23 := fun j => frozen_of_row _ _ j _ _ K13.out
  go_wp2_with (first | go_skip | (refine load_rowH ?hw 30 _ rfl (w.heap.size + 1) rfl 30 #[.slice (some ⟨b1, 0, none⟩) (4096 * n) c1, .slice (some ⟨b2, 0, none⟩) n c2, .int .i64 q] (0, 0) _ K14.out Tryd.underlying30 rfl (by kernel_rfl) ?_; case hw => kernel_rfl))
  clear c18 c19 c20 c21 c22 f23
  refine (HJ.out _).mono ?_
  rintro e wJ ⟨rfl, hb⟩
  have K24 := Lib.hid (keepB K13.out hb)
  clear K13
  have K25 := Lib.hid (keepB K14.out hb)
  clear K14
  have K26 := Lib.hid (keepB K15.out hb)
  clear K15
  have K27 := Lib.hid (keepB K16.out hb)
  clear K16
  have HB28 := Lib.hid (HB17.out.trans (hb.mono HB17.out.size))
  clear HB17
  clear hb
  have c29 := (cell_of_row _ _ 0 _ _ _ K24.out).trans (rfl : _ = some (.int .u32 1 : Value))
  have c30 := (cell_of_row _ _ 5 _ _ _ K24.out).trans (rfl : _ = some (.bool true : Value))
  have c31 := (cell_of_row _ _ 6 _ _ _ K24.out).trans (rfl : _ = some (.int .u32 from_ : Value))
  have c32 := (cell_of_row _ _ 7 _ _ _ K24.out).trans (rfl : _ = some (.int .u32 to_ : Value))
  have c33 := (cell_of_row _ _ 8 _ _ _ K24.out).trans (rfl : _ = some (.int .u32 left : Value))
  have f34 := fun j => frozen_of_row _ _ j _ _ K24.out
  go_wp2_with (first | go_skip | (refine load_rowH ?hw 30 _ rfl (w.heap.size + 1) rfl 30 #[.slice (some ⟨b1, 0, none⟩) (4096 * n) c1, .slice (some ⟨b2, 0, none⟩) n c2, .int .i64 q] (0, 0) _ K25.out Tryd.underlying30 rfl (by kernel_rfl) ?_; case hw => kernel_rfl))
  clear c29 c30 c31 c32 c33 f34
  refine (HRD.out _).mono ?_
  rintro e wR ⟨rfl, hb⟩
  have K35 := Lib.hid (keepB K24.out hb)
  clear K24
  have K36 := Lib.hid (keepB K25.out hb)
  clear K25
  have K37 := Lib.hid (keepB K26.out hb)
  clear K26
  have K38 := Lib.hid (keepB K27.out hb)
  clear K27
  have HB39 := Lib.hid (HB28.out.trans (hb.mono HB28.out.size))
  clear HB28
  clear hb
  have c40 := (cell_of_row _ _ 0 _ _ _ K35.out).trans (rfl : _ = some (.int .u32 1 : Value))
  have c41 := (cell_of_row _ _ 5 _ _ _ K35.out).trans (rfl : _ = some (.bool true : Value))
  have c42 := (cell_of_row _ _ 6 _ _ _ K35.out).trans (rfl : _ = some (.int .u32 from_ : Value))
  have c43 := (cell_of_row _ _ 7 _ _ _ K35.out).trans (rfl : _ = some (.int .u32 to_ : Value))
  have c44 := (cell_of_row _ _ 8 _ _ _ K35.out).trans (rfl : _ = some (.int .u32 left : Value))
  have f45 := fun j => frozen_of_row _ _ j _ _ K35.out
  go_wp2_with (first | go_skip | (refine load_rowH ?hw 30 _ rfl (w.heap.size + 1) rfl 30 #[.slice (some ⟨b1, 0, none⟩) (4096 * n) c1, .slice (some ⟨b2, 0, none⟩) n c2, .int .i64 q] (0, 0) _ K36.out Tryd.underlying30 rfl (by kernel_rfl) ?_; case hw => kernel_rfl))
  clear c40 c41 c42 c43 c44 f45
  have hltR : w.heap.size + 1 + 1 + 1 < wR.heap.size := lt_heap K38.out
  refine (HWR.out _ HB39.out).mono ?_
  rintro e wW ⟨b3, c3, b4, c4, rfl, hr3, hr4, hb3, hb4, hb, hc3⟩
  have hlb3 : w.heap.size + 1 + 1 + 1 < b3 := by omega
  have hlb4 : w.heap.size + 1 + 1 + 1 < b4 := by omega
  have K46 := Lib.hid (keepB K35.out hb)
  clear K35
  have K47 := Lib.hid (keepB K36.out hb)
  clear K36
  have K48 := Lib.hid (keepB K37.out hb)
  clear K37
  have K49 := Lib.hid (keepB K38.out hb)
  clear K38
  have HB50 := Lib.hid (HB39.out.trans (hb.mono HB39.out.size))
  clear HB39
  have R3 := Lib.hid hr3
  have R4 := Lib.hid hr4
  have HC3 := Lib.hid hc3
  clear hb hr3 hr4 hb3 hb4 hc3 hltR
  have HO51 := Lib.hid (show (#[.slice (some ⟨b3, 0, none⟩) (4096 * n) c3, .slice (some ⟨b4, 0, none⟩) n c4, .int .i64 q3] : Array Value).all (·.oneCell') = true by simp [Value.oneCell'])
  go_wp2_with (refine wpList_store_to rfl 30 _ _ rfl (w.heap.size + 1) #[.slice (some ⟨b3, 0, none⟩) (4096 * n) c3, .slice (some ⟨b4, 0, none⟩) n c4, .int .i64 q3] rfl rfl 30 #[.slice (some ⟨b1, 0, none⟩) (4096 * n) c1, .slice (some ⟨b2, 0, none⟩) n c2, .int .i64 q] K47.out (by kernel_rfl) rfl HO51.out ?_)
  intro w52 hx53 hkk
  have R54 := Lib.hid (R3.out.kx hx53.out (by omega))
  clear R3
  have R55 := Lib.hid (R4.out.kx hx53.out (by omega))
  clear R4
  have K56 := Lib.hid (hx53.out.heap K46.out (by omega))
  clear K46
  have K57 := Lib.hid (hx53.out.heap K48.out (by omega))
  clear K48
  have K58 := Lib.hid (hx53.out.heap K49.out (by omega))
  clear K49
  have K59 := Lib.hid hkk
  clear hkk K47
  have HB60 := Lib.hid (HB50.out.trans (hx53.out.below (B := w.heap.size) (fun k hk e => by omega) HB50.out.size))
  clear HB50 hx53
  have c61 := (cell_of_row _ _ 4 _ _ _ K56.out).trans (rfl : _ = some (.int .u32 moved : Value))
  have f62 := fun j => frozen_of_row _ _ j _ _ K56.out
  have hkk : ((w52).setCell ⟨w.heap.size, 4, none⟩ (.int .u32 (((moved : Int) + (left : Int)) % 4294967296))).heap[w.heap.size]? = some (.cells #[.int .u32 1, .int .u32 head, .int .u32 at_, .int .u32 steps, .int .u32 (((moved : Int) + (left : Int)) % 4294967296), .bool true, .int .u32 from_, .int .u32 to_, .int .u32 left, .int .u32 next, .bool false] 24 (0, 0)) := (set_cells (K56.out)).trans rfl
  have hx64 := Lib.hid (show KX (fun k => k = w.heap.size) w52 ((w52).setCell ⟨w.heap.size, 4, none⟩ (.int .u32 (((moved : Int) + (left : Int)) % 4294967296))) from (KX.refl (fun k => k = w.heap.size) w52).setCell (p := ⟨w.heap.size, 4, none⟩) (.inl rfl) _)
  go_upto_region 22 with fail
  generalize ((w52).setCell ⟨w.heap.size, 4, none⟩ (.int .u32 (((moved : Int) + (left : Int)) % 4294967296))) = w63 at hkk hx64 ⊢
  have R65 := Lib.hid (R54.out.kx hx64.out (by omega))
  clear R54
  have R66 := Lib.hid (R55.out.kx hx64.out (by omega))
  clear R55
  clear c61 f62
  have K67 := Lib.hid (hx64.out.heap K59.out (by omega))
  clear K59
  have K68 := Lib.hid (hx64.out.heap K57.out (by omega))
  clear K57
  have K69 := Lib.hid (hx64.out.heap K58.out (by omega))
  clear K58
  have K70 := Lib.hid hkk
  clear hkk K56
  have HB71 := Lib.hid (HB60.out.trans (hx64.out.below (B := w.heap.size) (fun k hk e => by omega) HB60.out.size))
  clear HB60 hx64
  have c72 := (cell_of_row _ _ 1 _ _ _ K70.out).trans (rfl : _ = some (.int .u32 head : Value))
  have c73 := (cell_of_row _ _ 2 _ _ _ K70.out).trans (rfl : _ = some (.int .u32 at_ : Value))
  have c74 := (cell_of_row _ _ 3 _ _ _ K70.out).trans (rfl : _ = some (.int .u32 steps : Value))
  have c75 := (cell_of_row _ _ 4 _ _ _ K70.out).trans (rfl : _ = some (.int .u32 (((moved : Int) + (left : Int)) % 4294967296) : Value))
  have c76 := (cell_of_row _ _ 8 _ _ _ K70.out).trans (rfl : _ = some (.int .u32 left : Value))
  have c77 := (cell_of_row _ _ 9 _ _ _ K70.out).trans (rfl : _ = some (.int .u32 next : Value))
  have f78 := fun j => frozen_of_row _ _ j _ _ K70.out
  have HO81 := Lib.hid (show (#[.int .u32 1, .int .u32 head, .int .u32 next, .int .u32 steps, .int .u32 (((moved : Int) + (left : Int)) % 4294967296), .bool false, .int .u32 0, .int .u32 0, .int .u32 0, .int .u32 0, .bool false] : Array Value).all (·.oneCell') = true by simp [Value.oneCell'])
  have hal := (Below.refl w63.heap.size w63).alloc (Nat.le_refl _) (.cells #[.int .u32 0, .int .u32 0, .int .u32 0, .int .u32 0, .int .u32 0, .bool false, .int .u32 0, .int .u32 0, .int .u32 0, .int .u32 0, .bool false] 24)
  have KT := Lib.hid (heap_alloc_new w63 (.cells #[.int .u32 0, .int .u32 0, .int .u32 0, .int .u32 0, .int .u32 0, .bool false, .int .u32 0, .int .u32 0, .int .u32 0, .int .u32 0, .bool false] 24))
  have hltT : w.heap.size + 1 + 1 + 1 < w63.heap.size := lt_heap K69.out
  have hT3 : b3 < w63.heap.size := R65.out.lt
  have hT4 : b4 < w63.heap.size := R66.out.lt
  have K82 := Lib.hid (keepB K70.out hal)
  have K83 := Lib.hid (keepB K67.out hal)
  have K84 := Lib.hid (keepB K68.out hal)
  have K85 := Lib.hid (keepB K69.out hal)
  have R86 := Lib.hid (R65.out.below hal)
  have R87 := Lib.hid (R66.out.below hal)
  have HB88 := Lib.hid (HB71.out.trans (hal.mono HB71.out.size))
  clear hal
  go_wp2_with (refine wpList_store_to rfl 24 _ _ rfl w63.heap.size #[.int .u32 1, .int .u32 head, .int .u32 next, .int .u32 steps, .int .u32 (((moved : Int) + (left : Int)) % 4294967296), .bool false, .int .u32 0, .int .u32 0, .int .u32 0, .int .u32 0, .bool false] rfl rfl 24 #[.int .u32 0, .int .u32 0, .int .u32 0, .int .u32 0, .int .u32 0, .bool false, .int .u32 0, .int .u32 0, .int .u32 0, .int .u32 0, .bool false] KT.out (by kernel_rfl) rfl HO81.out ?_)
  intro wY hxY hkY
  clear c72 c73 c74 c75 c76 c77 f78
  clear K70 K67 K68 K69 R65 R66 HB71
  have hxY2 := hxY
  have R89 := Lib.hid (R86.out.kx hxY.out (by omega))
  clear R86
  have R90 := Lib.hid (R87.out.kx hxY.out (by omega))
  clear R87
  have K91 := Lib.hid (hxY.out.heap K82.out (by omega))
  clear K82
  have K92 := Lib.hid (hxY.out.heap K83.out (by omega))
  clear K83
  have K93 := Lib.hid (hxY.out.heap K84.out (by omega))
  clear K84
  have K94 := Lib.hid (hxY.out.heap K85.out (by omega))
  clear K85
  have K95 := Lib.hid hkY
  clear hkY KT
  have HB96 := Lib.hid (HB88.out.trans (hxY.out.below (B := w.heap.size) (fun k hk e => by omega) HB88.out.size))
  clear HB88 hxY
  clear hxY2
  generalize w63.heap.size = bT at hltT hT3 hT4 K95 ⊢
  have c97 := (cell_of_row _ _ 1 _ _ _ K91.out).trans (rfl : _ = some (.int .u32 head : Value))
  have c98 := (cell_of_row _ _ 2 _ _ _ K91.out).trans (rfl : _ = some (.int .u32 at_ : Value))
  have c99 := (cell_of_row _ _ 3 _ _ _ K91.out).trans (rfl : _ = some (.int .u32 steps : Value))
  have c100 := (cell_of_row _ _ 4 _ _ _ K91.out).trans (rfl : _ = some (.int .u32 (((moved : Int) + (left : Int)) % 4294967296) : Value))
  have c101 := (cell_of_row _ _ 9 _ _ _ K91.out).trans (rfl : _ = some (.int .u32 next : Value))
  have f102 := fun j => frozen_of_row _ _ j _ _ K91.out
  have HO103 := Lib.hid (show (#[.int .u32 2, .int .u32 head, .int .u32 at_, .int .u32 steps, .int .u32 (((moved : Int) + (left : Int)) % 4294967296), .bool false, .int .u32 0, .int .u32 0, .int .u32 0, .int .u32 0, .bool true] : Array Value).all (·.oneCell') = true by simp [Value.oneCell'])
  go_wp2_with (refine wpList_store_to rfl 24 _ _ rfl (bT) #[.int .u32 2, .int .u32 head, .int .u32 at_, .int .u32 steps, .int .u32 (((moved : Int) + (left : Int)) % 4294967296), .bool false, .int .u32 0, .int .u32 0, .int .u32 0, .int .u32 0, .bool true] rfl rfl 24 #[.int .u32 1, .int .u32 head, .int .u32 next, .int .u32 steps, .int .u32 (((moved : Int) + (left : Int)) % 4294967296), .bool false, .int .u32 0, .int .u32 0, .int .u32 0, .int .u32 0, .bool false] K95.out (by kernel_rfl) rfl HO103.out ?_)
  intro w104 hx105 hkk
  have R106 := Lib.hid (R89.out.kx hx105.out (by omega))
  clear R89
  have R107 := Lib.hid (R90.out.kx hx105.out (by omega))
  clear R90
  clear c97 c98 c99 c100 c101 f102
  have K108 := Lib.hid (hx105.out.heap K91.out (by omega))
  clear K91
  have K109 := Lib.hid (hx105.out.heap K92.out (by omega))
  clear K92
  have K110 := Lib.hid (hx105.out.heap K93.out (by omega))
  clear K93
  have K111 := Lib.hid (hx105.out.heap K94.out (by omega))
  clear K94
  have K112 := Lib.hid hkk
  clear hkk K95
  have HB113 := Lib.hid (HB96.out.trans (hx105.out.below (B := w.heap.size) (fun k hk e => by omega) HB96.out.size))
  clear HB96 hx105
  go_upto_region 28 with fail
  have HR114 := HB113
  refine wp_region_held_drew (S := fun W => KX (fun k => k = w.heap.size + 1 + 1 ∨ k = w.heap.size + 1 + 1 + 1) (w104) W) (by kernel_rfl) ((KX.refl (fun k => k = w.heap.size + 1 + 1 ∨ k = w.heap.size + 1 + 1 + 1) _).drew) (fun hHeld => ?_)
  refine wpAnyH_take (i := 0) rfl (by kernel_rfl) (by kernel_rfl) (by kernel_rfl) (fun _ _ _ h => h) (yieldsIf_load_mid (by rfl) 24 _ rfl (bT) 0 rfl #[.int .u32 2, .int .u32 head, .int .u32 at_, .int .u32 steps, .int .u32 (((moved : Int) + (left : Int)) % 4294967296), .bool false, .int .u32 0, .int .u32 0, .int .u32 0, .int .u32 0, .bool true].toList _ (fun W hSw => range_of_all (hSw.heap K112.out (by omega))) Tryd.underlying24 rfl ?hi0) (by assumption) ?rest0
  case hi0 => kernel_rfl
  simp only [Act.put, List.getElem_toArray, List.getElem_cons_zero, List.setIfInBounds_toArray, List.set_cons_zero, List.set_cons_succ]
  refine wpAnyH_take (i := 1) rfl (by kernel_rfl) (by kernel_rfl) (by kernel_rfl) (fun _ _ _ h => h) (yieldsIf_load_mid (by rfl) 30 _ rfl (w.heap.size + 1) 0 rfl #[.slice (some ⟨b3, 0, none⟩) (4096 * n) c3, .slice (some ⟨b4, 0, none⟩) n c4, .int .i64 q3].toList _ (fun W hSw => range_of_all (hSw.heap K109.out (by omega))) Tryd.underlying30 rfl ?hi1) (by assumption) ?rest1
  case hi1 => kernel_rfl
  simp only [Act.put, List.getElem_toArray, List.getElem_cons_zero, List.getElem_cons_succ, List.setIfInBounds_toArray, List.set_cons_zero, List.set_cons_succ]
  have HO115 := Lib.hid (show (#[.int .u32 2, .int .u32 head, .int .u32 at_, .int .u32 steps, .int .u32 (((moved : Int) + (left : Int)) % 4294967296), .bool false, .int .u32 0, .int .u32 0, .int .u32 0, .int .u32 0, .bool true] : Array Value).all (·.oneCell') = true by simp [Value.oneCell'])
  have HO116 := Lib.hid (show (#[.slice (some ⟨b3, 0, none⟩) (4096 * n) c3, .slice (some ⟨b4, 0, none⟩) n c4, .int .i64 q3] : Array Value).all (·.oneCell') = true by simp [Value.oneCell'])
  refine wpAnyH_ready (rs := [2]) (by kernel_rfl) (by simp) ?_
  refine AllReadyH.cons (o := _) rfl (fun K hK => ?_) (AllReadyH.nil)
  simp only [List.getElem_toArray, List.getElem_cons_zero, List.getElem_cons_succ]
  rw [if_pos (by rfl)]
  refine wp_store_row 24 _ _ rfl (w.heap.size + 1 + 1) #[.int .u32 2, .int .u32 head, .int .u32 at_, .int .u32 steps, .int .u32 (((moved : Int) + (left : Int)) % 4294967296), .bool false, .int .u32 0, .int .u32 0, .int .u32 0, .int .u32 0, .bool true] rfl rfl 24 #[.int .u32 0, .int .u32 0, .int .u32 0, .int .u32 0, .int .u32 0, .bool false, .int .u32 0, .int .u32 0, .int .u32 0, .int .u32 0, .bool false] K110.out (by kernel_rfl) rfl HO115.out ?_
  refine hK.out _ _ (hHeld.setRow (.inl (by omega)) _) (fun hq1 => ?_)
  clear hK K
  try simp only [Act.put]
  have ka : (((w104).drew).setRow (w.heap.size + 1 + 1) #[.int .u32 2, .int .u32 head, .int .u32 at_, .int .u32 steps, .int .u32 (((moved : Int) + (left : Int)) % 4294967296), .bool false, .int .u32 0, .int .u32 0, .int .u32 0, .int .u32 0, .bool true]).heap[w.heap.size + 1 + 1]? = some (.cells #[.int .u32 2, .int .u32 head, .int .u32 at_, .int .u32 steps, .int .u32 (((moved : Int) + (left : Int)) % 4294967296), .bool false, .int .u32 0, .int .u32 0, .int .u32 0, .int .u32 0, .bool true] 24 (0, 0)) := setRow_heap _ _ _ _ _ _ K110.out
  have kb : (((w104).drew).setRow (w.heap.size + 1 + 1) #[.int .u32 2, .int .u32 head, .int .u32 at_, .int .u32 steps, .int .u32 (((moved : Int) + (left : Int)) % 4294967296), .bool false, .int .u32 0, .int .u32 0, .int .u32 0, .int .u32 0, .bool true]).heap[w.heap.size + 1 + 1 + 1]? = some (.cells #[.slice none 0 0, .slice none 0 0, .int .i64 0] 30 (0, 0)) := (heap_row_other (by omega)).trans K111.out
  generalize ((w104).drew).setRow (w.heap.size + 1 + 1) #[.int .u32 2, .int .u32 head, .int .u32 at_, .int .u32 steps, .int .u32 (((moved : Int) + (left : Int)) % 4294967296), .bool false, .int .u32 0, .int .u32 0, .int .u32 0, .int .u32 0, .bool true] = wq at ka kb hq1 ⊢
  refine wpAnyH_ready (rs := [3]) (by kernel_rfl) (by simp) ?_
  refine AllReadyH.cons (o := _) rfl (fun K hK => ?_) (AllReadyH.nil)
  simp only [List.getElem_toArray, List.getElem_cons_zero, List.getElem_cons_succ]
  rw [if_pos (by rfl)]
  refine wp_store_row 30 _ _ rfl (w.heap.size + 1 + 1 + 1) #[.slice (some ⟨b3, 0, none⟩) (4096 * n) c3, .slice (some ⟨b4, 0, none⟩) n c4, .int .i64 q3] rfl rfl 30 #[.slice none 0 0, .slice none 0 0, .int .i64 0] kb (by kernel_rfl) rfl HO116.out ?_
  refine hK.out _ _ (hq1.setRow (.inl (by omega)) _) (fun hq2 => ?_)
  clear hK K
  try simp only [Act.put]
  have kc : (wq.setRow (w.heap.size + 1 + 1 + 1) #[.slice (some ⟨b3, 0, none⟩) (4096 * n) c3, .slice (some ⟨b4, 0, none⟩) n c4, .int .i64 q3]).heap[w.heap.size + 1 + 1]? = some (.cells #[.int .u32 2, .int .u32 head, .int .u32 at_, .int .u32 steps, .int .u32 (((moved : Int) + (left : Int)) % 4294967296), .bool false, .int .u32 0, .int .u32 0, .int .u32 0, .int .u32 0, .bool true] 24 (0, 0)) := (heap_row_other (by omega)).trans ka
  have kd : (wq.setRow (w.heap.size + 1 + 1 + 1) #[.slice (some ⟨b3, 0, none⟩) (4096 * n) c3, .slice (some ⟨b4, 0, none⟩) n c4, .int .i64 q3]).heap[w.heap.size + 1 + 1 + 1]? = some (.cells #[.slice (some ⟨b3, 0, none⟩) (4096 * n) c3, .slice (some ⟨b4, 0, none⟩) n c4, .int .i64 q3] 30 (0, 0)) := setRow_heap _ _ _ _ _ _ kb
  generalize wq.setRow (w.heap.size + 1 + 1 + 1) #[.slice (some ⟨b3, 0, none⟩) (4096 * n) c3, .slice (some ⟨b4, 0, none⟩) n c4, .int .i64 q3] = wz at kc kd hq2 ⊢
  clear ka kb hq1
  refine wpAnyH_done (by kernel_rfl) ?_ _
  have HBE := Lib.hid (HR114.out.trans (hq2.below (B := w.heap.size) (fun k hk e => by omega) HR114.out.size))
  go_wp2_with fail
  exact bodyPost_ret (v := .tuple #[.agg #[.int .u32 2, .int .u32 head, .int .u32 at_, .int .u32 steps, .int .u32 (((moved : Int) + (left : Int)) % 4294967296), .bool false, .int .u32 0, .int .u32 0, .int .u32 0, .int .u32 0, .bool true], .agg #[.slice (some ⟨b3, 0, none⟩) (4096 * n) c3, .slice (some ⟨b4, 0, none⟩) n c4, .int .i64 q3]]) (results_two_cells Tryd.results12 _ _ (w.heap.size + 1 + 1) (w.heap.size + 1 + 1 + 1) 24 30 #[.int .u32 2, .int .u32 head, .int .u32 at_, .int .u32 steps, .int .u32 (((moved : Int) + (left : Int)) % 4294967296), .bool false, .int .u32 0, .int .u32 0, .int .u32 0, .int .u32 0, .bool true] #[.slice (some ⟨b3, 0, none⟩) (4096 * n) c3, .slice (some ⟨b4, 0, none⟩) n c4, .int .i64 q3] (0, 0) (0, 0) _ _ rfl rfl kc kd Tryd.underlying24 rfl (by kernel_rfl) Tryd.underlying30 rfl (by kernel_rfl)) rfl ⟨b3, c3, b4, c4, rfl, R106.out.kx hq2 (by omega), R107.out.kx hq2 (by omega), by omega, by omega, HBE.out, HC3.out⟩
end Go.Proofs.YtcakcfeipfjmpaaDoor
