/-
nic's give, walked: a chain given back.
Condition: the table of regions of package bus reads as its text lays it.
-/
import Derived.Test.YtcmbnkmbaghkdaaDoorNicChain
import Derived.Deep.MidRow
namespace Go.Proofs.YtcmbnkmbaghkdaaDoor
open Go.RowKit
set_option linter.unusedVariables false

/-- Cells laid into a row. -/
def rowPut (d : Array Value) : Nat → List Value → Array Value
  | _, [] => d
  | o, v :: r => rowPut (d.setIfInBounds o v) (o + 1) r
theorem rowPut_size (vs : List Value) : ∀ (d : Array Value) (o : Nat), (rowPut d o vs).size = d.size := by
  induction vs with
  | nil => intro d o; rfl
  | cons v r ih => intro d o; rw [rowPut, ih]; simp
theorem rowPut_heap (b : Nat) (t : TypeId) : ∀ (vs : List Value) (o : Nat) (w : World) (d : Array Value), w.heap[b]? = some (.cells d t (0, 0)) → (w.setCells b o vs).heap[b]? = some (.cells (rowPut d o vs) t (0, 0))
  | [], _, _, _, h => h
  | v :: r, o, w, d, h => rowPut_heap b t r (o + 1) (w.setCell ⟨b, o, none⟩ v) _ (heap_setCell_same w b o d t v h)
theorem kx_setCells (b : Nat) : ∀ (vs : List Value) (o : Nat) (a w : World), KX (fun k => k = b) a w → KX (fun k => k = b) a (w.setCells b o vs)
  | [], _, _, _, h => h
  | v :: r, o, a, w, h => kx_setCells b r (o + 1) a _ (h.setCell (p := ⟨b, o, none⟩) (.inl rfl) v)
theorem rowThere {w : World} {b : Nat} {cs : Array Value} {t : TypeId} (h : w.heap[b]? = some (.cells cs t (0, 0))) (o n : Nat) (hn : o + n ≤ cs.size) : w.there b o n := fun j hj => by
  refine ⟨?_, frozen_of_row _ _ _ _ _ h⟩
  rw [cell_of_row _ _ _ _ _ _ h, Array.getElem?_eq_getElem (by omega)]; rfl
theorem wpList_store_mid_to {P : Program} {ops : Array Oper} {rest : List Oper} {op : Oper} {a : Act} {w : World} {Q : Exit → Act → World → Prop} (hgd : op.guard = none) (ty : TypeId) (x y : Operand) (ho : op.op = .store ty x y)
    (b o : Nat) (cells : Array Value) (hx : a.eval x = .pointer (some ⟨b, o, none⟩)) (hy : a.eval y = .agg cells) (t : TypeId) (d : Array Value) (hg : w.heap[b]? = some (.cells d t (0, 0))) (hn : o + cells.size ≤ d.size)
    (hi : (P.info? ty).map (·.size) = some cells.size) (h1 : cells.all (·.oneCell') = true)
    (h : ∀ w', Hid (KX (fun k => k = b) w w') → w'.heap[b]? = some (.cells (rowPut d o cells.toList) t (0, 0)) → wpList P ops Q rest (a.put op.dst undef) w') : wpList P ops Q (op :: rest) a w :=
  wpList_store_mid hgd ty x y ho b o cells hx hy (rowThere hg o _ hn) hi h1 (h _ (Lib.hid (kx_setCells b _ o w w (KX.refl _ _))) (rowPut_heap b t _ o w d hg))
set_option maxRecDepth 100000 in
set_option maxHeartbeats 4000000 in
theorem give0_no {g b : Nat} {m m2 : Mm} {F : Nat → Prop} {w : World} (c d : Array Value) (l lp : List Value) (hd n : Nat) (hri : RamIs w g m F) (hk : w.heap[b]? = some (.cells c 75 (0, 0))) (hfb : ¬ F b) (hcz : c.size = 23) (hn : n < 2147483648) (hll : l.length = 6) (hl : ∀ (j : Nat) v, l[j]? = some v → c[8 + j]? = some v)
    (hpl : lp.length = 21) (hp : ∀ (j : Nat) v, lp[j]? = some v → c[0 + j]? = some v) (hdz : d.size = 21) (hdo : d.all (·.oneCell') = true)
    (HG : Hid (∀ W F', RamIs W g m F' → MemStep F F' w W → Calls Tryd.prog 81 #[.agg l.toArray, .pointer (some ⟨g, 0, none⟩), .int .i64 hd, .int .u32 n] W fun e w' => ∃ F2, e = .returned (.tuple #[.agg #[.int .i64 0, .int .u32 0, .int .u32 0, .int .u32 0, .int .u16 0, .int .u16 0], .iface 104 (.int .i64 22)]) ∧ RamIs w' g m2 F2 ∧ MemStep F' F2 W w'))
    (HU : Hid (∀ W, Calls Tryd.prog 44 #[.agg lp.toArray] W fun e w' => e = .returned (.agg d) ∧ Below W.heap.size W w')) :
    Calls Tryd.prog 45 #[.pointer (some ⟨b, 0, none⟩), .int .i64 0, .pointer (some ⟨g, 0, none⟩), .int .i64 hd, .int .i64 n] w fun e w' => ∃ F2, e = .returned (.bool false) ∧ RamIs w' g m2 F2 ∧ (∀ k, F2 k → F k ∨ w.heap.size ≤ k) ∧ KX (fun k => F k ∨ k = b) w w' ∧ w'.heap[b]? = some (.cells (rowPut c 0 d.toList) 75 (0, 0)) := by
  have HB := Lib.hid hfb
  have HLT := Lib.hid (lt_heap hk)
  have HR0 := Lib.hid (And.intro hri (MemStep.refl F w))
  have K0 := Lib.hid hk
  have HRG := Lib.hid (range_of_row hk 8 l hl)
  have HI := Lib.hid (show (Tryd.prog.info? 68).map (·.size) = some l.length by rw [hll]; kernel_rfl)
  have HIP := Lib.hid (show (Tryd.prog.info? 73).map (·.size) = some lp.length by rw [hpl]; kernel_rfl)
  have HID := Lib.hid (show (Tryd.prog.info? 73).map (·.size) = some d.size by rw [hdz]; kernel_rfl)
  have HDO := Lib.hid (And.intro hdz hdo)
  have HCZ := Lib.hid hcz
  have HP := Lib.hid hp
  have hn0 : (0 : Int) ≤ (n : Int) := by omega
  have hnm : (n : Int) % 4294967296 = (n : Int) := by omega
  have HG1 := Lib.hid (HG.out w F hri (MemStep.refl F w))
  clear hri hk hfb hll hl hpl hp hdz hdo hcz hn HG
  go_enter Tryd.func45, Tryd.ntmps45
  go_wp2_with (first | go_skip | (refine load_midW rfl 68 _ rfl b 8 rfl l _ HRG.out Tryd.underlying68 rfl HI.out ?_))
  refine (HG1.out).mono ?_
  rintro e w1 ⟨F1, rfl, h1, h2⟩
  have K1 := Lib.hid (h2.heap K0.out HB.out)
  have HB1 := Lib.hid (h2.off HLT.out HB.out)
  have HR1 := Lib.hid (And.intro h1 (HR0.out.2.trans h2))
  clear h1 h2 HG1 HR0 HRG
  have KN := Lib.hid (heap_alloc_new w1 (.cells #[.int .i64 0, .int .u32 0, .int .u32 0, .int .u32 0, .int .u16 0, .int .u16 0] 68))
  have HBN := Lib.hid ((Below.refl w1.heap.size w1).alloc (Nat.le_refl _) (.cells #[.int .i64 0, .int .u32 0, .int .u32 0, .int .u32 0, .int .u16 0, .int .u16 0] 68))
  have HRb := Lib.hid (And.intro (HR1.out.1.below HBN.out) (HR1.out.2.below HBN.out))
  have K1b := Lib.hid (keepB K1.out HBN.out)
  have HNN := Lib.hid (And.intro (show ¬ F1 w1.heap.size from fun hf => absurd (HR1.out.1.lt _ hf) (Nat.lt_irrefl _)) (And.intro HR1.out.2.kx.size (lt_heap K1.out)))
  have HZO := Lib.hid (show (#[.int .i64 0, .int .u32 0, .int .u32 0, .int .u32 0, .int .u16 0, .int .u16 0] : Array Value).all (·.oneCell') = true by simp [Value.oneCell'])
  go_wp2_with (first | go_skip | (refine wpList_store_to rfl 68 _ _ rfl w1.heap.size #[.int .i64 0, .int .u32 0, .int .u32 0, .int .u32 0, .int .u16 0, .int .u16 0] rfl rfl 68 #[.int .i64 0, .int .u32 0, .int .u32 0, .int .u32 0, .int .u16 0, .int .u16 0] KN.out (by kernel_rfl) rfl HZO.out ?_))
  intro w2 hx hk
  have K2 := Lib.hid hk
  have HR2 := Lib.hid (And.intro (HRb.out.1.kx hx.out (fun k _ hf e => by subst e; exact HNN.out.1 hf)) (HRb.out.2.own hx.out HNN.out.2.1))
  have K1c := Lib.hid (hx.out.heap K1b.out (by have := HNN.out.2.2; omega))
  have HNE := Lib.hid (show ¬ b = w1.heap.size by have := HNN.out.2.2; omega)
  clear hx hk KN HBN HRb K1b HR1 K1 HNN
  generalize w1.heap.size = b11 at K2 HNE ⊢
  have HRP := Lib.hid (range_of_row K1c.out 0 lp HP.out)
  go_wp2_with (first | go_skip | (refine load_midW rfl 73 _ rfl b 0 rfl lp _ HRP.out Tryd.underlying73 rfl HIP.out ?_))
  refine (HU.out _).mono ?_
  rintro e w3 ⟨rfl, hb⟩
  have K3 := Lib.hid (keepB K1c.out hb)
  have HR3 := Lib.hid (And.intro (HR2.out.1.below hb) (HR2.out.2.below hb))
  clear hb HRP K1c HR2 K2
  go_wp2_with (first | go_skip | (refine wpList_store_mid_to rfl 73 _ _ rfl b 0 d rfl rfl 75 c K3.out (by rw [HDO.out.1, HCZ.out]; omega) HID.out HDO.out.2 ?_))
  intro w4 hx hk
  have HRF := Lib.hid (And.intro (HR3.out.1.kx hx.out (fun k _ hf e => by subst e; exact HB1.out hf)) (And.intro HR3.out.2.gr ((HR3.out.2.kx.mono (Y := fun k => F k ∨ k = b) (fun k _ h => .inl h)).trans hx.out (fun i _ e => .inr e))))
  have K4 := Lib.hid hk
  clear hx hk
  go_wp2_with fail
  go_ret
  exact ⟨F1, rfl, HRF.out.1, HRF.out.2.1, HRF.out.2.2, K4.out⟩
set_option maxRecDepth 100000 in
set_option maxHeartbeats 4000000 in
theorem give0_ok {g b : Nat} {m m2 : Mm} {F : Nat → Prop} {w : World} (c d : Array Value) (l lp : List Value) (hd n : Nat) (r2 : Array Value) (hr2 : r2.size = 6) (hro : r2.all (·.oneCell') = true) (c2 : Array Value) (hc2 : rowPut c 8 r2.toList = c2) (hri : RamIs w g m F) (hk : w.heap[b]? = some (.cells c 75 (0, 0))) (hfb : ¬ F b) (hcz : c.size = 23) (hn : n < 2147483648) (hll : l.length = 6) (hl : ∀ (j : Nat) v, l[j]? = some v → c[8 + j]? = some v)
    (hpl : lp.length = 21) (hp : ∀ (j : Nat) v, lp[j]? = some v → c2[0 + j]? = some v) (hdz : d.size = 21) (hdo : d.all (·.oneCell') = true)
    (HG : Hid (∀ W F', RamIs W g m F' → MemStep F F' w W → Calls Tryd.prog 81 #[.agg l.toArray, .pointer (some ⟨g, 0, none⟩), .int .i64 hd, .int .u32 n] W fun e w' => ∃ F2, e = .returned (.tuple #[.agg r2, .nilIface]) ∧ RamIs w' g m2 F2 ∧ MemStep F' F2 W w'))
    (HU : Hid (∀ W, Calls Tryd.prog 82 #[.agg lp.toArray] W fun e w' => e = .returned (.agg d) ∧ Below W.heap.size W w')) :
    Calls Tryd.prog 45 #[.pointer (some ⟨b, 0, none⟩), .int .i64 0, .pointer (some ⟨g, 0, none⟩), .int .i64 hd, .int .i64 n] w fun e w' => ∃ F2, e = .returned (.bool true) ∧ RamIs w' g m2 F2 ∧ (∀ k, F2 k → F k ∨ w.heap.size ≤ k) ∧ KX (fun k => F k ∨ k = b) w w' ∧ w'.heap[b]? = some (.cells (rowPut c2 0 d.toList) 75 (0, 0)) := by
  have HB := Lib.hid hfb
  have HLT := Lib.hid (lt_heap hk)
  have HR0 := Lib.hid (And.intro hri (MemStep.refl F w))
  have K0 := Lib.hid hk
  have HRG := Lib.hid (range_of_row hk 8 l hl)
  have HI := Lib.hid (show (Tryd.prog.info? 68).map (·.size) = some l.length by rw [hll]; kernel_rfl)
  have HIP := Lib.hid (show (Tryd.prog.info? 73).map (·.size) = some lp.length by rw [hpl]; kernel_rfl)
  have HID := Lib.hid (show (Tryd.prog.info? 73).map (·.size) = some d.size by rw [hdz]; kernel_rfl)
  have HDO := Lib.hid (And.intro hdz hdo)
  have HCZ := Lib.hid hcz
  have HP := Lib.hid hp
  have hn0 : (0 : Int) ≤ (n : Int) := by omega
  have hnm : (n : Int) % 4294967296 = (n : Int) := by omega
  have HG1 := Lib.hid (HG.out w F hri (MemStep.refl F w))
  have HIR := Lib.hid (show (Tryd.prog.info? 68).map (·.size) = some r2.size by rw [hr2]; kernel_rfl)
  have HZR := Lib.hid (show (#[.int .i64 0, .int .u32 0, .int .u32 0, .int .u32 0, .int .u16 0, .int .u16 0] : Array Value).size = r2.size by rw [hr2]; rfl)
  have HRO := Lib.hid (And.intro hr2 hro)
  have HC2 := Lib.hid hc2
  clear hr2 hro hc2
  clear hri hk hfb hll hl hpl hp hdz hdo hcz hn HG
  go_enter Tryd.func45, Tryd.ntmps45
  go_wp2_with (first | go_skip | (refine load_midW rfl 68 _ rfl b 8 rfl l _ HRG.out Tryd.underlying68 rfl HI.out ?_))
  refine (HG1.out).mono ?_
  rintro e w1 ⟨F1, rfl, h1, h2⟩
  have K1 := Lib.hid (h2.heap K0.out HB.out)
  have HB1 := Lib.hid (h2.off HLT.out HB.out)
  have HR1 := Lib.hid (And.intro h1 (HR0.out.2.trans h2))
  clear h1 h2 HG1 HR0 HRG
  have KN := Lib.hid (heap_alloc_new w1 (.cells #[.int .i64 0, .int .u32 0, .int .u32 0, .int .u32 0, .int .u16 0, .int .u16 0] 68))
  have HBN := Lib.hid ((Below.refl w1.heap.size w1).alloc (Nat.le_refl _) (.cells #[.int .i64 0, .int .u32 0, .int .u32 0, .int .u32 0, .int .u16 0, .int .u16 0] 68))
  have HRb := Lib.hid (And.intro (HR1.out.1.below HBN.out) (HR1.out.2.below HBN.out))
  have K1b := Lib.hid (keepB K1.out HBN.out)
  have HNN := Lib.hid (And.intro (show ¬ F1 w1.heap.size from fun hf => absurd (HR1.out.1.lt _ hf) (Nat.lt_irrefl _)) (And.intro HR1.out.2.kx.size (lt_heap K1.out)))
  have HZO := Lib.hid (show (#[.int .i64 0, .int .u32 0, .int .u32 0, .int .u32 0, .int .u16 0, .int .u16 0] : Array Value).all (·.oneCell') = true by simp [Value.oneCell'])
  go_wp2_with (first | go_skip | (refine wpList_store_to rfl 68 _ _ rfl w1.heap.size r2 rfl rfl 68 #[.int .i64 0, .int .u32 0, .int .u32 0, .int .u32 0, .int .u16 0, .int .u16 0] KN.out HIR.out HZR.out HRO.out.2 ?_))
  intro w2 hx hk
  have K2 := Lib.hid hk
  have HR2 := Lib.hid (And.intro (HRb.out.1.kx hx.out (fun k _ hf e => by subst e; exact HNN.out.1 hf)) (HRb.out.2.own hx.out HNN.out.2.1))
  have K1c := Lib.hid (hx.out.heap K1b.out (by have := HNN.out.2.2; omega))
  have HNE := Lib.hid (show ¬ b = w1.heap.size by have := HNN.out.2.2; omega)
  clear hx hk KN HBN HRb K1b HR1 K1 HNN
  generalize w1.heap.size = b11 at K2 HNE ⊢
  go_upto_region 5 with fail
  refine wp_region_held_drew (S := fun W => W.heap[b11]? = some (.cells r2 68 (0, 0))) (by kernel_rfl) K2.out (fun hH0 => ?_)
  refine wpAnyH_take (i := 0) (v := ?v0) rfl (by kernel_rfl) (by kernel_rfl) (by kernel_rfl) (fun _ _ _ h => h) (Or.inl ⟨by rfl, ?hy0⟩) (by assumption) ?rest0
  case hy0 => (intro W hSw; go_simp; first | done | with_reducible rfl)
  simp only [Act.put, List.getElem_toArray, List.getElem_cons_zero, List.setIfInBounds_toArray, List.set_cons_zero, List.set_cons_succ]
  refine wpAnyH_take (i := 1) (v := ?v1) rfl (by kernel_rfl) (by kernel_rfl) (by kernel_rfl) (fun _ _ _ h => h) (Or.inl ⟨by rfl, ?hy1⟩) (by assumption) ?rest1
  case hy1 => (intro W hSw; go_simp; first | done | with_reducible rfl)
  simp only [Act.put, List.getElem_toArray, List.getElem_cons_zero, List.getElem_cons_succ, List.setIfInBounds_toArray, List.set_cons_zero, List.set_cons_succ]
  refine wpAnyH_take (i := 2) rfl (by kernel_rfl) (by kernel_rfl) (by kernel_rfl) (fun _ _ _ h => h) (yieldsIf_load_mid (by rfl) 68 _ rfl b11 0 rfl r2.toList _ (fun W hSw => range_of_row hSw 0 r2.toList (fun j v hv => by rw [Nat.zero_add, ← hv, Array.getElem?_toList])) Tryd.underlying68 rfl ?hi2) (by assumption) ?rest2
  case hi2 => rw [Array.length_toList]; exact HIR.out
  simp only [Act.put, List.getElem_toArray, List.getElem_cons_zero, List.getElem_cons_succ, List.setIfInBounds_toArray, List.set_cons_zero, List.set_cons_succ]
  refine wpAnyH_take (i := 3) (v := ?v3) rfl (by kernel_rfl) (by kernel_rfl) (by kernel_rfl) (fun _ _ _ h => h) (Or.inl ⟨by rfl, ?hy3⟩) (by assumption) ?rest3
  case hy3 => (intro W hSw; go_simp; first | done | with_reducible rfl)
  simp only [Act.put, List.getElem_toArray, List.getElem_cons_zero, List.getElem_cons_succ, List.setIfInBounds_toArray, List.set_cons_zero, List.set_cons_succ]
  refine wpAnyH_take (i := 4) (v := ?v4) rfl (by kernel_rfl) (by kernel_rfl) (by kernel_rfl) (fun _ _ _ h => h) (Or.inl ⟨by rfl, ?hy4⟩) (by assumption) ?rest4
  case hy4 => (intro W hSw; go_simp; first | done | with_reducible rfl)
  simp only [Act.put, List.getElem_toArray, List.getElem_cons_zero, List.getElem_cons_succ, List.setIfInBounds_toArray, List.set_cons_zero, List.set_cons_succ]
  refine wpAnyH_take (i := 5) (v := ?v5) rfl (by kernel_rfl) (by kernel_rfl) (by kernel_rfl) (fun _ _ _ h => h) (Or.inl ⟨by rfl, ?hy5⟩) (by assumption) ?rest5
  case hy5 => (intro W hSw; go_simp; first | done | with_reducible rfl)
  simp only [Act.put, List.getElem_toArray, List.getElem_cons_zero, List.getElem_cons_succ, List.setIfInBounds_toArray, List.set_cons_zero, List.set_cons_succ]
  refine wpAnyH_take (i := 6) (v := ?v6) rfl (by kernel_rfl) (by kernel_rfl) (by kernel_rfl) (fun _ _ _ h => h) (Or.inl ⟨by rfl, ?hy6⟩) (by assumption) ?rest6
  case hy6 => (intro W hSw; go_simp; first | done | with_reducible rfl)
  simp only [Act.put, List.getElem_toArray, List.getElem_cons_zero, List.getElem_cons_succ, List.setIfInBounds_toArray, List.set_cons_zero, List.set_cons_succ]
  refine wpAnyH_take (i := 7) (v := ?v7) rfl (by kernel_rfl) (by kernel_rfl) (by kernel_rfl) (fun _ _ _ h => h) (Or.inl ⟨by rfl, ?hy7⟩) (by assumption) ?rest7
  case hy7 => (intro W hSw; go_simp; first | done | with_reducible rfl)
  simp only [Act.put, List.getElem_toArray, List.getElem_cons_zero, List.getElem_cons_succ, List.setIfInBounds_toArray, List.set_cons_zero, List.set_cons_succ]
  refine wpAnyH_ready (rs := [8]) (by kernel_rfl) (by simp) ?_
  refine AllReadyH.cons (o := _) rfl (fun K hK => ?_) (AllReadyH.nil)
  simp only [List.getElem_toArray, List.getElem_cons_zero, List.getElem_cons_succ]
  refine wp_store_mid 68 _ _ rfl b 8 r2 rfl ?hy8 (rowThere (w := w2.drew) K1c.out 8 _ (by rw [HRO.out.1, HCZ.out]; omega)) HIR.out HRO.out.2 ?_
  case hy8 => simp [go_sem]
  have HX9 := Lib.hid (kx_setCells b r2.toList 8 w2 w2.drew ((KX.refl (fun k => k = b) w2).drew))
  have K9 := Lib.hid (rowPut_heap b 75 r2.toList 8 w2.drew c K1c.out)
  generalize w2.drew.setCells b 8 r2.toList = w5 at HX9 K9
  refine hK.out _ _ (HX9.out.heap K2.out (fun e => HNE.out e.symm)) (fun hH1 => ?_)
  clear hK K hH0
  try simp only [Act.put]
  refine wpAnyH_done (by kernel_rfl) ?_ _
  clear hH1
  rw [HC2.out] at K9
  have HR5 := Lib.hid (And.intro (HR2.out.1.kx HX9.out (fun k _ hf e => by subst e; exact HB1.out hf)) (And.intro HR2.out.2.gr ((HR2.out.2.kx.mono (Y := fun k => F k ∨ k = b) (fun k _ h => .inl h)).trans HX9.out (fun i _ e => .inr e))))
  have HCZ2 := Lib.hid (show c2.size = 23 by rw [← HC2.out, rowPut_size, HCZ.out])
  have K5 := Lib.hid K9
  clear K9 HX9 HR2 K1c K2
  have HRP := Lib.hid (range_of_row K5.out 0 lp HP.out)
  go_wp2_with (first | go_skip | (refine load_midW rfl 73 _ rfl b 0 rfl lp _ HRP.out Tryd.underlying73 rfl HIP.out ?_))
  refine (HU.out _).mono ?_
  rintro e w6 ⟨rfl, hb⟩
  have K6 := Lib.hid (keepB K5.out hb)
  have HR6 := Lib.hid (And.intro (HR5.out.1.below hb) (And.intro HR5.out.2.1 (HR5.out.2.2.trans (KX.of_below (X := fun k => F k ∨ k = b) hb) (fun i _ e => e))))
  clear hb HRP K5 HR5
  go_wp2_with (first | go_skip | (refine wpList_store_mid_to rfl 73 _ _ rfl b 0 d rfl rfl 75 c2 K6.out (by rw [HDO.out.1, HCZ2.out]; omega) HID.out HDO.out.2 ?_))
  intro w7 hx hk
  have HRF := Lib.hid (And.intro (HR6.out.1.kx hx.out (fun k _ hf e => by subst e; exact HB1.out hf)) (And.intro HR6.out.2.1 (HR6.out.2.2.trans hx.out (fun i _ e => .inr e))))
  have K7 := Lib.hid hk
  clear hx hk
  go_wp2_with fail
  go_ret
  exact ⟨F1, rfl, HRF.out.1, HRF.out.2.1, HRF.out.2.2, K7.out⟩
set_option maxRecDepth 100000 in
set_option maxHeartbeats 4000000 in
theorem give1_no {g b : Nat} {m m2 : Mm} {F : Nat → Prop} {w : World} (c d : Array Value) (l lp : List Value) (hd n : Nat) (hri : RamIs w g m F) (hk : w.heap[b]? = some (.cells c 75 (0, 0))) (hfb : ¬ F b) (hcz : c.size = 23) (hn : n < 2147483648) (hll : l.length = 6) (hl : ∀ (j : Nat) v, l[j]? = some v → c[15 + j]? = some v)
    (hpl : lp.length = 21) (hp : ∀ (j : Nat) v, lp[j]? = some v → c[0 + j]? = some v) (hdz : d.size = 21) (hdo : d.all (·.oneCell') = true)
    (HG : Hid (∀ W F', RamIs W g m F' → MemStep F F' w W → Calls Tryd.prog 81 #[.agg l.toArray, .pointer (some ⟨g, 0, none⟩), .int .i64 hd, .int .u32 n] W fun e w' => ∃ F2, e = .returned (.tuple #[.agg #[.int .i64 0, .int .u32 0, .int .u32 0, .int .u32 0, .int .u16 0, .int .u16 0], .iface 104 (.int .i64 22)]) ∧ RamIs w' g m2 F2 ∧ MemStep F' F2 W w'))
    (HU : Hid (∀ W, Calls Tryd.prog 44 #[.agg lp.toArray] W fun e w' => e = .returned (.agg d) ∧ Below W.heap.size W w')) :
    Calls Tryd.prog 45 #[.pointer (some ⟨b, 0, none⟩), .int .i64 1, .pointer (some ⟨g, 0, none⟩), .int .i64 hd, .int .i64 n] w fun e w' => ∃ F2, e = .returned (.bool false) ∧ RamIs w' g m2 F2 ∧ (∀ k, F2 k → F k ∨ w.heap.size ≤ k) ∧ KX (fun k => F k ∨ k = b) w w' ∧ w'.heap[b]? = some (.cells (rowPut c 0 d.toList) 75 (0, 0)) := by
  have HB := Lib.hid hfb
  have HLT := Lib.hid (lt_heap hk)
  have HR0 := Lib.hid (And.intro hri (MemStep.refl F w))
  have K0 := Lib.hid hk
  have HRG := Lib.hid (range_of_row hk 15 l hl)
  have HI := Lib.hid (show (Tryd.prog.info? 68).map (·.size) = some l.length by rw [hll]; kernel_rfl)
  have HIP := Lib.hid (show (Tryd.prog.info? 73).map (·.size) = some lp.length by rw [hpl]; kernel_rfl)
  have HID := Lib.hid (show (Tryd.prog.info? 73).map (·.size) = some d.size by rw [hdz]; kernel_rfl)
  have HDO := Lib.hid (And.intro hdz hdo)
  have HCZ := Lib.hid hcz
  have HP := Lib.hid hp
  have hn0 : (0 : Int) ≤ (n : Int) := by omega
  have hnm : (n : Int) % 4294967296 = (n : Int) := by omega
  have HG1 := Lib.hid (HG.out w F hri (MemStep.refl F w))
  clear hri hk hfb hll hl hpl hp hdz hdo hcz hn HG
  go_enter Tryd.func45, Tryd.ntmps45
  go_wp2_with (first | go_skip | (refine load_midW rfl 68 _ rfl b 15 rfl l _ HRG.out Tryd.underlying68 rfl HI.out ?_))
  refine (HG1.out).mono ?_
  rintro e w1 ⟨F1, rfl, h1, h2⟩
  have K1 := Lib.hid (h2.heap K0.out HB.out)
  have HB1 := Lib.hid (h2.off HLT.out HB.out)
  have HR1 := Lib.hid (And.intro h1 (HR0.out.2.trans h2))
  clear h1 h2 HG1 HR0 HRG
  have KN := Lib.hid (heap_alloc_new w1 (.cells #[.int .i64 0, .int .u32 0, .int .u32 0, .int .u32 0, .int .u16 0, .int .u16 0] 68))
  have HBN := Lib.hid ((Below.refl w1.heap.size w1).alloc (Nat.le_refl _) (.cells #[.int .i64 0, .int .u32 0, .int .u32 0, .int .u32 0, .int .u16 0, .int .u16 0] 68))
  have HRb := Lib.hid (And.intro (HR1.out.1.below HBN.out) (HR1.out.2.below HBN.out))
  have K1b := Lib.hid (keepB K1.out HBN.out)
  have HNN := Lib.hid (And.intro (show ¬ F1 w1.heap.size from fun hf => absurd (HR1.out.1.lt _ hf) (Nat.lt_irrefl _)) (And.intro HR1.out.2.kx.size (lt_heap K1.out)))
  have HZO := Lib.hid (show (#[.int .i64 0, .int .u32 0, .int .u32 0, .int .u32 0, .int .u16 0, .int .u16 0] : Array Value).all (·.oneCell') = true by simp [Value.oneCell'])
  go_wp2_with (first | go_skip | (refine wpList_store_to rfl 68 _ _ rfl w1.heap.size #[.int .i64 0, .int .u32 0, .int .u32 0, .int .u32 0, .int .u16 0, .int .u16 0] rfl rfl 68 #[.int .i64 0, .int .u32 0, .int .u32 0, .int .u32 0, .int .u16 0, .int .u16 0] KN.out (by kernel_rfl) rfl HZO.out ?_))
  intro w2 hx hk
  have K2 := Lib.hid hk
  have HR2 := Lib.hid (And.intro (HRb.out.1.kx hx.out (fun k _ hf e => by subst e; exact HNN.out.1 hf)) (HRb.out.2.own hx.out HNN.out.2.1))
  have K1c := Lib.hid (hx.out.heap K1b.out (by have := HNN.out.2.2; omega))
  have HNE := Lib.hid (show ¬ b = w1.heap.size by have := HNN.out.2.2; omega)
  clear hx hk KN HBN HRb K1b HR1 K1 HNN
  generalize w1.heap.size = b11 at K2 HNE ⊢
  have HRP := Lib.hid (range_of_row K1c.out 0 lp HP.out)
  go_wp2_with (first | go_skip | (refine load_midW rfl 73 _ rfl b 0 rfl lp _ HRP.out Tryd.underlying73 rfl HIP.out ?_))
  refine (HU.out _).mono ?_
  rintro e w3 ⟨rfl, hb⟩
  have K3 := Lib.hid (keepB K1c.out hb)
  have HR3 := Lib.hid (And.intro (HR2.out.1.below hb) (HR2.out.2.below hb))
  clear hb HRP K1c HR2 K2
  go_wp2_with (first | go_skip | (refine wpList_store_mid_to rfl 73 _ _ rfl b 0 d rfl rfl 75 c K3.out (by rw [HDO.out.1, HCZ.out]; omega) HID.out HDO.out.2 ?_))
  intro w4 hx hk
  have HRF := Lib.hid (And.intro (HR3.out.1.kx hx.out (fun k _ hf e => by subst e; exact HB1.out hf)) (And.intro HR3.out.2.gr ((HR3.out.2.kx.mono (Y := fun k => F k ∨ k = b) (fun k _ h => .inl h)).trans hx.out (fun i _ e => .inr e))))
  have K4 := Lib.hid hk
  clear hx hk
  go_wp2_with fail
  go_ret
  exact ⟨F1, rfl, HRF.out.1, HRF.out.2.1, HRF.out.2.2, K4.out⟩
set_option maxRecDepth 100000 in
set_option maxHeartbeats 4000000 in
theorem give1_ok {g b : Nat} {m m2 : Mm} {F : Nat → Prop} {w : World} (c d : Array Value) (l lp : List Value) (hd n : Nat) (r2 : Array Value) (hr2 : r2.size = 6) (hro : r2.all (·.oneCell') = true) (c2 : Array Value) (hc2 : rowPut c 15 r2.toList = c2) (hri : RamIs w g m F) (hk : w.heap[b]? = some (.cells c 75 (0, 0))) (hfb : ¬ F b) (hcz : c.size = 23) (hn : n < 2147483648) (hll : l.length = 6) (hl : ∀ (j : Nat) v, l[j]? = some v → c[15 + j]? = some v)
    (hpl : lp.length = 21) (hp : ∀ (j : Nat) v, lp[j]? = some v → c2[0 + j]? = some v) (hdz : d.size = 21) (hdo : d.all (·.oneCell') = true)
    (HG : Hid (∀ W F', RamIs W g m F' → MemStep F F' w W → Calls Tryd.prog 81 #[.agg l.toArray, .pointer (some ⟨g, 0, none⟩), .int .i64 hd, .int .u32 n] W fun e w' => ∃ F2, e = .returned (.tuple #[.agg r2, .nilIface]) ∧ RamIs w' g m2 F2 ∧ MemStep F' F2 W w'))
    (HU : Hid (∀ W, Calls Tryd.prog 82 #[.agg lp.toArray] W fun e w' => e = .returned (.agg d) ∧ Below W.heap.size W w')) :
    Calls Tryd.prog 45 #[.pointer (some ⟨b, 0, none⟩), .int .i64 1, .pointer (some ⟨g, 0, none⟩), .int .i64 hd, .int .i64 n] w fun e w' => ∃ F2, e = .returned (.bool true) ∧ RamIs w' g m2 F2 ∧ (∀ k, F2 k → F k ∨ w.heap.size ≤ k) ∧ KX (fun k => F k ∨ k = b) w w' ∧ w'.heap[b]? = some (.cells (rowPut c2 0 d.toList) 75 (0, 0)) := by
  have HB := Lib.hid hfb
  have HLT := Lib.hid (lt_heap hk)
  have HR0 := Lib.hid (And.intro hri (MemStep.refl F w))
  have K0 := Lib.hid hk
  have HRG := Lib.hid (range_of_row hk 15 l hl)
  have HI := Lib.hid (show (Tryd.prog.info? 68).map (·.size) = some l.length by rw [hll]; kernel_rfl)
  have HIP := Lib.hid (show (Tryd.prog.info? 73).map (·.size) = some lp.length by rw [hpl]; kernel_rfl)
  have HID := Lib.hid (show (Tryd.prog.info? 73).map (·.size) = some d.size by rw [hdz]; kernel_rfl)
  have HDO := Lib.hid (And.intro hdz hdo)
  have HCZ := Lib.hid hcz
  have HP := Lib.hid hp
  have hn0 : (0 : Int) ≤ (n : Int) := by omega
  have hnm : (n : Int) % 4294967296 = (n : Int) := by omega
  have HG1 := Lib.hid (HG.out w F hri (MemStep.refl F w))
  have HIR := Lib.hid (show (Tryd.prog.info? 68).map (·.size) = some r2.size by rw [hr2]; kernel_rfl)
  have HZR := Lib.hid (show (#[.int .i64 0, .int .u32 0, .int .u32 0, .int .u32 0, .int .u16 0, .int .u16 0] : Array Value).size = r2.size by rw [hr2]; rfl)
  have HRO := Lib.hid (And.intro hr2 hro)
  have HC2 := Lib.hid hc2
  clear hr2 hro hc2
  clear hri hk hfb hll hl hpl hp hdz hdo hcz hn HG
  go_enter Tryd.func45, Tryd.ntmps45
  go_wp2_with (first | go_skip | (refine load_midW rfl 68 _ rfl b 15 rfl l _ HRG.out Tryd.underlying68 rfl HI.out ?_))
  refine (HG1.out).mono ?_
  rintro e w1 ⟨F1, rfl, h1, h2⟩
  have K1 := Lib.hid (h2.heap K0.out HB.out)
  have HB1 := Lib.hid (h2.off HLT.out HB.out)
  have HR1 := Lib.hid (And.intro h1 (HR0.out.2.trans h2))
  clear h1 h2 HG1 HR0 HRG
  have KN := Lib.hid (heap_alloc_new w1 (.cells #[.int .i64 0, .int .u32 0, .int .u32 0, .int .u32 0, .int .u16 0, .int .u16 0] 68))
  have HBN := Lib.hid ((Below.refl w1.heap.size w1).alloc (Nat.le_refl _) (.cells #[.int .i64 0, .int .u32 0, .int .u32 0, .int .u32 0, .int .u16 0, .int .u16 0] 68))
  have HRb := Lib.hid (And.intro (HR1.out.1.below HBN.out) (HR1.out.2.below HBN.out))
  have K1b := Lib.hid (keepB K1.out HBN.out)
  have HNN := Lib.hid (And.intro (show ¬ F1 w1.heap.size from fun hf => absurd (HR1.out.1.lt _ hf) (Nat.lt_irrefl _)) (And.intro HR1.out.2.kx.size (lt_heap K1.out)))
  have HZO := Lib.hid (show (#[.int .i64 0, .int .u32 0, .int .u32 0, .int .u32 0, .int .u16 0, .int .u16 0] : Array Value).all (·.oneCell') = true by simp [Value.oneCell'])
  go_wp2_with (first | go_skip | (refine wpList_store_to rfl 68 _ _ rfl w1.heap.size r2 rfl rfl 68 #[.int .i64 0, .int .u32 0, .int .u32 0, .int .u32 0, .int .u16 0, .int .u16 0] KN.out HIR.out HZR.out HRO.out.2 ?_))
  intro w2 hx hk
  have K2 := Lib.hid hk
  have HR2 := Lib.hid (And.intro (HRb.out.1.kx hx.out (fun k _ hf e => by subst e; exact HNN.out.1 hf)) (HRb.out.2.own hx.out HNN.out.2.1))
  have K1c := Lib.hid (hx.out.heap K1b.out (by have := HNN.out.2.2; omega))
  have HNE := Lib.hid (show ¬ b = w1.heap.size by have := HNN.out.2.2; omega)
  clear hx hk KN HBN HRb K1b HR1 K1 HNN
  generalize w1.heap.size = b11 at K2 HNE ⊢
  go_upto_region 5 with fail
  refine wp_region_held_drew (S := fun W => W.heap[b11]? = some (.cells r2 68 (0, 0))) (by kernel_rfl) K2.out (fun hH0 => ?_)
  refine wpAnyH_take (i := 0) (v := ?v0) rfl (by kernel_rfl) (by kernel_rfl) (by kernel_rfl) (fun _ _ _ h => h) (Or.inl ⟨by rfl, ?hy0⟩) (by assumption) ?rest0
  case hy0 => (intro W hSw; go_simp; first | done | with_reducible rfl)
  simp only [Act.put, List.getElem_toArray, List.getElem_cons_zero, List.setIfInBounds_toArray, List.set_cons_zero, List.set_cons_succ]
  refine wpAnyH_take (i := 1) (v := ?v1) rfl (by kernel_rfl) (by kernel_rfl) (by kernel_rfl) (fun _ _ _ h => h) (Or.inl ⟨by rfl, ?hy1⟩) (by assumption) ?rest1
  case hy1 => (intro W hSw; go_simp; first | done | with_reducible rfl)
  simp only [Act.put, List.getElem_toArray, List.getElem_cons_zero, List.getElem_cons_succ, List.setIfInBounds_toArray, List.set_cons_zero, List.set_cons_succ]
  refine wpAnyH_take (i := 2) rfl (by kernel_rfl) (by kernel_rfl) (by kernel_rfl) (fun _ _ _ h => h) (yieldsIf_load_mid (by rfl) 68 _ rfl b11 0 rfl r2.toList _ (fun W hSw => range_of_row hSw 0 r2.toList (fun j v hv => by rw [Nat.zero_add, ← hv, Array.getElem?_toList])) Tryd.underlying68 rfl ?hi2) (by assumption) ?rest2
  case hi2 => rw [Array.length_toList]; exact HIR.out
  simp only [Act.put, List.getElem_toArray, List.getElem_cons_zero, List.getElem_cons_succ, List.setIfInBounds_toArray, List.set_cons_zero, List.set_cons_succ]
  refine wpAnyH_take (i := 3) (v := ?v3) rfl (by kernel_rfl) (by kernel_rfl) (by kernel_rfl) (fun _ _ _ h => h) (Or.inl ⟨by rfl, ?hy3⟩) (by assumption) ?rest3
  case hy3 => (intro W hSw; go_simp; first | done | with_reducible rfl)
  simp only [Act.put, List.getElem_toArray, List.getElem_cons_zero, List.getElem_cons_succ, List.setIfInBounds_toArray, List.set_cons_zero, List.set_cons_succ]
  refine wpAnyH_take (i := 4) (v := ?v4) rfl (by kernel_rfl) (by kernel_rfl) (by kernel_rfl) (fun _ _ _ h => h) (Or.inl ⟨by rfl, ?hy4⟩) (by assumption) ?rest4
  case hy4 => (intro W hSw; go_simp; first | done | with_reducible rfl)
  simp only [Act.put, List.getElem_toArray, List.getElem_cons_zero, List.getElem_cons_succ, List.setIfInBounds_toArray, List.set_cons_zero, List.set_cons_succ]
  refine wpAnyH_take (i := 5) (v := ?v5) rfl (by kernel_rfl) (by kernel_rfl) (by kernel_rfl) (fun _ _ _ h => h) (Or.inl ⟨by rfl, ?hy5⟩) (by assumption) ?rest5
  case hy5 => (intro W hSw; go_simp; first | done | with_reducible rfl)
  simp only [Act.put, List.getElem_toArray, List.getElem_cons_zero, List.getElem_cons_succ, List.setIfInBounds_toArray, List.set_cons_zero, List.set_cons_succ]
  refine wpAnyH_take (i := 6) (v := ?v6) rfl (by kernel_rfl) (by kernel_rfl) (by kernel_rfl) (fun _ _ _ h => h) (Or.inl ⟨by rfl, ?hy6⟩) (by assumption) ?rest6
  case hy6 => (intro W hSw; go_simp; first | done | with_reducible rfl)
  simp only [Act.put, List.getElem_toArray, List.getElem_cons_zero, List.getElem_cons_succ, List.setIfInBounds_toArray, List.set_cons_zero, List.set_cons_succ]
  refine wpAnyH_take (i := 7) (v := ?v7) rfl (by kernel_rfl) (by kernel_rfl) (by kernel_rfl) (fun _ _ _ h => h) (Or.inl ⟨by rfl, ?hy7⟩) (by assumption) ?rest7
  case hy7 => (intro W hSw; go_simp; first | done | with_reducible rfl)
  simp only [Act.put, List.getElem_toArray, List.getElem_cons_zero, List.getElem_cons_succ, List.setIfInBounds_toArray, List.set_cons_zero, List.set_cons_succ]
  refine wpAnyH_ready (rs := [8]) (by kernel_rfl) (by simp) ?_
  refine AllReadyH.cons (o := _) rfl (fun K hK => ?_) (AllReadyH.nil)
  simp only [List.getElem_toArray, List.getElem_cons_zero, List.getElem_cons_succ]
  refine wp_store_mid 68 _ _ rfl b 15 r2 rfl ?hy8 (rowThere (w := w2.drew) K1c.out 15 _ (by rw [HRO.out.1, HCZ.out]; omega)) HIR.out HRO.out.2 ?_
  case hy8 => simp [go_sem]
  have HX9 := Lib.hid (kx_setCells b r2.toList 15 w2 w2.drew ((KX.refl (fun k => k = b) w2).drew))
  have K9 := Lib.hid (rowPut_heap b 75 r2.toList 15 w2.drew c K1c.out)
  generalize w2.drew.setCells b 15 r2.toList = w5 at HX9 K9
  refine hK.out _ _ (HX9.out.heap K2.out (fun e => HNE.out e.symm)) (fun hH1 => ?_)
  clear hK K hH0
  try simp only [Act.put]
  refine wpAnyH_done (by kernel_rfl) ?_ _
  clear hH1
  rw [HC2.out] at K9
  have HR5 := Lib.hid (And.intro (HR2.out.1.kx HX9.out (fun k _ hf e => by subst e; exact HB1.out hf)) (And.intro HR2.out.2.gr ((HR2.out.2.kx.mono (Y := fun k => F k ∨ k = b) (fun k _ h => .inl h)).trans HX9.out (fun i _ e => .inr e))))
  have HCZ2 := Lib.hid (show c2.size = 23 by rw [← HC2.out, rowPut_size, HCZ.out])
  have K5 := Lib.hid K9
  clear K9 HX9 HR2 K1c K2
  have HRP := Lib.hid (range_of_row K5.out 0 lp HP.out)
  go_wp2_with (first | go_skip | (refine load_midW rfl 73 _ rfl b 0 rfl lp _ HRP.out Tryd.underlying73 rfl HIP.out ?_))
  refine (HU.out _).mono ?_
  rintro e w6 ⟨rfl, hb⟩
  have K6 := Lib.hid (keepB K5.out hb)
  have HR6 := Lib.hid (And.intro (HR5.out.1.below hb) (And.intro HR5.out.2.1 (HR5.out.2.2.trans (KX.of_below (X := fun k => F k ∨ k = b) hb) (fun i _ e => e))))
  clear hb HRP K5 HR5
  go_wp2_with (first | go_skip | (refine wpList_store_mid_to rfl 73 _ _ rfl b 0 d rfl rfl 75 c2 K6.out (by rw [HDO.out.1, HCZ2.out]; omega) HID.out HDO.out.2 ?_))
  intro w7 hx hk
  have HRF := Lib.hid (And.intro (HR6.out.1.kx hx.out (fun k _ hf e => by subst e; exact HB1.out hf)) (And.intro HR6.out.2.1 (HR6.out.2.2.trans hx.out (fun i _ e => .inr e))))
  have K7 := Lib.hid hk
  clear hx hk
  go_wp2_with fail
  go_ret
  exact ⟨F1, rfl, HRF.out.1, HRF.out.2.1, HRF.out.2.2, K7.out⟩
end Go.Proofs.YtcmbnkmbaghkdaaDoor
