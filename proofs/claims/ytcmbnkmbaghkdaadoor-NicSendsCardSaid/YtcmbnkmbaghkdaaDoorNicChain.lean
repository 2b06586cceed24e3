/-
nic's chain, walked: the next chain of a queue, not taken yet.
Condition: the table of regions of package bus reads as its text lays it.
-/
import Derived.Test.YtcmbnkmbaghkdaaDoorNic
import Derived.Test.YtcmbnkmbaghkdaaDoorRingWalkOk
import Derived.Test.YtcmbnkmbaghkdaaDoorG6

namespace Go.Proofs.YtcmbnkmbaghkdaaDoor
open Go.RowKit
set_option linter.unusedVariables false

theorem results_cell_tmp4 {P : Program} {fn : Func} {p a b c d' : Tmp} {ty : TypeId} (h : fn.results = #[.cell p ty, .tmp a, .tmp b, .tmp c, .tmp d']) (tmps : Array Value) (w : World) (g : Nat) (t : TypeId) (cs : Array Value) (fr : Nat × Nat) (d : TypeDesc)
    (hp : tmps.getD p undef = .pointer (some ⟨g, 0, none⟩)) (hg : w.heap[g]? = some (.cells cs t fr))
    (hu : P.underlying ty = some d) (hd : (match d with | .struct _ | .array _ _ => true | _ => false) = true) (hi : (P.info? ty).map (·.size) = some cs.size) :
    (results fn tmps).run P w = .ok (.tuple #[.agg cs, tmps.getD a undef, tmps.getD b undef, tmps.getD c undef, tmps.getD d' undef]) w := by
  have hp' : tmps[p]?.getD undef = .pointer (some ⟨g, 0, none⟩) := by simpa using hp
  simp [results, h, hp', asAddr, run_loadVar_row w g t ty cs fr d hg hu hd hi]
theorem ownsRow_lower {w : World} {base b size n : Nat} {ty : TypeId} {v : Value} {xs : List Value} (h : w.ownsRow base ty size v n xs) (hb : b ≤ base) : w.ownsRow b ty size v n xs :=
  ⟨h.1, h.2.imp id fun ⟨g, cap, cur, a, hg, r⟩ => ⟨g, cap, cur, a, Nat.le_trans hb hg, r⟩⟩
/-- What chain answers: the ring behind it, its head, its parts, whether there is one, the error. -/
def ChainPost (w : World) (g : Nat) (m : Mm) (F : Nat → Prop) (rr : Array Value) (h : Int) (l : List Sg) (is : Bool) (ev : Value) (e : Ending) (w' : World) : Prop :=
  ∃ v F2, e = .returned (.tuple #[.agg rr, .int .i64 h, v, .bool is, ev]) ∧ RamIs w' g m F2 ∧ MemStep F F2 w w' ∧ w'.ownsRow w.heap.size 196 3 v l.length (flatS l) ∧ ∀ b, v.ownBlock = some b → ¬ F2 b
set_option maxRecDepth 100000 in
set_option maxHeartbeats 4000000 in
theorem chain0_none {g : Nat} {m : Mm} {F : Nat → Prop} {w : World} (c rr : Array Value) (l : List Value) (h : Int) (hri : RamIs w g m F) (hll : l.length = 6) (hl : ∀ (j : Nat) v, l[j]? = some v → c[8 + j]? = some v) (hrz : rr.size = 6) (hone : rr.all (·.oneCell') = true)
    (HN : Hid (∀ W F', RamIs W g m F' → MemStep F F' w W → Calls Tryd.prog 78 #[.agg l.toArray, .pointer (some ⟨g, 0, none⟩)] W fun e w' => ∃ F2, e = .returned (.tuple #[.agg rr, .int .i64 h, .bool false, .nilIface]) ∧ RamIs w' g m F2 ∧ MemStep F' F2 W w')) :
    Calls Tryd.prog 42 #[.agg c, .int .i64 0, .pointer (some ⟨g, 0, none⟩)] w (ChainPost w g m F rr h [] false .nilIface) := by
  obtain ⟨k0, k1, hb0⟩ := two_new w (.cells c 75) (.cells #[.int .i64 0, .int .u32 0, .int .u32 0, .int .u32 0, .int .u16 0, .int .u16 0] 68)
  have K0 := Lib.hid k0
  have K1 := Lib.hid k1
  have HF := Lib.hid hri.lt
  have HR0 := Lib.hid (And.intro (hri.below hb0) (MemStep.of_below (F := F) hb0))
  have hn0 : ¬ F w.heap.size := fun hf => absurd (HF.out _ hf) (Nat.lt_irrefl _)
  have hn1 : ¬ F (w.heap.size + 1) := fun hf => by have := HF.out _ hf; omega
  have HX := Lib.hid (And.intro hn0 hn1)
  have HRG := Lib.hid (range_of_row k0 8 l hl)
  have HI := Lib.hid (show (Tryd.prog.info? 68).map (·.size) = some l.length by rw [hll]; kernel_rfl)
  have HIR := Lib.hid (show (Tryd.prog.info? 68).map (·.size) = some rr.size by rw [hrz]; kernel_rfl)
  have HZR := Lib.hid (show (#[.int .i64 0, .int .u32 0, .int .u32 0, .int .u32 0, .int .u16 0, .int .u16 0] : Array Value).size = rr.size by rw [hrz]; rfl)
  have HO := Lib.hid hone
  have HN1 := Lib.hid (HN.out _ F HR0.out.1 HR0.out.2)
  clear k0 k1 hb0 hri hn0 hn1 hll hl hrz hone HN
  go_enter Tryd.func42, Tryd.ntmps42
  go_wp2_with (first | go_skip | (refine load_midW rfl 68 _ rfl w.heap.size 8 rfl l _ HRG.out Tryd.underlying68 rfl HI.out ?_))
  refine (HN1.out).mono ?_
  rintro e w1 ⟨F1, rfl, h1, h2⟩
  have K0a := Lib.hid (h2.heap K0.out HX.out.1)
  have K1a := Lib.hid (h2.heap K1.out HX.out.2)
  have HXa := Lib.hid (And.intro (h2.off (lt_heap K0.out) HX.out.1) (h2.off (lt_heap K1.out) HX.out.2))
  have HRa := Lib.hid (And.intro h1 (HR0.out.2.trans h2))
  clear h1 h2 HN1 HR0 K0 K1 HX HRG
  have KN := Lib.hid (heap_alloc_new w1 (.cells #[.int .i64 0, .int .u32 0, .int .u32 0, .int .u32 0, .int .u16 0, .int .u16 0] 68))
  have HBN := Lib.hid ((Below.refl w1.heap.size w1).alloc (Nat.le_refl _) (.cells #[.int .i64 0, .int .u32 0, .int .u32 0, .int .u32 0, .int .u16 0, .int .u16 0] 68))
  have HRb := Lib.hid (And.intro (HRa.out.1.below HBN.out) (HRa.out.2.below HBN.out))
  have K1b := Lib.hid (keepB K1a.out HBN.out)
  have HNN := Lib.hid (And.intro (show ¬ F1 w1.heap.size from fun hf => absurd (HRa.out.1.lt _ hf) (Nat.lt_irrefl _)) (And.intro HRa.out.2.kx.size (lt_heap K1a.out)))
  go_wp2_with (first | go_skip | (refine wpList_store_to rfl 68 _ _ rfl w1.heap.size rr rfl rfl 68 #[.int .i64 0, .int .u32 0, .int .u32 0, .int .u32 0, .int .u16 0, .int .u16 0] KN.out HIR.out HZR.out HO.out ?_))
  intro w2 hx hk
  have K2 := Lib.hid hk
  have HR2 := Lib.hid (And.intro (HRb.out.1.kx hx.out (fun k _ hf e => by subst e; exact HNN.out.1 hf)) (HRb.out.2.own hx.out HNN.out.2.1))
  have K1c := Lib.hid (hx.out.heap K1b.out (by have := HNN.out.2.2; omega))
  clear hx hk KN HBN HRb K1b HRa K0a K1a
  generalize w1.heap.size = b11 at K2 HNN ⊢
  go_wp2_with (first | go_skip | (refine wpList_load_row rfl 68 _ rfl b11 rfl 68 rr (0, 0) _ K2.out Tryd.underlying68 rfl HIR.out ?_) | (refine wpList_store_to rfl 68 _ _ rfl (w.heap.size + 1) rr rfl rfl 68 #[.int .i64 0, .int .u32 0, .int .u32 0, .int .u32 0, .int .u16 0, .int .u16 0] K1c.out HIR.out HZR.out HO.out ?_))
  intro w3 hx hk
  have HRF := Lib.hid (And.intro (HR2.out.1.kx hx.out (fun k _ hf e => by subst e; exact HXa.out.2 hf)) (HR2.out.2.own hx.out (by omega)))
  go_wp2_with fail
  exact bodyPost_ret (v := .tuple #[.agg rr, .int .i64 h, .slice none 0 0, .bool false, .nilIface]) (results_cell_tmp4 Tryd.results42 _ _ (w.heap.size + 1) 68 rr (0, 0) _ rfl hk Tryd.underlying68 rfl HIR.out) rfl ⟨_, F1, rfl, HRF.out.1, HRF.out.2, World.ownsRow_nil _ _ _ _, fun b hb => by simp [Value.ownBlock] at hb⟩
set_option maxRecDepth 100000 in
set_option maxHeartbeats 4000000 in
theorem chain0_err {g : Nat} {m : Mm} {F : Nat → Prop} {w : World} (c rr : Array Value) (l : List Value) (h : Int) (n : Int) (hri : RamIs w g m F) (hll : l.length = 6) (hl : ∀ (j : Nat) v, l[j]? = some v → c[8 + j]? = some v) (hrz : rr.size = 6) (hone : rr.all (·.oneCell') = true)
    (HN : Hid (∀ W F', RamIs W g m F' → MemStep F F' w W → Calls Tryd.prog 78 #[.agg l.toArray, .pointer (some ⟨g, 0, none⟩)] W fun e w' => ∃ F2, e = .returned (.tuple #[.agg rr, .int .i64 h, .bool false, (.iface 104 (.int .i64 n))]) ∧ RamIs w' g m F2 ∧ MemStep F' F2 W w')) :
    Calls Tryd.prog 42 #[.agg c, .int .i64 0, .pointer (some ⟨g, 0, none⟩)] w (ChainPost w g m F rr h [] false (.iface 104 (.int .i64 n))) := by
  obtain ⟨k0, k1, hb0⟩ := two_new w (.cells c 75) (.cells #[.int .i64 0, .int .u32 0, .int .u32 0, .int .u32 0, .int .u16 0, .int .u16 0] 68)
  have K0 := Lib.hid k0
  have K1 := Lib.hid k1
  have HF := Lib.hid hri.lt
  have HR0 := Lib.hid (And.intro (hri.below hb0) (MemStep.of_below (F := F) hb0))
  have hn0 : ¬ F w.heap.size := fun hf => absurd (HF.out _ hf) (Nat.lt_irrefl _)
  have hn1 : ¬ F (w.heap.size + 1) := fun hf => by have := HF.out _ hf; omega
  have HX := Lib.hid (And.intro hn0 hn1)
  have HRG := Lib.hid (range_of_row k0 8 l hl)
  have HI := Lib.hid (show (Tryd.prog.info? 68).map (·.size) = some l.length by rw [hll]; kernel_rfl)
  have HIR := Lib.hid (show (Tryd.prog.info? 68).map (·.size) = some rr.size by rw [hrz]; kernel_rfl)
  have HZR := Lib.hid (show (#[.int .i64 0, .int .u32 0, .int .u32 0, .int .u32 0, .int .u16 0, .int .u16 0] : Array Value).size = rr.size by rw [hrz]; rfl)
  have HO := Lib.hid hone
  have HN1 := Lib.hid (HN.out _ F HR0.out.1 HR0.out.2)
  clear k0 k1 hb0 hri hn0 hn1 hll hl hrz hone HN
  go_enter Tryd.func42, Tryd.ntmps42
  go_wp2_with (first | go_skip | (refine load_midW rfl 68 _ rfl w.heap.size 8 rfl l _ HRG.out Tryd.underlying68 rfl HI.out ?_))
  refine (HN1.out).mono ?_
  rintro e w1 ⟨F1, rfl, h1, h2⟩
  have K0a := Lib.hid (h2.heap K0.out HX.out.1)
  have K1a := Lib.hid (h2.heap K1.out HX.out.2)
  have HXa := Lib.hid (And.intro (h2.off (lt_heap K0.out) HX.out.1) (h2.off (lt_heap K1.out) HX.out.2))
  have HRa := Lib.hid (And.intro h1 (HR0.out.2.trans h2))
  clear h1 h2 HN1 HR0 K0 K1 HX HRG
  have KN := Lib.hid (heap_alloc_new w1 (.cells #[.int .i64 0, .int .u32 0, .int .u32 0, .int .u32 0, .int .u16 0, .int .u16 0] 68))
  have HBN := Lib.hid ((Below.refl w1.heap.size w1).alloc (Nat.le_refl _) (.cells #[.int .i64 0, .int .u32 0, .int .u32 0, .int .u32 0, .int .u16 0, .int .u16 0] 68))
  have HRb := Lib.hid (And.intro (HRa.out.1.below HBN.out) (HRa.out.2.below HBN.out))
  have K1b := Lib.hid (keepB K1a.out HBN.out)
  have HNN := Lib.hid (And.intro (show ¬ F1 w1.heap.size from fun hf => absurd (HRa.out.1.lt _ hf) (Nat.lt_irrefl _)) (And.intro HRa.out.2.kx.size (lt_heap K1a.out)))
  go_wp2_with (first | go_skip | (refine wpList_store_to rfl 68 _ _ rfl w1.heap.size rr rfl rfl 68 #[.int .i64 0, .int .u32 0, .int .u32 0, .int .u32 0, .int .u16 0, .int .u16 0] KN.out HIR.out HZR.out HO.out ?_))
  intro w2 hx hk
  have K2 := Lib.hid hk
  have HR2 := Lib.hid (And.intro (HRb.out.1.kx hx.out (fun k _ hf e => by subst e; exact HNN.out.1 hf)) (HRb.out.2.own hx.out HNN.out.2.1))
  have K1c := Lib.hid (hx.out.heap K1b.out (by have := HNN.out.2.2; omega))
  clear hx hk KN HBN HRb K1b HRa K0a K1a
  generalize w1.heap.size = b11 at K2 HNN ⊢
  go_wp2_with (first | go_skip | (refine wpList_load_row rfl 68 _ rfl b11 rfl 68 rr (0, 0) _ K2.out Tryd.underlying68 rfl HIR.out ?_) | (refine wpList_store_to rfl 68 _ _ rfl (w.heap.size + 1) rr rfl rfl 68 #[.int .i64 0, .int .u32 0, .int .u32 0, .int .u32 0, .int .u16 0, .int .u16 0] K1c.out HIR.out HZR.out HO.out ?_))
  intro w3 hx hk
  have HRF := Lib.hid (And.intro (HR2.out.1.kx hx.out (fun k _ hf e => by subst e; exact HXa.out.2 hf)) (HR2.out.2.own hx.out (by omega)))
  go_wp2_with fail
  exact bodyPost_ret (v := .tuple #[.agg rr, .int .i64 h, .slice none 0 0, .bool false, (.iface 104 (.int .i64 n))]) (results_cell_tmp4 Tryd.results42 _ _ (w.heap.size + 1) 68 rr (0, 0) _ rfl hk Tryd.underlying68 rfl HIR.out) rfl ⟨_, F1, rfl, HRF.out.1, HRF.out.2, World.ownsRow_nil _ _ _ _, fun b hb => by simp [Value.ownBlock] at hb⟩
set_option maxRecDepth 100000 in
set_option maxHeartbeats 4000000 in
theorem chain0_walk {g : Nat} {m : Mm} {F : Nat → Prop} {w : World} (c rr : Array Value) (l : List Value) (h : Int) (R : Option (List Sg)) (ev : Value) (hq : errV (if R.isSome then 0 else 22) = ev) (hri : RamIs w g m F) (hll : l.length = 6) (hl : ∀ (j : Nat) v, l[j]? = some v → c[8 + j]? = some v) (hrz : rr.size = 6) (hone : rr.all (·.oneCell') = true)
    (HN : Hid (∀ W F', RamIs W g m F' → MemStep F F' w W → Calls Tryd.prog 78 #[.agg l.toArray, .pointer (some ⟨g, 0, none⟩)] W fun e w' => ∃ F2, e = .returned (.tuple #[.agg rr, .int .i64 h, .bool true, .nilIface]) ∧ RamIs w' g m F2 ∧ MemStep F' F2 W w'))
    (HW : Hid (∀ W F', RamIs W g m F' → MemStep F F' w W → Calls Tryd.prog 79 #[.agg rr, .pointer (some ⟨g, 0, none⟩), .int .i64 h] W (WalkPost W g m F' R))) :
    Calls Tryd.prog 42 #[.agg c, .int .i64 0, .pointer (some ⟨g, 0, none⟩)] w (ChainPost w g m F rr h (R.getD []) true ev) := by
  obtain ⟨k0, k1, hb0⟩ := two_new w (.cells c 75) (.cells #[.int .i64 0, .int .u32 0, .int .u32 0, .int .u32 0, .int .u16 0, .int .u16 0] 68)
  have K0 := Lib.hid k0
  have K1 := Lib.hid k1
  have HF := Lib.hid hri.lt
  have HR0 := Lib.hid (And.intro (hri.below hb0) (MemStep.of_below (F := F) hb0))
  have hn0 : ¬ F w.heap.size := fun hf => absurd (HF.out _ hf) (Nat.lt_irrefl _)
  have hn1 : ¬ F (w.heap.size + 1) := fun hf => by have := HF.out _ hf; omega
  have HX := Lib.hid (And.intro hn0 hn1)
  have HRG := Lib.hid (range_of_row k0 8 l hl)
  have HI := Lib.hid (show (Tryd.prog.info? 68).map (·.size) = some l.length by rw [hll]; kernel_rfl)
  have HIR := Lib.hid (show (Tryd.prog.info? 68).map (·.size) = some rr.size by rw [hrz]; kernel_rfl)
  have HZR := Lib.hid (show (#[.int .i64 0, .int .u32 0, .int .u32 0, .int .u32 0, .int .u16 0, .int .u16 0] : Array Value).size = rr.size by rw [hrz]; rfl)
  have HO := Lib.hid hone
  have HN1 := Lib.hid (HN.out _ F HR0.out.1 HR0.out.2)
  clear k0 k1 hb0 hri hn0 hn1 hll hl hrz hone HN
  go_enter Tryd.func42, Tryd.ntmps42
  go_wp2_with (first | go_skip | (refine load_midW rfl 68 _ rfl w.heap.size 8 rfl l _ HRG.out Tryd.underlying68 rfl HI.out ?_))
  refine (HN1.out).mono ?_
  rintro e w1 ⟨F1, rfl, h1, h2⟩
  have K0a := Lib.hid (h2.heap K0.out HX.out.1)
  have K1a := Lib.hid (h2.heap K1.out HX.out.2)
  have HXa := Lib.hid (And.intro (h2.off (lt_heap K0.out) HX.out.1) (h2.off (lt_heap K1.out) HX.out.2))
  have HRa := Lib.hid (And.intro h1 (HR0.out.2.trans h2))
  clear h1 h2 HN1 HR0 K0 K1 HX HRG
  have KN := Lib.hid (heap_alloc_new w1 (.cells #[.int .i64 0, .int .u32 0, .int .u32 0, .int .u32 0, .int .u16 0, .int .u16 0] 68))
  have HBN := Lib.hid ((Below.refl w1.heap.size w1).alloc (Nat.le_refl _) (.cells #[.int .i64 0, .int .u32 0, .int .u32 0, .int .u32 0, .int .u16 0, .int .u16 0] 68))
  have HRb := Lib.hid (And.intro (HRa.out.1.below HBN.out) (HRa.out.2.below HBN.out))
  have K1b := Lib.hid (keepB K1a.out HBN.out)
  have HNN := Lib.hid (And.intro (show ¬ F1 w1.heap.size from fun hf => absurd (HRa.out.1.lt _ hf) (Nat.lt_irrefl _)) (And.intro HRa.out.2.kx.size (lt_heap K1a.out)))
  go_wp2_with (first | go_skip | (refine wpList_store_to rfl 68 _ _ rfl w1.heap.size rr rfl rfl 68 #[.int .i64 0, .int .u32 0, .int .u32 0, .int .u32 0, .int .u16 0, .int .u16 0] KN.out HIR.out HZR.out HO.out ?_))
  intro w2 hx hk
  have K2 := Lib.hid hk
  have HR2 := Lib.hid (And.intro (HRb.out.1.kx hx.out (fun k _ hf e => by subst e; exact HNN.out.1 hf)) (HRb.out.2.own hx.out HNN.out.2.1))
  have K1c := Lib.hid (hx.out.heap K1b.out (by have := HNN.out.2.2; omega))
  clear hx hk KN HBN HRb K1b HRa K0a K1a
  generalize w1.heap.size = b11 at K2 HNN ⊢
  have HW1 := Lib.hid (HW.out w2 F1 HR2.out.1 HR2.out.2)
  have HB11 := Lib.hid (And.intro HNN.out.1 (lt_heap K2.out))
  clear HW
  unfold WalkPost at HW1
  rw [hq] at HW1
  clear hq
  go_wp2_with (first | go_skip | (refine wpList_load_row rfl 68 _ rfl b11 rfl 68 rr (0, 0) _ K2.out Tryd.underlying68 rfl HIR.out ?_))
  refine (HW1.out).mono ?_
  rintro e w3 ⟨v, F3, rfl, h1, h2, h3, h4⟩
  have K3 := Lib.hid (h2.heap K2.out HB11.out.1)
  have K1d := Lib.hid (h2.heap K1c.out HXa.out.2)
  have HX3 := Lib.hid (h2.off (lt_heap K1c.out) HXa.out.2)
  have HR3 := Lib.hid (And.intro h1 (HR2.out.2.trans h2))
  have HOW := Lib.hid (ownsRow_lower h3 HR2.out.2.kx.size)
  have HLT := Lib.hid (fun q hq => (ownsRow_lt h3 (b := q) hq).1)
  have HLL := Lib.hid (lt_heap K1c.out)
  have HFV := Lib.hid h4
  clear h1 h2 h3 h4 HW1 K2 K1c HR2
  go_wp2_with (first | go_skip | (refine wpList_load_row rfl 68 _ rfl b11 rfl 68 rr (0, 0) _ K3.out Tryd.underlying68 rfl HIR.out ?_) | (refine wpList_store_to rfl 68 _ _ rfl (w.heap.size + 1) rr rfl rfl 68 #[.int .i64 0, .int .u32 0, .int .u32 0, .int .u32 0, .int .u16 0, .int .u16 0] K1d.out HIR.out HZR.out HO.out ?_))
  intro w4 hx hk
  have HRF := Lib.hid (And.intro (HR3.out.1.kx hx.out (fun k _ hf e => by subst e; exact HX3.out hf)) (HR3.out.2.own hx.out (by omega)))
  have HOF := Lib.hid (ownsRow_keep HOW.out (fun q hq => hx.out.block q (ownsRow_lt HOW.out hq).2 (by have := HLT.out q hq; have := HLL.out; omega)))
  go_wp2_with fail
  exact bodyPost_ret (v := .tuple #[.agg rr, .int .i64 h, v, .bool true, ev]) (results_cell_tmp4 Tryd.results42 _ _ (w.heap.size + 1) 68 rr (0, 0) _ rfl hk Tryd.underlying68 rfl HIR.out) rfl ⟨v, F3, rfl, HRF.out.1, HRF.out.2, HOF.out, HFV.out⟩
set_option maxRecDepth 100000 in
set_option maxHeartbeats 4000000 in
theorem chain1_none {g : Nat} {m : Mm} {F : Nat → Prop} {w : World} (c rr : Array Value) (l : List Value) (h : Int) (hri : RamIs w g m F) (hll : l.length = 6) (hl : ∀ (j : Nat) v, l[j]? = some v → c[15 + j]? = some v) (hrz : rr.size = 6) (hone : rr.all (·.oneCell') = true)
    (HN : Hid (∀ W F', RamIs W g m F' → MemStep F F' w W → Calls Tryd.prog 78 #[.agg l.toArray, .pointer (some ⟨g, 0, none⟩)] W fun e w' => ∃ F2, e = .returned (.tuple #[.agg rr, .int .i64 h, .bool false, .nilIface]) ∧ RamIs w' g m F2 ∧ MemStep F' F2 W w')) :
    Calls Tryd.prog 42 #[.agg c, .int .i64 1, .pointer (some ⟨g, 0, none⟩)] w (ChainPost w g m F rr h [] false .nilIface) := by
  obtain ⟨k0, k1, hb0⟩ := two_new w (.cells c 75) (.cells #[.int .i64 0, .int .u32 0, .int .u32 0, .int .u32 0, .int .u16 0, .int .u16 0] 68)
  have K0 := Lib.hid k0
  have K1 := Lib.hid k1
  have HF := Lib.hid hri.lt
  have HR0 := Lib.hid (And.intro (hri.below hb0) (MemStep.of_below (F := F) hb0))
  have hn0 : ¬ F w.heap.size := fun hf => absurd (HF.out _ hf) (Nat.lt_irrefl _)
  have hn1 : ¬ F (w.heap.size + 1) := fun hf => by have := HF.out _ hf; omega
  have HX := Lib.hid (And.intro hn0 hn1)
  have HRG := Lib.hid (range_of_row k0 15 l hl)
  have HI := Lib.hid (show (Tryd.prog.info? 68).map (·.size) = some l.length by rw [hll]; kernel_rfl)
  have HIR := Lib.hid (show (Tryd.prog.info? 68).map (·.size) = some rr.size by rw [hrz]; kernel_rfl)
  have HZR := Lib.hid (show (#[.int .i64 0, .int .u32 0, .int .u32 0, .int .u32 0, .int .u16 0, .int .u16 0] : Array Value).size = rr.size by rw [hrz]; rfl)
  have HO := Lib.hid hone
  have HN1 := Lib.hid (HN.out _ F HR0.out.1 HR0.out.2)
  clear k0 k1 hb0 hri hn0 hn1 hll hl hrz hone HN
  go_enter Tryd.func42, Tryd.ntmps42
  go_wp2_with (first | go_skip | (refine load_midW rfl 68 _ rfl w.heap.size 15 rfl l _ HRG.out Tryd.underlying68 rfl HI.out ?_))
  refine (HN1.out).mono ?_
  rintro e w1 ⟨F1, rfl, h1, h2⟩
  have K0a := Lib.hid (h2.heap K0.out HX.out.1)
  have K1a := Lib.hid (h2.heap K1.out HX.out.2)
  have HXa := Lib.hid (And.intro (h2.off (lt_heap K0.out) HX.out.1) (h2.off (lt_heap K1.out) HX.out.2))
  have HRa := Lib.hid (And.intro h1 (HR0.out.2.trans h2))
  clear h1 h2 HN1 HR0 K0 K1 HX HRG
  have KN := Lib.hid (heap_alloc_new w1 (.cells #[.int .i64 0, .int .u32 0, .int .u32 0, .int .u32 0, .int .u16 0, .int .u16 0] 68))
  have HBN := Lib.hid ((Below.refl w1.heap.size w1).alloc (Nat.le_refl _) (.cells #[.int .i64 0, .int .u32 0, .int .u32 0, .int .u32 0, .int .u16 0, .int .u16 0] 68))
  have HRb := Lib.hid (And.intro (HRa.out.1.below HBN.out) (HRa.out.2.below HBN.out))
  have K1b := Lib.hid (keepB K1a.out HBN.out)
  have HNN := Lib.hid (And.intro (show ¬ F1 w1.heap.size from fun hf => absurd (HRa.out.1.lt _ hf) (Nat.lt_irrefl _)) (And.intro HRa.out.2.kx.size (lt_heap K1a.out)))
  go_wp2_with (first | go_skip | (refine wpList_store_to rfl 68 _ _ rfl w1.heap.size rr rfl rfl 68 #[.int .i64 0, .int .u32 0, .int .u32 0, .int .u32 0, .int .u16 0, .int .u16 0] KN.out HIR.out HZR.out HO.out ?_))
  intro w2 hx hk
  have K2 := Lib.hid hk
  have HR2 := Lib.hid (And.intro (HRb.out.1.kx hx.out (fun k _ hf e => by subst e; exact HNN.out.1 hf)) (HRb.out.2.own hx.out HNN.out.2.1))
  have K1c := Lib.hid (hx.out.heap K1b.out (by have := HNN.out.2.2; omega))
  clear hx hk KN HBN HRb K1b HRa K0a K1a
  generalize w1.heap.size = b11 at K2 HNN ⊢
  go_wp2_with (first | go_skip | (refine wpList_load_row rfl 68 _ rfl b11 rfl 68 rr (0, 0) _ K2.out Tryd.underlying68 rfl HIR.out ?_) | (refine wpList_store_to rfl 68 _ _ rfl (w.heap.size + 1) rr rfl rfl 68 #[.int .i64 0, .int .u32 0, .int .u32 0, .int .u32 0, .int .u16 0, .int .u16 0] K1c.out HIR.out HZR.out HO.out ?_))
  intro w3 hx hk
  have HRF := Lib.hid (And.intro (HR2.out.1.kx hx.out (fun k _ hf e => by subst e; exact HXa.out.2 hf)) (HR2.out.2.own hx.out (by omega)))
  go_wp2_with fail
  exact bodyPost_ret (v := .tuple #[.agg rr, .int .i64 h, .slice none 0 0, .bool false, .nilIface]) (results_cell_tmp4 Tryd.results42 _ _ (w.heap.size + 1) 68 rr (0, 0) _ rfl hk Tryd.underlying68 rfl HIR.out) rfl ⟨_, F1, rfl, HRF.out.1, HRF.out.2, World.ownsRow_nil _ _ _ _, fun b hb => by simp [Value.ownBlock] at hb⟩
set_option maxRecDepth 100000 in
set_option maxHeartbeats 4000000 in
theorem chain1_err {g : Nat} {m : Mm} {F : Nat → Prop} {w : World} (c rr : Array Value) (l : List Value) (h : Int) (n : Int) (hri : RamIs w g m F) (hll : l.length = 6) (hl : ∀ (j : Nat) v, l[j]? = some v → c[15 + j]? = some v) (hrz : rr.size = 6) (hone : rr.all (·.oneCell') = true)
    (HN : Hid (∀ W F', RamIs W g m F' → MemStep F F' w W → Calls Tryd.prog 78 #[.agg l.toArray, .pointer (some ⟨g, 0, none⟩)] W fun e w' => ∃ F2, e = .returned (.tuple #[.agg rr, .int .i64 h, .bool false, (.iface 104 (.int .i64 n))]) ∧ RamIs w' g m F2 ∧ MemStep F' F2 W w')) :
    Calls Tryd.prog 42 #[.agg c, .int .i64 1, .pointer (some ⟨g, 0, none⟩)] w (ChainPost w g m F rr h [] false (.iface 104 (.int .i64 n))) := by
  obtain ⟨k0, k1, hb0⟩ := two_new w (.cells c 75) (.cells #[.int .i64 0, .int .u32 0, .int .u32 0, .int .u32 0, .int .u16 0, .int .u16 0] 68)
  have K0 := Lib.hid k0
  have K1 := Lib.hid k1
  have HF := Lib.hid hri.lt
  have HR0 := Lib.hid (And.intro (hri.below hb0) (MemStep.of_below (F := F) hb0))
  have hn0 : ¬ F w.heap.size := fun hf => absurd (HF.out _ hf) (Nat.lt_irrefl _)
  have hn1 : ¬ F (w.heap.size + 1) := fun hf => by have := HF.out _ hf; omega
  have HX := Lib.hid (And.intro hn0 hn1)
  have HRG := Lib.hid (range_of_row k0 15 l hl)
  have HI := Lib.hid (show (Tryd.prog.info? 68).map (·.size) = some l.length by rw [hll]; kernel_rfl)
  have HIR := Lib.hid (show (Tryd.prog.info? 68).map (·.size) = some rr.size by rw [hrz]; kernel_rfl)
  have HZR := Lib.hid (show (#[.int .i64 0, .int .u32 0, .int .u32 0, .int .u32 0, .int .u16 0, .int .u16 0] : Array Value).size = rr.size by rw [hrz]; rfl)
  have HO := Lib.hid hone
  have HN1 := Lib.hid (HN.out _ F HR0.out.1 HR0.out.2)
  clear k0 k1 hb0 hri hn0 hn1 hll hl hrz hone HN
  go_enter Tryd.func42, Tryd.ntmps42
  go_wp2_with (first | go_skip | (refine load_midW rfl 68 _ rfl w.heap.size 15 rfl l _ HRG.out Tryd.underlying68 rfl HI.out ?_))
  refine (HN1.out).mono ?_
  rintro e w1 ⟨F1, rfl, h1, h2⟩
  have K0a := Lib.hid (h2.heap K0.out HX.out.1)
  have K1a := Lib.hid (h2.heap K1.out HX.out.2)
  have HXa := Lib.hid (And.intro (h2.off (lt_heap K0.out) HX.out.1) (h2.off (lt_heap K1.out) HX.out.2))
  have HRa := Lib.hid (And.intro h1 (HR0.out.2.trans h2))
  clear h1 h2 HN1 HR0 K0 K1 HX HRG
  have KN := Lib.hid (heap_alloc_new w1 (.cells #[.int .i64 0, .int .u32 0, .int .u32 0, .int .u32 0, .int .u16 0, .int .u16 0] 68))
  have HBN := Lib.hid ((Below.refl w1.heap.size w1).alloc (Nat.le_refl _) (.cells #[.int .i64 0, .int .u32 0, .int .u32 0, .int .u32 0, .int .u16 0, .int .u16 0] 68))
  have HRb := Lib.hid (And.intro (HRa.out.1.below HBN.out) (HRa.out.2.below HBN.out))
  have K1b := Lib.hid (keepB K1a.out HBN.out)
  have HNN := Lib.hid (And.intro (show ¬ F1 w1.heap.size from fun hf => absurd (HRa.out.1.lt _ hf) (Nat.lt_irrefl _)) (And.intro HRa.out.2.kx.size (lt_heap K1a.out)))
  go_wp2_with (first | go_skip | (refine wpList_store_to rfl 68 _ _ rfl w1.heap.size rr rfl rfl 68 #[.int .i64 0, .int .u32 0, .int .u32 0, .int .u32 0, .int .u16 0, .int .u16 0] KN.out HIR.out HZR.out HO.out ?_))
  intro w2 hx hk
  have K2 := Lib.hid hk
  have HR2 := Lib.hid (And.intro (HRb.out.1.kx hx.out (fun k _ hf e => by subst e; exact HNN.out.1 hf)) (HRb.out.2.own hx.out HNN.out.2.1))
  have K1c := Lib.hid (hx.out.heap K1b.out (by have := HNN.out.2.2; omega))
  clear hx hk KN HBN HRb K1b HRa K0a K1a
  generalize w1.heap.size = b11 at K2 HNN ⊢
  go_wp2_with (first | go_skip | (refine wpList_load_row rfl 68 _ rfl b11 rfl 68 rr (0, 0) _ K2.out Tryd.underlying68 rfl HIR.out ?_) | (refine wpList_store_to rfl 68 _ _ rfl (w.heap.size + 1) rr rfl rfl 68 #[.int .i64 0, .int .u32 0, .int .u32 0, .int .u32 0, .int .u16 0, .int .u16 0] K1c.out HIR.out HZR.out HO.out ?_))
  intro w3 hx hk
  have HRF := Lib.hid (And.intro (HR2.out.1.kx hx.out (fun k _ hf e => by subst e; exact HXa.out.2 hf)) (HR2.out.2.own hx.out (by omega)))
  go_wp2_with fail
  exact bodyPost_ret (v := .tuple #[.agg rr, .int .i64 h, .slice none 0 0, .bool false, (.iface 104 (.int .i64 n))]) (results_cell_tmp4 Tryd.results42 _ _ (w.heap.size + 1) 68 rr (0, 0) _ rfl hk Tryd.underlying68 rfl HIR.out) rfl ⟨_, F1, rfl, HRF.out.1, HRF.out.2, World.ownsRow_nil _ _ _ _, fun b hb => by simp [Value.ownBlock] at hb⟩
set_option maxRecDepth 100000 in
set_option maxHeartbeats 4000000 in
theorem chain1_walk {g : Nat} {m : Mm} {F : Nat → Prop} {w : World} (c rr : Array Value) (l : List Value) (h : Int) (R : Option (List Sg)) (ev : Value) (hq : errV (if R.isSome then 0 else 22) = ev) (hri : RamIs w g m F) (hll : l.length = 6) (hl : ∀ (j : Nat) v, l[j]? = some v → c[15 + j]? = some v) (hrz : rr.size = 6) (hone : rr.all (·.oneCell') = true)
    (HN : Hid (∀ W F', RamIs W g m F' → MemStep F F' w W → Calls Tryd.prog 78 #[.agg l.toArray, .pointer (some ⟨g, 0, none⟩)] W fun e w' => ∃ F2, e = .returned (.tuple #[.agg rr, .int .i64 h, .bool true, .nilIface]) ∧ RamIs w' g m F2 ∧ MemStep F' F2 W w'))
    (HW : Hid (∀ W F', RamIs W g m F' → MemStep F F' w W → Calls Tryd.prog 79 #[.agg rr, .pointer (some ⟨g, 0, none⟩), .int .i64 h] W (WalkPost W g m F' R))) :
    Calls Tryd.prog 42 #[.agg c, .int .i64 1, .pointer (some ⟨g, 0, none⟩)] w (ChainPost w g m F rr h (R.getD []) true ev) := by
  obtain ⟨k0, k1, hb0⟩ := two_new w (.cells c 75) (.cells #[.int .i64 0, .int .u32 0, .int .u32 0, .int .u32 0, .int .u16 0, .int .u16 0] 68)
  have K0 := Lib.hid k0
  have K1 := Lib.hid k1
  have HF := Lib.hid hri.lt
  have HR0 := Lib.hid (And.intro (hri.below hb0) (MemStep.of_below (F := F) hb0))
  have hn0 : ¬ F w.heap.size := fun hf => absurd (HF.out _ hf) (Nat.lt_irrefl _)
  have hn1 : ¬ F (w.heap.size + 1) := fun hf => by have := HF.out _ hf; omega
  have HX := Lib.hid (And.intro hn0 hn1)
  have HRG := Lib.hid (range_of_row k0 15 l hl)
  have HI := Lib.hid (show (Tryd.prog.info? 68).map (·.size) = some l.length by rw [hll]; kernel_rfl)
  have HIR := Lib.hid (show (Tryd.prog.info? 68).map (·.size) = some rr.size by rw [hrz]; kernel_rfl)
  have HZR := Lib.hid (show (#[.int .i64 0, .int .u32 0, .int .u32 0, .int .u32 0, .int .u16 0, .int .u16 0] : Array Value).size = rr.size by rw [hrz]; rfl)
  have HO := Lib.hid hone
  have HN1 := Lib.hid (HN.out _ F HR0.out.1 HR0.out.2)
  clear k0 k1 hb0 hri hn0 hn1 hll hl hrz hone HN
  go_enter Tryd.func42, Tryd.ntmps42
  go_wp2_with (first | go_skip | (refine load_midW rfl 68 _ rfl w.heap.size 15 rfl l _ HRG.out Tryd.underlying68 rfl HI.out ?_))
  refine (HN1.out).mono ?_
  rintro e w1 ⟨F1, rfl, h1, h2⟩
  have K0a := Lib.hid (h2.heap K0.out HX.out.1)
  have K1a := Lib.hid (h2.heap K1.out HX.out.2)
  have HXa := Lib.hid (And.intro (h2.off (lt_heap K0.out) HX.out.1) (h2.off (lt_heap K1.out) HX.out.2))
  have HRa := Lib.hid (And.intro h1 (HR0.out.2.trans h2))
  clear h1 h2 HN1 HR0 K0 K1 HX HRG
  have KN := Lib.hid (heap_alloc_new w1 (.cells #[.int .i64 0, .int .u32 0, .int .u32 0, .int .u32 0, .int .u16 0, .int .u16 0] 68))
  have HBN := Lib.hid ((Below.refl w1.heap.size w1).alloc (Nat.le_refl _) (.cells #[.int .i64 0, .int .u32 0, .int .u32 0, .int .u32 0, .int .u16 0, .int .u16 0] 68))
  have HRb := Lib.hid (And.intro (HRa.out.1.below HBN.out) (HRa.out.2.below HBN.out))
  have K1b := Lib.hid (keepB K1a.out HBN.out)
  have HNN := Lib.hid (And.intro (show ¬ F1 w1.heap.size from fun hf => absurd (HRa.out.1.lt _ hf) (Nat.lt_irrefl _)) (And.intro HRa.out.2.kx.size (lt_heap K1a.out)))
  go_wp2_with (first | go_skip | (refine wpList_store_to rfl 68 _ _ rfl w1.heap.size rr rfl rfl 68 #[.int .i64 0, .int .u32 0, .int .u32 0, .int .u32 0, .int .u16 0, .int .u16 0] KN.out HIR.out HZR.out HO.out ?_))
  intro w2 hx hk
  have K2 := Lib.hid hk
  have HR2 := Lib.hid (And.intro (HRb.out.1.kx hx.out (fun k _ hf e => by subst e; exact HNN.out.1 hf)) (HRb.out.2.own hx.out HNN.out.2.1))
  have K1c := Lib.hid (hx.out.heap K1b.out (by have := HNN.out.2.2; omega))
  clear hx hk KN HBN HRb K1b HRa K0a K1a
  generalize w1.heap.size = b11 at K2 HNN ⊢
  have HW1 := Lib.hid (HW.out w2 F1 HR2.out.1 HR2.out.2)
  have HB11 := Lib.hid (And.intro HNN.out.1 (lt_heap K2.out))
  clear HW
  unfold WalkPost at HW1
  rw [hq] at HW1
  clear hq
  go_wp2_with (first | go_skip | (refine wpList_load_row rfl 68 _ rfl b11 rfl 68 rr (0, 0) _ K2.out Tryd.underlying68 rfl HIR.out ?_))
  refine (HW1.out).mono ?_
  rintro e w3 ⟨v, F3, rfl, h1, h2, h3, h4⟩
  have K3 := Lib.hid (h2.heap K2.out HB11.out.1)
  have K1d := Lib.hid (h2.heap K1c.out HXa.out.2)
  have HX3 := Lib.hid (h2.off (lt_heap K1c.out) HXa.out.2)
  have HR3 := Lib.hid (And.intro h1 (HR2.out.2.trans h2))
  have HOW := Lib.hid (ownsRow_lower h3 HR2.out.2.kx.size)
  have HLT := Lib.hid (fun q hq => (ownsRow_lt h3 (b := q) hq).1)
  have HLL := Lib.hid (lt_heap K1c.out)
  have HFV := Lib.hid h4
  clear h1 h2 h3 h4 HW1 K2 K1c HR2
  go_wp2_with (first | go_skip | (refine wpList_load_row rfl 68 _ rfl b11 rfl 68 rr (0, 0) _ K3.out Tryd.underlying68 rfl HIR.out ?_) | (refine wpList_store_to rfl 68 _ _ rfl (w.heap.size + 1) rr rfl rfl 68 #[.int .i64 0, .int .u32 0, .int .u32 0, .int .u32 0, .int .u16 0, .int .u16 0] K1d.out HIR.out HZR.out HO.out ?_))
  intro w4 hx hk
  have HRF := Lib.hid (And.intro (HR3.out.1.kx hx.out (fun k _ hf e => by subst e; exact HX3.out hf)) (HR3.out.2.own hx.out (by omega)))
  have HOF := Lib.hid (ownsRow_keep HOW.out (fun q hq => hx.out.block q (ownsRow_lt HOW.out hq).2 (by have := HLT.out q hq; have := HLL.out; omega)))
  go_wp2_with fail
  exact bodyPost_ret (v := .tuple #[.agg rr, .int .i64 h, v, .bool true, ev]) (results_cell_tmp4 Tryd.results42 _ _ (w.heap.size + 1) 68 rr (0, 0) _ rfl hk Tryd.underlying68 rfl HIR.out) rfl ⟨v, F3, rfl, HRF.out.1, HRF.out.2, HOF.out, HFV.out⟩
end Go.Proofs.YtcmbnkmbaghkdaaDoor
