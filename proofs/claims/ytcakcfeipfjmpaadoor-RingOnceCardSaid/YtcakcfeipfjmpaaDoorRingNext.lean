/-
ring.Next, walked where it does not fail.
Condition: the table of regions of package bus reads as its text lays it.
-/
import Derived.Test.YtcakcfeipfjmpaaDoorRing
import Derived.Test.YtcakcfeipfjmpaaDoorRowAuto
import Derived.Deep.RegionHeld
namespace Go.Proofs.YtcakcfeipfjmpaaDoor
open Go.RowKit
set_option linter.unusedVariables false

theorem results_cell_tmp3 {P : Program} {fn : Func} {p a b c : Tmp} {ty : TypeId} (h : fn.results = #[.cell p ty, .tmp a, .tmp b, .tmp c]) (tmps : Array Value) (w : World) (g : Nat) (t : TypeId) (cs : Array Value) (fr : Nat × Nat) (d : TypeDesc)
    (hp : tmps.getD p undef = .pointer (some ⟨g, 0, none⟩)) (hg : w.heap[g]? = some (.cells cs t fr))
    (hu : P.underlying ty = some d) (hd : (match d with | .struct _ | .array _ _ => true | _ => false) = true) (hi : (P.info? ty).map (·.size) = some cs.size) :
    (results fn tmps).run P w = .ok (.tuple #[.agg cs, tmps.getD a undef, tmps.getD b undef, tmps.getD c undef]) w := by
  have hp' : tmps[p]?.getD undef = .pointer (some ⟨g, 0, none⟩) := by simpa using hp
  simp [results, h, hp', asAddr, run_loadVar_row w g t ty cs fr d hg hu hd hi]

set_option maxRecDepth 100000 in
set_option maxHeartbeats 8000000 in
theorem ring_Next_none {g : Nat} {m : Mm} {F : Nat → Prop} {w : World} (size de av us la pu c : Nat) (h : RamIs w g m F) (hs1 : 1 ≤ size) (hs2 : size ≤ 256) (hla : la < 65536) (hc : c < 65536)
    (HC : Hid (∀ W, Calls Tryd.prog 71 #[.agg #[.int .i64 size, .int .u32 de, .int .u32 av, .int .u32 us, .int .u16 la, .int .u16 pu], .pointer (some ⟨g, 0, none⟩)] W fun e w' => e = .returned .nilIface ∧ Below W.heap.size W w'))
    (HL : Hid (∀ W F', RamIs W g m F' → Below w.heap.size w W ∨ True → MemStep F F' w W → Calls Tryd.prog 72 #[.pointer (some ⟨g, 0, none⟩), .int .u32 (((av : Int) + 2) % 4294967296), .int .i64 2] W fun e w' => ∃ F2, e = .returned (.tuple #[.int .u32 c, .nilIface]) ∧ RamIs w' g m F2 ∧ MemStep F' F2 W w')) (he : la = c) :
    Calls Tryd.prog 22 #[.agg #[.int .i64 size, .int .u32 de, .int .u32 av, .int .u32 us, .int .u16 la, .int .u16 pu], .pointer (some ⟨g, 0, none⟩)] w fun e w' => ∃ F2, e = .returned (.tuple #[.agg #[.int .i64 size, .int .u32 de, .int .u32 av, .int .u32 us, .int .u16 la, .int .u16 pu], .int .i64 0, .bool false, .nilIface]) ∧ RamIs w' g m F2 ∧ MemStep F F2 w w' := by
  have HF := Lib.hid h.lt
  have hla0 : (0 : Int) ≤ (la : Int) := by omega
  have hc0 : (0 : Int) ≤ (c : Int) := by omega
  have hcm : (c : Int) % 65536 = (c : Int) := by omega
  have hsz1 : (1 : Int) ≤ (size : Int) := by omega
  have hsz2 : (size : Int) ≤ 256 := by omega
  have heq : ((c : Int) == (la : Int)) = true := by rw [he]; exact beq_self_eq_true _
  clear he
  obtain ⟨k0, k1, hb0⟩ := two_new w (.cells #[.int .i64 size, .int .u32 de, .int .u32 av, .int .u32 us, .int .u16 la, .int .u16 pu] 53) (.cells #[.int .i64 0, .int .u32 0, .int .u32 0, .int .u32 0, .int .u16 0, .int .u16 0] 53)
  have K0 := Lib.hid k0
  have K1 := Lib.hid k1
  have HR0 := Lib.hid (And.intro (h.below hb0) (MemStep.of_below (F := F) hb0))
  have hn0 : ¬ F w.heap.size := fun hf => absurd (HF.out _ hf) (Nat.lt_irrefl _)
  have hn1 : ¬ F (w.heap.size + 1) := fun hf => by have := HF.out _ hf; omega
  have HN := Lib.hid (And.intro hn0 hn1)
  clear k0 k1 hb0 h hn0 hn1 hs1 hs2 hla hc
  go_enter Tryd.func22, Tryd.ntmps22
  go_wp2_with fail
  refine (HC.out _).mono ?_
  rintro e w1 ⟨rfl, hb⟩
  have K2 := Lib.hid (keepB K0.out hb)
  have K3 := Lib.hid (keepB K1.out hb)
  have HR1 := Lib.hid (And.intro (HR0.out.1.below hb) (HR0.out.2.below hb))
  clear hb K0 K1 HR0 HC
  have HL1 := Lib.hid (HL.out w1 F HR1.out.1 (.inr trivial) HR1.out.2)
  have c2 := (cell_of_row _ _ 2 _ _ _ K2.out).trans (rfl : _ = some (.int .u32 av : Value))
  go_wp2_with fail
  refine (HL1.out).mono ?_
  rintro e w2 ⟨F2, rfl, h1, h2⟩
  have K4 := Lib.hid (h2.heap K2.out HN.out.1)
  have K5 := Lib.hid (h2.heap K3.out HN.out.2)
  have HN2 := Lib.hid (And.intro (h2.off (lt_heap K2.out) HN.out.1) (h2.off (lt_heap K3.out) HN.out.2))
  have HR2 := Lib.hid (And.intro h1 (HR1.out.2.trans h2))
  clear h1 h2 HL1 c2 K2 K3 HR1
  have c4 := (cell_of_row _ _ 4 _ _ _ K4.out).trans (rfl : _ = some (.int .u16 la : Value))
  have c0 := (cell_of_row _ _ 0 _ _ _ K4.out).trans (rfl : _ = some (.int .i64 size : Value))
  have HO := Lib.hid (show (#[.int .i64 size, .int .u32 de, .int .u32 av, .int .u32 us, .int .u16 la, .int .u16 pu] : Array Value).all (·.oneCell') = true by simp [Value.oneCell'])
  go_wp2_with (first | go_skip | (refine wpList_load_row rfl 53 _ rfl w.heap.size rfl 53 #[.int .i64 size, .int .u32 de, .int .u32 av, .int .u32 us, .int .u16 la, .int .u16 pu] (0, 0) _ K4.out Tryd.underlying53 rfl (by kernel_rfl) ?_) | (refine wpList_store_to rfl 53 _ _ rfl (w.heap.size + 1) #[.int .i64 size, .int .u32 de, .int .u32 av, .int .u32 us, .int .u16 la, .int .u16 pu] rfl rfl 53 #[.int .i64 0, .int .u32 0, .int .u32 0, .int .u32 0, .int .u16 0, .int .u16 0] K5.out (by kernel_rfl) rfl HO.out ?_))
  intro w20 hx hk
  have HRF := Lib.hid (And.intro (HR2.out.1.kx hx.out (fun k _ hf e => by subst e; exact HN2.out.2 hf)) (HR2.out.2.own hx.out (by omega)))
  go_wp2_with fail
  exact bodyPost_ret (v := .tuple #[.agg #[.int .i64 size, .int .u32 de, .int .u32 av, .int .u32 us, .int .u16 la, .int .u16 pu], .int .i64 0, .bool false, .nilIface]) (results_cell_tmp3 Tryd.results22 _ _ (w.heap.size + 1) 53 #[.int .i64 size, .int .u32 de, .int .u32 av, .int .u32 us, .int .u16 la, .int .u16 pu] (0, 0) _ rfl hk Tryd.underlying53 rfl (by kernel_rfl)) rfl ⟨F2, rfl, HRF.out.1, HRF.out.2⟩
set_option maxRecDepth 100000 in
set_option maxHeartbeats 8000000 in
theorem ring_Next_some {g : Nat} {m : Mm} {F : Nat → Prop} {w : World} (size de av us la pu c : Nat) (h : RamIs w g m F) (hs1 : 1 ≤ size) (hs2 : size ≤ 256) (hla : la < 65536) (hc : c < 65536)
    (HC : Hid (∀ W, Calls Tryd.prog 71 #[.agg #[.int .i64 size, .int .u32 de, .int .u32 av, .int .u32 us, .int .u16 la, .int .u16 pu], .pointer (some ⟨g, 0, none⟩)] W fun e w' => e = .returned .nilIface ∧ Below W.heap.size W w'))
    (HL : Hid (∀ W F', RamIs W g m F' → Below w.heap.size w W ∨ True → MemStep F F' w W → Calls Tryd.prog 72 #[.pointer (some ⟨g, 0, none⟩), .int .u32 (((av : Int) + 2) % 4294967296), .int .i64 2] W fun e w' => ∃ F2, e = .returned (.tuple #[.int .u32 c, .nilIface]) ∧ RamIs w' g m F2 ∧ MemStep F' F2 W w')) (hd : Nat) (hne : ¬ c = la) (dd : Nat) (hdd : ((c : Int) - (la : Int)) % 65536 = (dd : Int)) (hah : dd ≤ size) (hdl : hd < size) (a2 : Int) (HARG : Hid (IntKind.u32.wrap (IntKind.u32.wrap ((av : Int) + 4) + IntKind.u32.wrap (2 * IntKind.u32.wrap ((IntKind.i64.wrap (la : Int)).tmod (size : Int)))) = a2))
    (HL2 : Hid (∀ W F', RamIs W g m F' → MemStep F F' w W → Calls Tryd.prog 72 #[.pointer (some ⟨g, 0, none⟩), .int .u32 a2, .int .i64 2] W fun e w' => ∃ F2, e = .returned (.tuple #[.int .u32 hd, .nilIface]) ∧ RamIs w' g m F2 ∧ MemStep F' F2 W w')) :
    Calls Tryd.prog 22 #[.agg #[.int .i64 size, .int .u32 de, .int .u32 av, .int .u32 us, .int .u16 la, .int .u16 pu], .pointer (some ⟨g, 0, none⟩)] w fun e w' => ∃ F2, e = .returned (.tuple #[.agg #[.int .i64 size, .int .u32 de, .int .u32 av, .int .u32 us, .int .u16 (IntKind.u16.wrap ((la : Int) + 1)), .int .u16 pu], .int .i64 hd, .bool true, .nilIface]) ∧ RamIs w' g m F2 ∧ MemStep F F2 w w' := by
  have HF := Lib.hid h.lt
  have hla0 : (0 : Int) ≤ (la : Int) := by omega
  have hc0 : (0 : Int) ≤ (c : Int) := by omega
  have hcm : (c : Int) % 65536 = (c : Int) := by omega
  have hsz1 : (1 : Int) ≤ (size : Int) := by omega
  have hsz2 : (size : Int) ≤ 256 := by omega
  have hne2 : ((c : Int) == (la : Int)) = false := by simp; omega
  have hddw : wrap64 (IntKind.u16.wrap ((c : Int) - (la : Int))) = (dd : Int) := by rw [IntKind.wrap_u16, hdd]; unfold wrap64; omega
  clear hdd
  have hah2 : ¬ (size : Int) < (dd : Int) := by omega
  have hdd0 : (0 : Int) ≤ (dd : Int) := by omega
  have hdd1 : (dd : Int) ≤ 256 := by omega
  have hsz0 : ¬ size = 0 := by omega
  have hd0 : (0 : Int) ≤ (hd : Int) := by omega
  have hd1 : (hd : Int) < (size : Int) := by omega
  clear hne hah hdl
  obtain ⟨k0, k1, hb0⟩ := two_new w (.cells #[.int .i64 size, .int .u32 de, .int .u32 av, .int .u32 us, .int .u16 la, .int .u16 pu] 53) (.cells #[.int .i64 0, .int .u32 0, .int .u32 0, .int .u32 0, .int .u16 0, .int .u16 0] 53)
  have K0 := Lib.hid k0
  have K1 := Lib.hid k1
  have HR0 := Lib.hid (And.intro (h.below hb0) (MemStep.of_below (F := F) hb0))
  have hn0 : ¬ F w.heap.size := fun hf => absurd (HF.out _ hf) (Nat.lt_irrefl _)
  have hn1 : ¬ F (w.heap.size + 1) := fun hf => by have := HF.out _ hf; omega
  have HN := Lib.hid (And.intro hn0 hn1)
  clear k0 k1 hb0 h hn0 hn1 hs1 hs2 hla hc
  go_enter Tryd.func22, Tryd.ntmps22
  go_wp2_with fail
  refine (HC.out _).mono ?_
  rintro e w1 ⟨rfl, hb⟩
  have K2 := Lib.hid (keepB K0.out hb)
  have K3 := Lib.hid (keepB K1.out hb)
  have HR1 := Lib.hid (And.intro (HR0.out.1.below hb) (HR0.out.2.below hb))
  clear hb K0 K1 HR0 HC
  have HL1 := Lib.hid (HL.out w1 F HR1.out.1 (.inr trivial) HR1.out.2)
  have c2 := (cell_of_row _ _ 2 _ _ _ K2.out).trans (rfl : _ = some (.int .u32 av : Value))
  go_wp2_with fail
  refine (HL1.out).mono ?_
  rintro e w2 ⟨F2, rfl, h1, h2⟩
  have K4 := Lib.hid (h2.heap K2.out HN.out.1)
  have K5 := Lib.hid (h2.heap K3.out HN.out.2)
  have HN2 := Lib.hid (And.intro (h2.off (lt_heap K2.out) HN.out.1) (h2.off (lt_heap K3.out) HN.out.2))
  have HR2 := Lib.hid (And.intro h1 (HR1.out.2.trans h2))
  clear h1 h2 HL1 c2 K2 K3 HR1
  have c4 := (cell_of_row _ _ 4 _ _ _ K4.out).trans (rfl : _ = some (.int .u16 la : Value))
  have c0 := (cell_of_row _ _ 0 _ _ _ K4.out).trans (rfl : _ = some (.int .i64 size : Value))
  go_upto_region 11 with fail
  clear c0 c4
  refine wp_region_held_drew (S := fun W => W.heap[w.heap.size]? = some (.cells #[.int .i64 size, .int .u32 de, .int .u32 av, .int .u32 us, .int .u16 la, .int .u16 pu] 53 (0, 0))) (by kernel_rfl) K4.out (fun hH0 => ?_)
  refine wpAnyH_take (i := 0) (v := ?v0) rfl (by kernel_rfl) (by kernel_rfl) (by kernel_rfl) (fun _ _ _ h => h) (Or.inl ⟨by rfl, ?hy0⟩) (by assumption) ?rest0
  case hy0 => (intro W hSw; go_simp; first | done | with_reducible rfl)
  simp only [Act.put, List.getElem_toArray, List.getElem_cons_zero, List.setIfInBounds_toArray, List.set_cons_zero, List.set_cons_succ]
  refine wpAnyH_take (i := 1) (v := ?v1) rfl (by kernel_rfl) (by kernel_rfl) (by kernel_rfl) (fun _ _ _ h => h) (Or.inl ⟨by rfl, ?hy1⟩) (by assumption) ?rest1
  case hy1 => (intro W hSw; go_simp; first | done | with_reducible rfl)
  simp only [Act.put, List.getElem_toArray, List.getElem_cons_zero, List.getElem_cons_succ, List.setIfInBounds_toArray, List.set_cons_zero, List.set_cons_succ]
  refine wpAnyH_take (i := 2) (v := ?v2) rfl (by kernel_rfl) (by kernel_rfl) (by kernel_rfl) (fun _ _ _ h => h) (Or.inl ⟨by rfl, ?hy2⟩) (by assumption) ?rest2
  case hy2 => (intro W hSw; have cj := (cell_of_row _ _ 2 _ _ _ hSw).trans (rfl : _ = some (.int .u32 av : Value)); go_simp; first | done | with_reducible rfl)
  simp only [Act.put, List.getElem_toArray, List.getElem_cons_zero, List.getElem_cons_succ, List.setIfInBounds_toArray, List.set_cons_zero, List.set_cons_succ]
  refine wpAnyH_take (i := 3) (v := ?v3) rfl (by kernel_rfl) (by kernel_rfl) (by kernel_rfl) (fun _ _ _ h => h) (Or.inl ⟨by rfl, ?hy3⟩) (by assumption) ?rest3
  case hy3 => (intro W hSw; go_simp; first | done | with_reducible rfl)
  simp only [Act.put, List.getElem_toArray, List.getElem_cons_zero, List.getElem_cons_succ, List.setIfInBounds_toArray, List.set_cons_zero, List.set_cons_succ]
  refine wpAnyH_take (i := 4) (v := ?v4) rfl (by kernel_rfl) (by kernel_rfl) (by kernel_rfl) (fun _ _ _ h => h) (Or.inl ⟨by rfl, ?hy4⟩) (by assumption) ?rest4
  case hy4 => (intro W hSw; go_simp; first | done | with_reducible rfl)
  simp only [Act.put, List.getElem_toArray, List.getElem_cons_zero, List.getElem_cons_succ, List.setIfInBounds_toArray, List.set_cons_zero, List.set_cons_succ]
  refine wpAnyH_take (i := 5) (v := ?v5) rfl (by kernel_rfl) (by kernel_rfl) (by kernel_rfl) (fun _ _ _ h => h) (Or.inl ⟨by rfl, ?hy5⟩) (by assumption) ?rest5
  case hy5 => (intro W hSw; have cj := (cell_of_row _ _ 4 _ _ _ hSw).trans (rfl : _ = some (.int .u16 la : Value)); go_simp; first | done | with_reducible rfl)
  simp only [Act.put, List.getElem_toArray, List.getElem_cons_zero, List.getElem_cons_succ, List.setIfInBounds_toArray, List.set_cons_zero, List.set_cons_succ]
  refine wpAnyH_take (i := 6) (v := ?v6) rfl (by kernel_rfl) (by kernel_rfl) (by kernel_rfl) (fun _ _ _ h => h) (Or.inl ⟨by rfl, ?hy6⟩) (by assumption) ?rest6
  case hy6 => (intro W hSw; go_simp; first | done | with_reducible rfl)
  simp only [Act.put, List.getElem_toArray, List.getElem_cons_zero, List.getElem_cons_succ, List.setIfInBounds_toArray, List.set_cons_zero, List.set_cons_succ]
  refine wpAnyH_take (i := 7) (v := ?v7) rfl (by kernel_rfl) (by kernel_rfl) (by kernel_rfl) (fun _ _ _ h => h) (Or.inl ⟨by rfl, ?hy7⟩) (by assumption) ?rest7
  case hy7 => (intro W hSw; go_simp; first | done | with_reducible rfl)
  simp only [Act.put, List.getElem_toArray, List.getElem_cons_zero, List.getElem_cons_succ, List.setIfInBounds_toArray, List.set_cons_zero, List.set_cons_succ]
  refine wpAnyH_take (i := 8) (v := ?v8) rfl (by kernel_rfl) (by kernel_rfl) (by kernel_rfl) (fun _ _ _ h => h) (Or.inl ⟨by rfl, ?hy8⟩) (by assumption) ?rest8
  case hy8 => (intro W hSw; have cj := (cell_of_row _ _ 0 _ _ _ hSw).trans (rfl : _ = some (.int .i64 size : Value)); go_simp; first | done | with_reducible rfl)
  simp only [Act.put, List.getElem_toArray, List.getElem_cons_zero, List.getElem_cons_succ, List.setIfInBounds_toArray, List.set_cons_zero, List.set_cons_succ]
  refine wpAnyH_take (i := 9) (v := ?v9) rfl (by kernel_rfl) (by kernel_rfl) (by kernel_rfl) (fun _ _ _ h => h) (Or.inl ⟨by rfl, ?hy9⟩) (by assumption) ?rest9
  case hy9 => (intro W hSw; go_simp; first | done | with_reducible rfl)
  simp only [Act.put, List.getElem_toArray, List.getElem_cons_zero, List.getElem_cons_succ, List.setIfInBounds_toArray, List.set_cons_zero, List.set_cons_succ]
  refine wpAnyH_take (i := 10) (v := ?v10) rfl (by kernel_rfl) (by kernel_rfl) (by kernel_rfl) (fun _ _ _ h => h) (Or.inl ⟨by rfl, ?hy10⟩) (by assumption) ?rest10
  case hy10 => (intro W hSw; go_simp; first | done | with_reducible rfl)
  simp only [Act.put, List.getElem_toArray, List.getElem_cons_zero, List.getElem_cons_succ, List.setIfInBounds_toArray, List.set_cons_zero, List.set_cons_succ]
  refine wpAnyH_take (i := 11) (v := ?v11) rfl (by kernel_rfl) (by kernel_rfl) (by kernel_rfl) (fun _ _ _ h => h) (Or.inl ⟨by rfl, ?hy11⟩) (by assumption) ?rest11
  case hy11 => (intro W hSw; go_simp; first | done | with_reducible rfl)
  simp only [Act.put, List.getElem_toArray, List.getElem_cons_zero, List.getElem_cons_succ, List.setIfInBounds_toArray, List.set_cons_zero, List.set_cons_succ]
  refine wpAnyH_take (i := 12) (v := ?v12) rfl (by kernel_rfl) (by kernel_rfl) (by kernel_rfl) (fun _ _ _ h => h) (Or.inl ⟨by rfl, ?hy12⟩) (by assumption) ?rest12
  case hy12 => (intro W hSw; go_simp; first | done | with_reducible rfl)
  simp only [Act.put, List.getElem_toArray, List.getElem_cons_zero, List.getElem_cons_succ, List.setIfInBounds_toArray, List.set_cons_zero, List.set_cons_succ]
  refine wpAnyH_ready (rs := [13]) (by kernel_rfl) (by simp) ?_
  refine AllReadyH.cons (o := _) rfl (fun K hK => ?_) (AllReadyH.nil)
  simp only [List.getElem_toArray, List.getElem_cons_zero, List.getElem_cons_succ]
  go_simp
  rw [HARG.out]
  have HL3 := Lib.hid (HL2.out w2.drew F2 (HR2.out.1.below (Below.refl _ _).drew) HR2.out.2.drew)
  refine (HL3.out).mono ?_
  rintro e w3 ⟨F3, rfl, h1, h2⟩
  have h2' : MemStep F2 F3 w2 w3 := (MemStep.of_below ((Below.refl w2.heap.size w2).drew)).trans h2
  have K6 := Lib.hid (h2'.heap K4.out HN2.out.1)
  have K7 := Lib.hid (h2'.heap K5.out HN2.out.2)
  have HN3 := Lib.hid (And.intro (h2'.off (lt_heap K4.out) HN2.out.1) (h2'.off (lt_heap K5.out) HN2.out.2))
  have HR3 := Lib.hid (And.intro h1 (HR2.out.2.trans h2'))
  refine hK.out _ _ K6.out (fun hH1 => ?_)
  clear hK K hH0 h1 h2 h2' HL3 K4 K5 HN2 HR2 HL2 HARG
  try simp only [Act.put, List.setIfInBounds_toArray, List.set_cons_zero, List.set_cons_succ]
  refine wpAnyH_take (i := 14) (v := ?v14) rfl (by kernel_rfl) (by kernel_rfl) (by kernel_rfl) (fun _ _ _ h => h) (Or.inl ⟨by rfl, ?hy14⟩) (by assumption) ?rest14
  case hy14 => (intro W hSw; go_simp; first | done | with_reducible rfl)
  simp only [Act.put, List.getElem_toArray, List.getElem_cons_zero, List.getElem_cons_succ, List.setIfInBounds_toArray, List.set_cons_zero, List.set_cons_succ]
  refine wpAnyH_take (i := 15) (v := ?v15) rfl (by kernel_rfl) (by kernel_rfl) (by kernel_rfl) (fun _ _ _ h => h) (Or.inl ⟨by rfl, ?hy15⟩) (by assumption) ?rest15
  case hy15 => (intro W hSw; go_simp; first | done | with_reducible rfl)
  simp only [Act.put, List.getElem_toArray, List.getElem_cons_zero, List.getElem_cons_succ, List.setIfInBounds_toArray, List.set_cons_zero, List.set_cons_succ]
  refine wpAnyH_take (i := 16) (v := ?v16) rfl (by kernel_rfl) (by kernel_rfl) (by kernel_rfl) (fun _ _ _ h => h) (Or.inl ⟨by rfl, ?hy16⟩) (by assumption) ?rest16
  case hy16 => (intro W hSw; go_simp; first | done | with_reducible rfl)
  simp only [Act.put, List.getElem_toArray, List.getElem_cons_zero, List.getElem_cons_succ, List.setIfInBounds_toArray, List.set_cons_zero, List.set_cons_succ]
  refine wpAnyH_take (i := 17) (v := ?v17) rfl (by kernel_rfl) (by kernel_rfl) (by kernel_rfl) (fun _ _ _ h => h) (Or.inl ⟨by rfl, ?hy17⟩) (by assumption) ?rest17
  case hy17 => (intro W hSw; go_simp; first | done | with_reducible rfl)
  simp only [Act.put, List.getElem_toArray, List.getElem_cons_zero, List.getElem_cons_succ, List.setIfInBounds_toArray, List.set_cons_zero, List.set_cons_succ]
  refine wpAnyH_take (i := 18) (v := ?v18) rfl (by kernel_rfl) (by kernel_rfl) (by kernel_rfl) (fun _ _ _ h => h) (Or.inl ⟨by rfl, ?hy18⟩) (by assumption) ?rest18
  case hy18 => (intro W hSw; go_simp; first | done | with_reducible rfl)
  simp only [Act.put, List.getElem_toArray, List.getElem_cons_zero, List.getElem_cons_succ, List.setIfInBounds_toArray, List.set_cons_zero, List.set_cons_succ]
  refine wpAnyH_done (by kernel_rfl) ?_ _
  clear hH1
  have c0 := (cell_of_row _ _ 0 _ _ _ K6.out).trans (rfl : _ = some (.int .i64 size : Value))
  have c4 := (cell_of_row _ _ 4 _ _ _ K6.out).trans (rfl : _ = some (.int .u16 la : Value))
  have f4 := fun j => frozen_of_row _ _ j _ _ K6.out
  have hkk : (w3.setCell ⟨w.heap.size, 4, none⟩ (.int .u16 (IntKind.u16.wrap ((la : Int) + 1)))).heap[w.heap.size]? = some (.cells #[.int .i64 size, .int .u32 de, .int .u32 av, .int .u32 us, .int .u16 (IntKind.u16.wrap ((la : Int) + 1)), .int .u16 pu] 53 (0, 0)) := (set_cells K6.out).trans rfl
  have hx := Lib.hid (show KX (fun k => k = w.heap.size) w3 (w3.setCell ⟨w.heap.size, 4, none⟩ (.int .u16 (IntKind.u16.wrap ((la : Int) + 1)))) from (KX.refl (fun k => k = w.heap.size) w3).setCell (p := ⟨w.heap.size, 4, none⟩) (.inl rfl) _)
  go_upto_region 15 with fail
  generalize (w3.setCell ⟨w.heap.size, 4, none⟩ (.int .u16 (IntKind.u16.wrap ((la : Int) + 1)))) = w4 at hkk hx ⊢
  clear c0 c4 f4
  have K8 := Lib.hid hkk
  have K9 := Lib.hid (hx.out.heap K7.out (by omega))
  have HR4 := Lib.hid (And.intro (HR3.out.1.kx hx.out (fun k _ hf e => by subst e; exact HN3.out.1 hf)) (HR3.out.2.own hx.out (by omega)))
  clear hkk hx K6 K7 HR3
  have HO := Lib.hid (show (#[.int .i64 size, .int .u32 de, .int .u32 av, .int .u32 us, .int .u16 (IntKind.u16.wrap ((la : Int) + 1)), .int .u16 pu] : Array Value).all (·.oneCell') = true by simp [Value.oneCell'])
  go_wp2_with (first | go_skip | (refine wpList_load_row rfl 53 _ rfl w.heap.size rfl 53 #[.int .i64 size, .int .u32 de, .int .u32 av, .int .u32 us, .int .u16 (IntKind.u16.wrap ((la : Int) + 1)), .int .u16 pu] (0, 0) _ K8.out Tryd.underlying53 rfl (by kernel_rfl) ?_) | (refine wpList_store_to rfl 53 _ _ rfl (w.heap.size + 1) #[.int .i64 size, .int .u32 de, .int .u32 av, .int .u32 us, .int .u16 (IntKind.u16.wrap ((la : Int) + 1)), .int .u16 pu] rfl rfl 53 #[.int .i64 0, .int .u32 0, .int .u32 0, .int .u32 0, .int .u16 0, .int .u16 0] K9.out (by kernel_rfl) rfl HO.out ?_))
  intro w20 hx hk
  have HRF := Lib.hid (And.intro (HR4.out.1.kx hx.out (fun k _ hf e => by subst e; exact HN3.out.2 hf)) (HR4.out.2.own hx.out (by omega)))
  go_wp2_with fail
  exact bodyPost_ret (v := .tuple #[.agg #[.int .i64 size, .int .u32 de, .int .u32 av, .int .u32 us, .int .u16 (IntKind.u16.wrap ((la : Int) + 1)), .int .u16 pu], .int .i64 hd, .bool true, .nilIface]) (results_cell_tmp3 Tryd.results22 _ _ (w.heap.size + 1) 53 #[.int .i64 size, .int .u32 de, .int .u32 av, .int .u32 us, .int .u16 (IntKind.u16.wrap ((la : Int) + 1)), .int .u16 pu] (0, 0) _ rfl hk Tryd.underlying53 rfl (by kernel_rfl)) rfl ⟨F3, rfl, HRF.out.1, HRF.out.2⟩
end Go.Proofs.YtcakcfeipfjmpaaDoor
