/-
pinnaceref13.Give, walked: a chain given back to any ring, in any memory, as the program gives it.
Conditions: the ring may be; the head is one of its.
-/
import Derived.Test.YtcmbnkmbaghkdaaDoorRef13C
import Derived.Test.YtcmbnkmbaghkdaaDoorRefFar
import Derived.Test.YtcmbnkmbaghkdaaDoorYieldsBuild
namespace Go.Proofs.YtcmbnkmbaghkdaaDoor
open Go.RowKit
set_option linter.unusedVariables false

set_option maxRecDepth 100000 in
set_option maxHeartbeats 8000000 in
theorem ref13_Give_f1 {B : Nat} {F : Nat → Prop} {m1 m2 m3 : Mm} (size de av us la pu hd n p1 : Nat) (a : Int) (C0 : Array Value) (hc0 : C0.size = 3) (w : World) (hs1 : 1 ≤ size) (hs2 : size ≤ 256) (hdl : hd < size)
    (hpw : ((pu : Int) + 1) % 65536 = (p1 : Int)) (hpu : pu < 65536) (HARG : Hid (IntKind.u32.wrap (IntKind.u32.wrap ((us : Int) + 4) + IntKind.u32.wrap (8 * IntKind.u32.wrap ((IntKind.i64.wrap (pu : Int)).tmod (size : Int)))) = a))
    (HC : Hid (∀ W, Calls Tryd.prog 84 #[.agg #[.int .i64 size, .int .u32 de, .int .u32 av, .int .u32 us, .int .u16 la, .int .u16 pu]] W fun e w' => e = .returned (.int .i64 0) ∧ Below W.heap.size W w'))
    (S1 : Hid (∀ W, Below w.heap.size w W → w.heap.size + 4 ≤ W.heap.size → Calls Tryd.prog 117 #[.agg C0, .int .u32 a, .int .i64 4, .int .u32 hd] W fun e w' => ∃ v', e = .returned (.tuple #[v', .bool false]) ∧ RefF w' B v' m1 (fun k => F k ∨ (w.heap.size ≤ k ∧ k < w.heap.size + 4)) ∧ Below W.heap.size W w')) :
    Calls Tryd.prog 89 #[.agg #[.int .i64 size, .int .u32 de, .int .u32 av, .int .u32 us, .int .u16 la, .int .u16 pu], .agg C0, .int .i64 hd, .int .u32 n] w fun e w' => ∃ v', e = .returned (.tuple #[.agg #[.int .i64 0, .int .u32 0, .int .u32 0, .int .u32 0, .int .u16 0, .int .u16 0], v', .int .i64 22]) ∧ RefF w' B v' m1 F ∧ Below w.heap.size w w' := by
  have HC0 := Lib.hid hc0
  have HI := Lib.hid (show (Tryd.prog.info? 65).map (·.size) = some C0.size by rw [hc0]; kernel_rfl)
  have hp0 : (0 : Int) ≤ (p1 : Int) := by omega
  have hpb : (p1 : Int) < 65536 := by omega
  have hp1 : ((pu : Int) + 1).tmod 65536 = (p1 : Int) := by rw [Int.tmod_eq_emod_of_nonneg (by omega)]; exact hpw
  have hp2 : (IntKind.i64.wrap ((pu : Int) + 1)).tmod 65536 = (p1 : Int) := by rw [IntKind.wrap_i64, Int.tmod_eq_emod_of_nonneg (by omega)]; omega
  have hp3 : (wrap64 ((pu : Int) + 1)).tmod 65536 = (p1 : Int) := by unfold wrap64; rw [Int.tmod_eq_emod_of_nonneg (by omega)]; omega
  have hpul : (pu : Int) < 65536 := by omega
  have hsz1 : (1 : Int) ≤ (size : Int) := by omega
  have hsz2 : (size : Int) ≤ 256 := by omega
  have hsz0 : ¬ size = 0 := by omega
  have hd0 : (0 : Int) ≤ (hd : Int) := by omega
  have hd1 : (hd : Int) < (size : Int) := by omega
  have hdN : decide (size ≤ hd) = false := by simp; omega
  have HPP := Lib.hid (And.intro hp1 (And.intro hp2 (And.intro hp3 (And.intro hp0 (And.intro hpb hpul)))))
  clear hc0 hs1 hs2 hdl hpw hpu hp0 hpb hp1 hp2 hp3 hpul
  obtain ⟨k0, k1, k2, k3, hb0⟩ := new4 w (.cells #[.int .i64 size, .int .u32 de, .int .u32 av, .int .u32 us, .int .u16 la, .int .u16 pu] 52) (.cells C0 65) (.cells #[.int .i64 0, .int .u32 0, .int .u32 0, .int .u32 0, .int .u16 0, .int .u16 0] 52) (.cells #[(.slice none 0 0 : Value), .slice none 0 0, .int .i64 0] 65)
  have K0a := Lib.hid k0
  have K1a := Lib.hid k1
  have K2a := Lib.hid k2
  have K3a := Lib.hid k3
  have HB0a := Lib.hid hb0
  clear k0 k1 k2 k3 hb0
  go_enter Tryd.func89, Tryd.ntmps89
  go_wp2_with (first | go_skip | (refine wpList_load_row rfl 52 _ rfl (w.heap.size) rfl 52 #[.int .i64 size, .int .u32 de, .int .u32 av, .int .u32 us, .int .u16 la, .int .u16 pu] (0, 0) _ K0a.out Tryd.underlying52 rfl (by kernel_rfl) ?_))
  refine (HC.out _).mono ?_
  rintro e w1 ⟨rfl, hb⟩
  have K2 := Lib.hid (keepB K0a.out hb)
  clear K0a
  have K3 := Lib.hid (keepB K1a.out hb)
  clear K1a
  have K4 := Lib.hid (keepB K2a.out hb)
  clear K2a
  have K5 := Lib.hid (keepB K3a.out hb)
  clear K3a
  have HB6 := Lib.hid (HB0a.out.trans (hb.mono HB0a.out.size))
  clear HB0a
  clear hb
  have cf7 := (cell_of_row _ _ 0 _ _ _ K2.out).trans (rfl : _ = some (.int .i64 size : Value))
  go_upto_region 5 with fail
  clear cf7
  refine wp_region_held_drew (S := fun W => KX (fun _ => False) (w1) W) (by kernel_rfl) ((KX.refl (fun _ => False) _).drew) (fun hHeld => ?_)
  refine wpAnyH_take (i := 0) (v := ?v0) rfl (by kernel_rfl) (by kernel_rfl) (by kernel_rfl) (fun _ _ _ h => h) (Or.inl ⟨by rfl, ?hy0⟩) (by assumption) ?rest0
  case hy0 => (intro W hSw; go_simp; first | done | with_reducible rfl)
  simp only [Act.put, List.getElem_toArray, List.getElem_cons_zero, List.setIfInBounds_toArray, List.set_cons_zero, List.set_cons_succ]
  refine wpAnyH_take (i := 1) (v := ?v1) rfl (by kernel_rfl) (by kernel_rfl) (by kernel_rfl) (fun _ _ _ h => h) (Or.inl ⟨by rfl, ?hy1⟩) (by assumption) ?rest1
  case hy1 => (intro W hSw; have cj := (cell_of_row _ _ 3 _ _ _ (hSw.heap K2.out id)).trans (rfl : _ = some (.int .u32 us : Value)); go_simp; first | done | with_reducible rfl)
  simp only [Act.put, List.getElem_toArray, List.getElem_cons_zero, List.getElem_cons_succ, List.setIfInBounds_toArray, List.set_cons_zero, List.set_cons_succ]
  refine wpAnyH_take (i := 2) (v := ?v2) rfl (by kernel_rfl) (by kernel_rfl) (by kernel_rfl) (fun _ _ _ h => h) (Or.inl ⟨by rfl, ?hy2⟩) (by assumption) ?rest2
  case hy2 => (intro W hSw; go_simp; first | done | with_reducible rfl)
  simp only [Act.put, List.getElem_toArray, List.getElem_cons_zero, List.getElem_cons_succ, List.setIfInBounds_toArray, List.set_cons_zero, List.set_cons_succ]
  refine wpAnyH_take (i := 3) (v := ?v3) rfl (by kernel_rfl) (by kernel_rfl) (by kernel_rfl) (fun _ _ _ h => h) (Or.inl ⟨by rfl, ?hy3⟩) (by assumption) ?rest3
  case hy3 => (intro W hSw; go_simp; first | done | with_reducible rfl)
  simp only [Act.put, List.getElem_toArray, List.getElem_cons_zero, List.getElem_cons_succ, List.setIfInBounds_toArray, List.set_cons_zero, List.set_cons_succ]
  refine wpAnyH_take (i := 4) (v := ?v4) rfl (by kernel_rfl) (by kernel_rfl) (by kernel_rfl) (fun _ _ _ h => h) (Or.inl ⟨by rfl, ?hy4⟩) (by assumption) ?rest4
  case hy4 => (intro W hSw; have cj := (cell_of_row _ _ 5 _ _ _ (hSw.heap K2.out id)).trans (rfl : _ = some (.int .u16 pu : Value)); go_simp; first | done | with_reducible rfl)
  simp only [Act.put, List.getElem_toArray, List.getElem_cons_zero, List.getElem_cons_succ, List.setIfInBounds_toArray, List.set_cons_zero, List.set_cons_succ]
  refine wpAnyH_take (i := 5) (v := ?v5) rfl (by kernel_rfl) (by kernel_rfl) (by kernel_rfl) (fun _ _ _ h => h) (Or.inl ⟨by rfl, ?hy5⟩) (by assumption) ?rest5
  case hy5 => (intro W hSw; go_simp; first | done | with_reducible rfl)
  simp only [Act.put, List.getElem_toArray, List.getElem_cons_zero, List.getElem_cons_succ, List.setIfInBounds_toArray, List.set_cons_zero, List.set_cons_succ]
  refine wpAnyH_take (i := 6) (v := ?v6) rfl (by kernel_rfl) (by kernel_rfl) (by kernel_rfl) (fun _ _ _ h => h) (Or.inl ⟨by rfl, ?hy6⟩) (by assumption) ?rest6
  case hy6 => (intro W hSw; go_simp; first | done | with_reducible rfl)
  simp only [Act.put, List.getElem_toArray, List.getElem_cons_zero, List.getElem_cons_succ, List.setIfInBounds_toArray, List.set_cons_zero, List.set_cons_succ]
  refine wpAnyH_take (i := 7) (v := ?v7) rfl (by kernel_rfl) (by kernel_rfl) (by kernel_rfl) (fun _ _ _ h => h) (Or.inl ⟨by rfl, ?hy7⟩) (by assumption) ?rest7
  case hy7 => (intro W hSw; have cj := (cell_of_row _ _ 0 _ _ _ (hSw.heap K2.out id)).trans (rfl : _ = some (.int .i64 size : Value)); go_simp; first | done | with_reducible rfl)
  simp only [Act.put, List.getElem_toArray, List.getElem_cons_zero, List.getElem_cons_succ, List.setIfInBounds_toArray, List.set_cons_zero, List.set_cons_succ]
  refine wpAnyH_take (i := 8) (v := ?v8) rfl (by kernel_rfl) (by kernel_rfl) (by kernel_rfl) (fun _ _ _ h => h) (Or.inl ⟨by rfl, ?hy8⟩) (by assumption) ?rest8
  case hy8 => (intro W hSw; go_simp; first | done | with_reducible rfl)
  simp only [Act.put, List.getElem_toArray, List.getElem_cons_zero, List.getElem_cons_succ, List.setIfInBounds_toArray, List.set_cons_zero, List.set_cons_succ]
  refine wpAnyH_take (i := 9) (v := ?v9) rfl (by kernel_rfl) (by kernel_rfl) (by kernel_rfl) (fun _ _ _ h => h) (Or.inl ⟨by rfl, ?hy9⟩) (by assumption) ?rest9
  case hy9 => (intro W hSw; go_simp; first | done | with_reducible rfl)
  simp only [Act.put, List.getElem_toArray, List.getElem_cons_zero, List.getElem_cons_succ, List.setIfInBounds_toArray, List.set_cons_zero, List.set_cons_succ]
  refine wpAnyH_take (i := 10) (v := ?v10) rfl (by kernel_rfl) (by kernel_rfl) (by kernel_rfl) (fun _ _ _ h => h) (Or.inl ⟨by rfl, ?hy10⟩) (by assumption) ?rest10
  case hy10 => (intro W hSw; go_simp; first | done | with_reducible rfl)
  simp only [Act.put, List.getElem_toArray, List.getElem_cons_zero, List.getElem_cons_succ, List.setIfInBounds_toArray, List.set_cons_zero, List.set_cons_succ]
  refine wpAnyH_take (i := 11) (v := ?v11) rfl (by kernel_rfl) (by kernel_rfl) (by kernel_rfl) (fun _ _ _ h => h) (Or.inl ⟨by rfl, ?hy11⟩) (by assumption) ?rest11
  case hy11 => (intro W hSw; have harg := HARG.out; go_simp; first | done | with_reducible rfl)
  simp only [Act.put, List.getElem_toArray, List.getElem_cons_zero, List.getElem_cons_succ, List.setIfInBounds_toArray, List.set_cons_zero, List.set_cons_succ]
  refine wpAnyH_take (i := 12) (v := ?v12) rfl (by kernel_rfl) (by kernel_rfl) (by kernel_rfl) (fun _ _ _ h => h) (Or.inl ⟨by rfl, ?hy12⟩) (by assumption) ?rest12
  case hy12 => (intro W hSw; go_simp; first | done | with_reducible rfl)
  simp only [Act.put, List.getElem_toArray, List.getElem_cons_zero, List.getElem_cons_succ, List.setIfInBounds_toArray, List.set_cons_zero, List.set_cons_succ]
  refine wpAnyH_done (by kernel_rfl) ?_ _
  clear hHeld
  have hb : Below (w1).heap.size (w1) (w1).drew := (Below.refl _ _).drew
  generalize (w1).drew = w8 at hb ⊢
  have K9 := Lib.hid (keepB K2.out hb)
  clear K2
  have K10 := Lib.hid (keepB K3.out hb)
  clear K3
  have K11 := Lib.hid (keepB K4.out hb)
  clear K4
  have K12 := Lib.hid (keepB K5.out hb)
  clear K5
  have HB13 := Lib.hid (HB6.out.trans (hb.mono HB6.out.size))
  clear HB6
  clear hb
  clear HARG
  go_wp2_with (first | go_skip | (refine wpList_load_row rfl 65 _ rfl (w.heap.size + 1) rfl 65 (C0) (0, 0) _ K10.out Tryd.underlying65 rfl HI.out ?_))
  refine (S1.out _ HB13.out (by have := lt_heap K12.out; omega)).mono ?_
  rintro e w14 ⟨v', rfl, hR, hb⟩
  have K16 := Lib.hid (keepB K9.out hb)
  clear K9
  have K17 := Lib.hid (keepB K10.out hb)
  clear K10
  have K18 := Lib.hid (keepB K11.out hb)
  clear K11
  have K19 := Lib.hid (keepB K12.out hb)
  clear K12
  have HB20 := Lib.hid (HB13.out.trans (hb.mono HB13.out.size))
  clear HB13
  obtain ⟨C15, rfl, hvs, hvo⟩ := hR.form
  have HRn := Lib.hid hR
  have HVO1 := Lib.hid hvo
  have HIV1 := Lib.hid (show (Tryd.prog.info? 65).map (·.size) = some C15.size by rw [hvs]; kernel_rfl)
  have HVS1 := Lib.hid (show (C0).size = C15.size by rw [hvs]; exact (show _ = _ from HC0.out))
  have HVS1b := Lib.hid hvs
  clear hb hR hvs hvo
  have HO21 := Lib.hid (show (C15 : Array Value).all (·.oneCell') = true from HVO1.out)
  go_wp2_with (first | go_skip | (refine wpList_store_to rfl 65 _ _ rfl (w.heap.size + 1) (C15) rfl rfl 65 (C0) K17.out HIV1.out HVS1.out HO21.out ?_))
  intro w22 hx hkk
  have HE23 := Lib.hid (HRn.out.kx hx.out (fun k e => .inl (.inr (by omega))))
  clear HRn
  have K24 := Lib.hid (hx.out.heap K16.out (by omega))
  clear K16
  have K25 := Lib.hid (hx.out.heap K18.out (by omega))
  clear K18
  have K26 := Lib.hid (hx.out.heap K19.out (by omega))
  clear K19
  have K27 := Lib.hid hkk
  clear hkk K17
  have HB28 := Lib.hid (HB20.out.trans (hx.out.below (B := w.heap.size) (fun k hk e => by omega) HB20.out.size))
  clear HB20 hx
  go_upto_region 8 with fail
  have HO29 := Lib.hid (show (#[.int .i64 0, .int .u32 0, .int .u32 0, .int .u32 0, .int .u16 0, .int .u16 0] : Array Value).all (·.oneCell') = true from by simp [Value.oneCell'])
  have HO30 := Lib.hid (show (C15 : Array Value).all (·.oneCell') = true from HVO1.out)
  refine wp_region_held_drew (S := KX (fun k => k = w.heap.size + 1 + 1 ∨ k = w.heap.size + 1 + 1 + 1) w22) (by kernel_rfl) ((KX.refl (fun k => k = w.heap.size + 1 + 1 ∨ k = w.heap.size + 1 + 1 + 1) w22).drew) (fun hHeld => ?_)
  refine wpAnyH_take (i := 0) (v := .agg (#[.int .i64 0, .int .u32 0, .int .u32 0, .int .u32 0, .int .u16 0, .int .u16 0])) rfl (by kernel_rfl) (by kernel_rfl) (by kernel_rfl) (fun _ _ _ h => h) (yieldsIf_build (by rfl) _ _ rfl (#[.int .i64 0, .int .u32 0, .int .u32 0, .int .u32 0, .int .u16 0, .int .u16 0]) (by kernel_rfl)) (by assumption) ?rest0t
  simp only [Act.put, List.getElem_toArray, List.getElem_cons_zero, List.setIfInBounds_toArray, List.set_cons_zero, List.set_cons_succ]
  refine wpAnyH_take (i := 1) rfl (by kernel_rfl) (by kernel_rfl) (by kernel_rfl) (fun _ _ _ h => h) (yieldsIf_load_mid (by rfl) 65 _ rfl (w.heap.size + 1) 0 rfl (C15).toList _ (fun W hSw => range_of_all (hSw.heap K27.out (by omega))) Tryd.underlying65 rfl ?hi1t) (by assumption) ?rest1t
  case hi1t => exact HIV1.out
  simp only [Act.put, List.getElem_toArray, List.getElem_cons_zero, List.getElem_cons_succ, List.setIfInBounds_toArray, List.set_cons_zero, List.set_cons_succ]
  refine wpAnyH_two_stores (i := 2) (j := 3) (w.heap.size + 1 + 1) (w.heap.size + 1 + 1 + 1) #[.int .i64 0, .int .u32 0, .int .u32 0, .int .u32 0, .int .u16 0, .int .u16 0] (C15) #[.int .i64 0, .int .u32 0, .int .u32 0, .int .u32 0, .int .u16 0, .int .u16 0] #[(.slice none 0 0 : Value), .slice none 0 0, .int .i64 0] 52 65 rfl rfl (by kernel_rfl) (by kernel_rfl) rfl rfl rfl rfl 52 65 _ _ _ _ rfl rfl rfl rfl rfl rfl K25.out K26.out (by kernel_rfl) HIV1.out rfl (by rw [HVS1b.out]; rfl) HO29.out HO30.out (by omega) hHeld ?_
  intro w31 hx hk1 hk2
  clear hHeld
  try simp only [List.setIfInBounds_toArray, List.set_cons_zero, List.set_cons_succ]
  refine wpAnyH_take (i := 4) (v := ?v4t) rfl (by kernel_rfl) (by kernel_rfl) (by kernel_rfl) (fun _ _ _ h => h) (Or.inl ⟨by rfl, ?hy4t⟩) (by assumption) ?rest4t
  case hy4t => (intro W hSw; go_simp; first | done | with_reducible rfl)
  simp only [Act.put, List.getElem_toArray, List.getElem_cons_zero, List.getElem_cons_succ, List.setIfInBounds_toArray, List.set_cons_zero, List.set_cons_succ]
  refine wpAnyH_done (by kernel_rfl) ?_ _
  have HE32 := Lib.hid (HE23.out.kx hx (fun k e => .inl (.inr (by omega))))
  clear HE23
  have K33 := Lib.hid (hx.heap K24.out (by omega))
  clear K24
  have K34 := Lib.hid (hx.heap K27.out (by omega))
  clear K27
  have K35 := Lib.hid hk1
  clear K25 hk1
  have K36 := Lib.hid hk2
  clear K26 hk2
  have HB37 := Lib.hid (HB28.out.trans (hx.below (B := w.heap.size) (fun k hk e => by omega) HB28.out.size))
  clear HB28 hx
  go_wp2_with fail
  exact bodyPost_ret (v := .tuple #[.agg #[.int .i64 0, .int .u32 0, .int .u32 0, .int .u32 0, .int .u16 0, .int .u16 0], .agg C15, .int .i64 22]) (results_2cell_tmp Tryd.results89 _ _ (w.heap.size + 1 + 1) (w.heap.size + 1 + 1 + 1) 52 65 #[.int .i64 0, .int .u32 0, .int .u32 0, .int .u32 0, .int .u16 0, .int .u16 0] C15 (0, 0) (0, 0) _ _ rfl rfl K35.out K36.out Tryd.underlying52 rfl (by kernel_rfl) Tryd.underlying65 rfl HIV1.out) rfl ⟨_, rfl, HE32.out.weak (fun k hk => .inl hk), HB37.out⟩
set_option maxRecDepth 100000 in
set_option maxHeartbeats 8000000 in
theorem ref13_Give_f2 {B : Nat} {F : Nat → Prop} {m1 m2 m3 : Mm} (size de av us la pu hd n p1 : Nat) (a : Int) (C0 : Array Value) (hc0 : C0.size = 3) (w : World) (hs1 : 1 ≤ size) (hs2 : size ≤ 256) (hdl : hd < size)
    (hpw : ((pu : Int) + 1) % 65536 = (p1 : Int)) (hpu : pu < 65536) (HARG : Hid (IntKind.u32.wrap (IntKind.u32.wrap ((us : Int) + 4) + IntKind.u32.wrap (8 * IntKind.u32.wrap ((IntKind.i64.wrap (pu : Int)).tmod (size : Int)))) = a))
    (HC : Hid (∀ W, Calls Tryd.prog 84 #[.agg #[.int .i64 size, .int .u32 de, .int .u32 av, .int .u32 us, .int .u16 la, .int .u16 pu]] W fun e w' => e = .returned (.int .i64 0) ∧ Below W.heap.size W w'))
    (S1 : Hid (∀ W, Below w.heap.size w W → w.heap.size + 4 ≤ W.heap.size → Calls Tryd.prog 117 #[.agg C0, .int .u32 a, .int .i64 4, .int .u32 hd] W fun e w' => ∃ v', e = .returned (.tuple #[v', .bool true]) ∧ RefF w' B v' m1 (fun k => F k ∨ (w.heap.size ≤ k ∧ k < w.heap.size + 4)) ∧ Below W.heap.size W w')) (S2 : Hid (∀ W v, RefF W B v m1 (fun k => F k ∨ (w.heap.size ≤ k ∧ k < w.heap.size + 4)) → w.heap.size + 4 ≤ W.heap.size → Calls Tryd.prog 117 #[v, .int .u32 (((a : Int) + 4) % 4294967296), .int .i64 4, .int .u32 n] W fun e w' => ∃ v', e = .returned (.tuple #[v', .bool false]) ∧ RefF w' B v' m2 (fun k => F k ∨ (w.heap.size ≤ k ∧ k < w.heap.size + 4)) ∧ Below W.heap.size W w')) :
    Calls Tryd.prog 89 #[.agg #[.int .i64 size, .int .u32 de, .int .u32 av, .int .u32 us, .int .u16 la, .int .u16 pu], .agg C0, .int .i64 hd, .int .u32 n] w fun e w' => ∃ v', e = .returned (.tuple #[.agg #[.int .i64 0, .int .u32 0, .int .u32 0, .int .u32 0, .int .u16 0, .int .u16 0], v', .int .i64 22]) ∧ RefF w' B v' m2 F ∧ Below w.heap.size w w' := by
  have HC0 := Lib.hid hc0
  have HI := Lib.hid (show (Tryd.prog.info? 65).map (·.size) = some C0.size by rw [hc0]; kernel_rfl)
  have hp0 : (0 : Int) ≤ (p1 : Int) := by omega
  have hpb : (p1 : Int) < 65536 := by omega
  have hp1 : ((pu : Int) + 1).tmod 65536 = (p1 : Int) := by rw [Int.tmod_eq_emod_of_nonneg (by omega)]; exact hpw
  have hp2 : (IntKind.i64.wrap ((pu : Int) + 1)).tmod 65536 = (p1 : Int) := by rw [IntKind.wrap_i64, Int.tmod_eq_emod_of_nonneg (by omega)]; omega
  have hp3 : (wrap64 ((pu : Int) + 1)).tmod 65536 = (p1 : Int) := by unfold wrap64; rw [Int.tmod_eq_emod_of_nonneg (by omega)]; omega
  have hpul : (pu : Int) < 65536 := by omega
  have hsz1 : (1 : Int) ≤ (size : Int) := by omega
  have hsz2 : (size : Int) ≤ 256 := by omega
  have hsz0 : ¬ size = 0 := by omega
  have hd0 : (0 : Int) ≤ (hd : Int) := by omega
  have hd1 : (hd : Int) < (size : Int) := by omega
  have hdN : decide (size ≤ hd) = false := by simp; omega
  have HPP := Lib.hid (And.intro hp1 (And.intro hp2 (And.intro hp3 (And.intro hp0 (And.intro hpb hpul)))))
  clear hc0 hs1 hs2 hdl hpw hpu hp0 hpb hp1 hp2 hp3 hpul
  obtain ⟨k0, k1, k2, k3, hb0⟩ := new4 w (.cells #[.int .i64 size, .int .u32 de, .int .u32 av, .int .u32 us, .int .u16 la, .int .u16 pu] 52) (.cells C0 65) (.cells #[.int .i64 0, .int .u32 0, .int .u32 0, .int .u32 0, .int .u16 0, .int .u16 0] 52) (.cells #[(.slice none 0 0 : Value), .slice none 0 0, .int .i64 0] 65)
  have K0a := Lib.hid k0
  have K1a := Lib.hid k1
  have K2a := Lib.hid k2
  have K3a := Lib.hid k3
  have HB0a := Lib.hid hb0
  clear k0 k1 k2 k3 hb0
  go_enter Tryd.func89, Tryd.ntmps89
  go_wp2_with (first | go_skip | (refine wpList_load_row rfl 52 _ rfl (w.heap.size) rfl 52 #[.int .i64 size, .int .u32 de, .int .u32 av, .int .u32 us, .int .u16 la, .int .u16 pu] (0, 0) _ K0a.out Tryd.underlying52 rfl (by kernel_rfl) ?_))
  refine (HC.out _).mono ?_
  rintro e w1 ⟨rfl, hb⟩
  have K2 := Lib.hid (keepB K0a.out hb)
  clear K0a
  have K3 := Lib.hid (keepB K1a.out hb)
  clear K1a
  have K4 := Lib.hid (keepB K2a.out hb)
  clear K2a
  have K5 := Lib.hid (keepB K3a.out hb)
  clear K3a
  have HB6 := Lib.hid (HB0a.out.trans (hb.mono HB0a.out.size))
  clear HB0a
  clear hb
  have cf7 := (cell_of_row _ _ 0 _ _ _ K2.out).trans (rfl : _ = some (.int .i64 size : Value))
  go_upto_region 5 with fail
  clear cf7
  refine wp_region_held_drew (S := fun W => KX (fun _ => False) (w1) W) (by kernel_rfl) ((KX.refl (fun _ => False) _).drew) (fun hHeld => ?_)
  refine wpAnyH_take (i := 0) (v := ?v0) rfl (by kernel_rfl) (by kernel_rfl) (by kernel_rfl) (fun _ _ _ h => h) (Or.inl ⟨by rfl, ?hy0⟩) (by assumption) ?rest0
  case hy0 => (intro W hSw; go_simp; first | done | with_reducible rfl)
  simp only [Act.put, List.getElem_toArray, List.getElem_cons_zero, List.setIfInBounds_toArray, List.set_cons_zero, List.set_cons_succ]
  refine wpAnyH_take (i := 1) (v := ?v1) rfl (by kernel_rfl) (by kernel_rfl) (by kernel_rfl) (fun _ _ _ h => h) (Or.inl ⟨by rfl, ?hy1⟩) (by assumption) ?rest1
  case hy1 => (intro W hSw; have cj := (cell_of_row _ _ 3 _ _ _ (hSw.heap K2.out id)).trans (rfl : _ = some (.int .u32 us : Value)); go_simp; first | done | with_reducible rfl)
  simp only [Act.put, List.getElem_toArray, List.getElem_cons_zero, List.getElem_cons_succ, List.setIfInBounds_toArray, List.set_cons_zero, List.set_cons_succ]
  refine wpAnyH_take (i := 2) (v := ?v2) rfl (by kernel_rfl) (by kernel_rfl) (by kernel_rfl) (fun _ _ _ h => h) (Or.inl ⟨by rfl, ?hy2⟩) (by assumption) ?rest2
  case hy2 => (intro W hSw; go_simp; first | done | with_reducible rfl)
  simp only [Act.put, List.getElem_toArray, List.getElem_cons_zero, List.getElem_cons_succ, List.setIfInBounds_toArray, List.set_cons_zero, List.set_cons_succ]
  refine wpAnyH_take (i := 3) (v := ?v3) rfl (by kernel_rfl) (by kernel_rfl) (by kernel_rfl) (fun _ _ _ h => h) (Or.inl ⟨by rfl, ?hy3⟩) (by assumption) ?rest3
  case hy3 => (intro W hSw; go_simp; first | done | with_reducible rfl)
  simp only [Act.put, List.getElem_toArray, List.getElem_cons_zero, List.getElem_cons_succ, List.setIfInBounds_toArray, List.set_cons_zero, List.set_cons_succ]
  refine wpAnyH_take (i := 4) (v := ?v4) rfl (by kernel_rfl) (by kernel_rfl) (by kernel_rfl) (fun _ _ _ h => h) (Or.inl ⟨by rfl, ?hy4⟩) (by assumption) ?rest4
  case hy4 => (intro W hSw; have cj := (cell_of_row _ _ 5 _ _ _ (hSw.heap K2.out id)).trans (rfl : _ = some (.int .u16 pu : Value)); go_simp; first | done | with_reducible rfl)
  simp only [Act.put, List.getElem_toArray, List.getElem_cons_zero, List.getElem_cons_succ, List.setIfInBounds_toArray, List.set_cons_zero, List.set_cons_succ]
  refine wpAnyH_take (i := 5) (v := ?v5) rfl (by kernel_rfl) (by kernel_rfl) (by kernel_rfl) (fun _ _ _ h => h) (Or.inl ⟨by rfl, ?hy5⟩) (by assumption) ?rest5
  case hy5 => (intro W hSw; go_simp; first | done | with_reducible rfl)
  simp only [Act.put, List.getElem_toArray, List.getElem_cons_zero, List.getElem_cons_succ, List.setIfInBounds_toArray, List.set_cons_zero, List.set_cons_succ]
  refine wpAnyH_take (i := 6) (v := ?v6) rfl (by kernel_rfl) (by kernel_rfl) (by kernel_rfl) (fun _ _ _ h => h) (Or.inl ⟨by rfl, ?hy6⟩) (by assumption) ?rest6
  case hy6 => (intro W hSw; go_simp; first | done | with_reducible rfl)
  simp only [Act.put, List.getElem_toArray, List.getElem_cons_zero, List.getElem_cons_succ, List.setIfInBounds_toArray, List.set_cons_zero, List.set_cons_succ]
  refine wpAnyH_take (i := 7) (v := ?v7) rfl (by kernel_rfl) (by kernel_rfl) (by kernel_rfl) (fun _ _ _ h => h) (Or.inl ⟨by rfl, ?hy7⟩) (by assumption) ?rest7
  case hy7 => (intro W hSw; have cj := (cell_of_row _ _ 0 _ _ _ (hSw.heap K2.out id)).trans (rfl : _ = some (.int .i64 size : Value)); go_simp; first | done | with_reducible rfl)
  simp only [Act.put, List.getElem_toArray, List.getElem_cons_zero, List.getElem_cons_succ, List.setIfInBounds_toArray, List.set_cons_zero, List.set_cons_succ]
  refine wpAnyH_take (i := 8) (v := ?v8) rfl (by kernel_rfl) (by kernel_rfl) (by kernel_rfl) (fun _ _ _ h => h) (Or.inl ⟨by rfl, ?hy8⟩) (by assumption) ?rest8
  case hy8 => (intro W hSw; go_simp; first | done | with_reducible rfl)
  simp only [Act.put, List.getElem_toArray, List.getElem_cons_zero, List.getElem_cons_succ, List.setIfInBounds_toArray, List.set_cons_zero, List.set_cons_succ]
  refine wpAnyH_take (i := 9) (v := ?v9) rfl (by kernel_rfl) (by kernel_rfl) (by kernel_rfl) (fun _ _ _ h => h) (Or.inl ⟨by rfl, ?hy9⟩) (by assumption) ?rest9
  case hy9 => (intro W hSw; go_simp; first | done | with_reducible rfl)
  simp only [Act.put, List.getElem_toArray, List.getElem_cons_zero, List.getElem_cons_succ, List.setIfInBounds_toArray, List.set_cons_zero, List.set_cons_succ]
  refine wpAnyH_take (i := 10) (v := ?v10) rfl (by kernel_rfl) (by kernel_rfl) (by kernel_rfl) (fun _ _ _ h => h) (Or.inl ⟨by rfl, ?hy10⟩) (by assumption) ?rest10
  case hy10 => (intro W hSw; go_simp; first | done | with_reducible rfl)
  simp only [Act.put, List.getElem_toArray, List.getElem_cons_zero, List.getElem_cons_succ, List.setIfInBounds_toArray, List.set_cons_zero, List.set_cons_succ]
  refine wpAnyH_take (i := 11) (v := ?v11) rfl (by kernel_rfl) (by kernel_rfl) (by kernel_rfl) (fun _ _ _ h => h) (Or.inl ⟨by rfl, ?hy11⟩) (by assumption) ?rest11
  case hy11 => (intro W hSw; have harg := HARG.out; go_simp; first | done | with_reducible rfl)
  simp only [Act.put, List.getElem_toArray, List.getElem_cons_zero, List.getElem_cons_succ, List.setIfInBounds_toArray, List.set_cons_zero, List.set_cons_succ]
  refine wpAnyH_take (i := 12) (v := ?v12) rfl (by kernel_rfl) (by kernel_rfl) (by kernel_rfl) (fun _ _ _ h => h) (Or.inl ⟨by rfl, ?hy12⟩) (by assumption) ?rest12
  case hy12 => (intro W hSw; go_simp; first | done | with_reducible rfl)
  simp only [Act.put, List.getElem_toArray, List.getElem_cons_zero, List.getElem_cons_succ, List.setIfInBounds_toArray, List.set_cons_zero, List.set_cons_succ]
  refine wpAnyH_done (by kernel_rfl) ?_ _
  clear hHeld
  have hb : Below (w1).heap.size (w1) (w1).drew := (Below.refl _ _).drew
  generalize (w1).drew = w8 at hb ⊢
  have K9 := Lib.hid (keepB K2.out hb)
  clear K2
  have K10 := Lib.hid (keepB K3.out hb)
  clear K3
  have K11 := Lib.hid (keepB K4.out hb)
  clear K4
  have K12 := Lib.hid (keepB K5.out hb)
  clear K5
  have HB13 := Lib.hid (HB6.out.trans (hb.mono HB6.out.size))
  clear HB6
  clear hb
  clear HARG
  go_wp2_with (first | go_skip | (refine wpList_load_row rfl 65 _ rfl (w.heap.size + 1) rfl 65 (C0) (0, 0) _ K10.out Tryd.underlying65 rfl HI.out ?_))
  refine (S1.out _ HB13.out (by have := lt_heap K12.out; omega)).mono ?_
  rintro e w14 ⟨v', rfl, hR, hb⟩
  have K16 := Lib.hid (keepB K9.out hb)
  clear K9
  have K17 := Lib.hid (keepB K10.out hb)
  clear K10
  have K18 := Lib.hid (keepB K11.out hb)
  clear K11
  have K19 := Lib.hid (keepB K12.out hb)
  clear K12
  have HB20 := Lib.hid (HB13.out.trans (hb.mono HB13.out.size))
  clear HB13
  obtain ⟨C15, rfl, hvs, hvo⟩ := hR.form
  have HRn := Lib.hid hR
  have HVO1 := Lib.hid hvo
  have HIV1 := Lib.hid (show (Tryd.prog.info? 65).map (·.size) = some C15.size by rw [hvs]; kernel_rfl)
  have HVS1 := Lib.hid (show (C0).size = C15.size by rw [hvs]; exact (show _ = _ from HC0.out))
  have HVS1b := Lib.hid hvs
  clear hb hR hvs hvo
  have HO21 := Lib.hid (show (C15 : Array Value).all (·.oneCell') = true from HVO1.out)
  go_wp2_with (first | go_skip | (refine wpList_store_to rfl 65 _ _ rfl (w.heap.size + 1) (C15) rfl rfl 65 (C0) K17.out HIV1.out HVS1.out HO21.out ?_))
  intro w22 hx hkk
  have HE23 := Lib.hid (HRn.out.kx hx.out (fun k e => .inl (.inr (by omega))))
  clear HRn
  have K24 := Lib.hid (hx.out.heap K16.out (by omega))
  clear K16
  have K25 := Lib.hid (hx.out.heap K18.out (by omega))
  clear K18
  have K26 := Lib.hid (hx.out.heap K19.out (by omega))
  clear K19
  have K27 := Lib.hid hkk
  clear hkk K17
  have HB28 := Lib.hid (HB20.out.trans (hx.out.below (B := w.heap.size) (fun k hk e => by omega) HB20.out.size))
  clear HB20 hx
  go_wp2_with (first | go_skip | (refine wpList_load_row rfl 65 _ rfl (w.heap.size + 1) rfl 65 (C15) (0, 0) _ K27.out Tryd.underlying65 rfl HIV1.out ?_))
  refine (S2.out _ _ HE23.out (by have := lt_heap K26.out; omega)).mono ?_
  rintro e w29 ⟨v', rfl, hR, hb⟩
  clear HE23
  have K31 := Lib.hid (keepB K24.out hb)
  clear K24
  have K32 := Lib.hid (keepB K27.out hb)
  clear K27
  have K33 := Lib.hid (keepB K25.out hb)
  clear K25
  have K34 := Lib.hid (keepB K26.out hb)
  clear K26
  have HB35 := Lib.hid (HB28.out.trans (hb.mono HB28.out.size))
  clear HB28
  obtain ⟨C30, rfl, hvs, hvo⟩ := hR.form
  have HRn := Lib.hid hR
  have HVO2 := Lib.hid hvo
  have HIV2 := Lib.hid (show (Tryd.prog.info? 65).map (·.size) = some C30.size by rw [hvs]; kernel_rfl)
  have HVS2 := Lib.hid (show (C15).size = C30.size by rw [hvs]; exact (show _ = _ from HVS1b.out))
  have HVS2b := Lib.hid hvs
  clear hb hR hvs hvo
  have HO36 := Lib.hid (show (C30 : Array Value).all (·.oneCell') = true from HVO2.out)
  go_wp2_with (first | go_skip | (refine wpList_store_to rfl 65 _ _ rfl (w.heap.size + 1) (C30) rfl rfl 65 (C15) K32.out HIV2.out HVS2.out HO36.out ?_))
  intro w37 hx hkk
  have HE38 := Lib.hid (HRn.out.kx hx.out (fun k e => .inl (.inr (by omega))))
  clear HRn
  have K39 := Lib.hid (hx.out.heap K31.out (by omega))
  clear K31
  have K40 := Lib.hid (hx.out.heap K33.out (by omega))
  clear K33
  have K41 := Lib.hid (hx.out.heap K34.out (by omega))
  clear K34
  have K42 := Lib.hid hkk
  clear hkk K32
  have HB43 := Lib.hid (HB35.out.trans (hx.out.below (B := w.heap.size) (fun k hk e => by omega) HB35.out.size))
  clear HB35 hx
  go_upto_region 11 with fail
  have HO44 := Lib.hid (show (#[.int .i64 0, .int .u32 0, .int .u32 0, .int .u32 0, .int .u16 0, .int .u16 0] : Array Value).all (·.oneCell') = true from by simp [Value.oneCell'])
  have HO45 := Lib.hid (show (C30 : Array Value).all (·.oneCell') = true from HVO2.out)
  refine wp_region_held_drew (S := KX (fun k => k = w.heap.size + 1 + 1 ∨ k = w.heap.size + 1 + 1 + 1) w37) (by kernel_rfl) ((KX.refl (fun k => k = w.heap.size + 1 + 1 ∨ k = w.heap.size + 1 + 1 + 1) w37).drew) (fun hHeld => ?_)
  refine wpAnyH_take (i := 0) (v := .agg (#[.int .i64 0, .int .u32 0, .int .u32 0, .int .u32 0, .int .u16 0, .int .u16 0])) rfl (by kernel_rfl) (by kernel_rfl) (by kernel_rfl) (fun _ _ _ h => h) (yieldsIf_build (by rfl) _ _ rfl (#[.int .i64 0, .int .u32 0, .int .u32 0, .int .u32 0, .int .u16 0, .int .u16 0]) (by kernel_rfl)) (by assumption) ?rest0t
  simp only [Act.put, List.getElem_toArray, List.getElem_cons_zero, List.setIfInBounds_toArray, List.set_cons_zero, List.set_cons_succ]
  refine wpAnyH_take (i := 1) rfl (by kernel_rfl) (by kernel_rfl) (by kernel_rfl) (fun _ _ _ h => h) (yieldsIf_load_mid (by rfl) 65 _ rfl (w.heap.size + 1) 0 rfl (C30).toList _ (fun W hSw => range_of_all (hSw.heap K42.out (by omega))) Tryd.underlying65 rfl ?hi1t) (by assumption) ?rest1t
  case hi1t => exact HIV2.out
  simp only [Act.put, List.getElem_toArray, List.getElem_cons_zero, List.getElem_cons_succ, List.setIfInBounds_toArray, List.set_cons_zero, List.set_cons_succ]
  refine wpAnyH_two_stores (i := 2) (j := 3) (w.heap.size + 1 + 1) (w.heap.size + 1 + 1 + 1) #[.int .i64 0, .int .u32 0, .int .u32 0, .int .u32 0, .int .u16 0, .int .u16 0] (C30) #[.int .i64 0, .int .u32 0, .int .u32 0, .int .u32 0, .int .u16 0, .int .u16 0] #[(.slice none 0 0 : Value), .slice none 0 0, .int .i64 0] 52 65 rfl rfl (by kernel_rfl) (by kernel_rfl) rfl rfl rfl rfl 52 65 _ _ _ _ rfl rfl rfl rfl rfl rfl K40.out K41.out (by kernel_rfl) HIV2.out rfl (by rw [HVS2b.out]; rfl) HO44.out HO45.out (by omega) hHeld ?_
  intro w46 hx hk1 hk2
  clear hHeld
  try simp only [List.setIfInBounds_toArray, List.set_cons_zero, List.set_cons_succ]
  refine wpAnyH_take (i := 4) (v := ?v4t) rfl (by kernel_rfl) (by kernel_rfl) (by kernel_rfl) (fun _ _ _ h => h) (Or.inl ⟨by rfl, ?hy4t⟩) (by assumption) ?rest4t
  case hy4t => (intro W hSw; go_simp; first | done | with_reducible rfl)
  simp only [Act.put, List.getElem_toArray, List.getElem_cons_zero, List.getElem_cons_succ, List.setIfInBounds_toArray, List.set_cons_zero, List.set_cons_succ]
  refine wpAnyH_done (by kernel_rfl) ?_ _
  have HE47 := Lib.hid (HE38.out.kx hx (fun k e => .inl (.inr (by omega))))
  clear HE38
  have K48 := Lib.hid (hx.heap K39.out (by omega))
  clear K39
  have K49 := Lib.hid (hx.heap K42.out (by omega))
  clear K42
  have K50 := Lib.hid hk1
  clear K40 hk1
  have K51 := Lib.hid hk2
  clear K41 hk2
  have HB52 := Lib.hid (HB43.out.trans (hx.below (B := w.heap.size) (fun k hk e => by omega) HB43.out.size))
  clear HB43 hx
  go_wp2_with fail
  exact bodyPost_ret (v := .tuple #[.agg #[.int .i64 0, .int .u32 0, .int .u32 0, .int .u32 0, .int .u16 0, .int .u16 0], .agg C30, .int .i64 22]) (results_2cell_tmp Tryd.results89 _ _ (w.heap.size + 1 + 1) (w.heap.size + 1 + 1 + 1) 52 65 #[.int .i64 0, .int .u32 0, .int .u32 0, .int .u32 0, .int .u16 0, .int .u16 0] C30 (0, 0) (0, 0) _ _ rfl rfl K50.out K51.out Tryd.underlying52 rfl (by kernel_rfl) Tryd.underlying65 rfl HIV2.out) rfl ⟨_, rfl, HE47.out.weak (fun k hk => .inl hk), HB52.out⟩
set_option maxRecDepth 100000 in
set_option maxHeartbeats 8000000 in
theorem ref13_Give_f3 {B : Nat} {F : Nat → Prop} {m1 m2 m3 : Mm} (size de av us la pu hd n p1 : Nat) (a : Int) (C0 : Array Value) (hc0 : C0.size = 3) (w : World) (hs1 : 1 ≤ size) (hs2 : size ≤ 256) (hdl : hd < size)
    (hpw : ((pu : Int) + 1) % 65536 = (p1 : Int)) (hpu : pu < 65536) (HARG : Hid (IntKind.u32.wrap (IntKind.u32.wrap ((us : Int) + 4) + IntKind.u32.wrap (8 * IntKind.u32.wrap ((IntKind.i64.wrap (pu : Int)).tmod (size : Int)))) = a))
    (HC : Hid (∀ W, Calls Tryd.prog 84 #[.agg #[.int .i64 size, .int .u32 de, .int .u32 av, .int .u32 us, .int .u16 la, .int .u16 pu]] W fun e w' => e = .returned (.int .i64 0) ∧ Below W.heap.size W w'))
    (S1 : Hid (∀ W, Below w.heap.size w W → w.heap.size + 4 ≤ W.heap.size → Calls Tryd.prog 117 #[.agg C0, .int .u32 a, .int .i64 4, .int .u32 hd] W fun e w' => ∃ v', e = .returned (.tuple #[v', .bool true]) ∧ RefF w' B v' m1 (fun k => F k ∨ (w.heap.size ≤ k ∧ k < w.heap.size + 4)) ∧ Below W.heap.size W w')) (S2 : Hid (∀ W v, RefF W B v m1 (fun k => F k ∨ (w.heap.size ≤ k ∧ k < w.heap.size + 4)) → w.heap.size + 4 ≤ W.heap.size → Calls Tryd.prog 117 #[v, .int .u32 (((a : Int) + 4) % 4294967296), .int .i64 4, .int .u32 n] W fun e w' => ∃ v', e = .returned (.tuple #[v', .bool true]) ∧ RefF w' B v' m2 (fun k => F k ∨ (w.heap.size ≤ k ∧ k < w.heap.size + 4)) ∧ Below W.heap.size W w')) (S3 : Hid (∀ W v, RefF W B v m2 (fun k => F k ∨ (w.heap.size ≤ k ∧ k < w.heap.size + 4)) → w.heap.size + 4 ≤ W.heap.size → Calls Tryd.prog 117 #[v, .int .u32 (((us : Int) + 2) % 4294967296), .int .i64 2, .int .u32 p1] W fun e w' => ∃ v', e = .returned (.tuple #[v', .bool false]) ∧ RefF w' B v' m3 (fun k => F k ∨ (w.heap.size ≤ k ∧ k < w.heap.size + 4)) ∧ Below W.heap.size W w')) :
    Calls Tryd.prog 89 #[.agg #[.int .i64 size, .int .u32 de, .int .u32 av, .int .u32 us, .int .u16 la, .int .u16 pu], .agg C0, .int .i64 hd, .int .u32 n] w fun e w' => ∃ v', e = .returned (.tuple #[.agg #[.int .i64 0, .int .u32 0, .int .u32 0, .int .u32 0, .int .u16 0, .int .u16 0], v', .int .i64 22]) ∧ RefF w' B v' m3 F ∧ Below w.heap.size w w' := by
  have HC0 := Lib.hid hc0
  have HI := Lib.hid (show (Tryd.prog.info? 65).map (·.size) = some C0.size by rw [hc0]; kernel_rfl)
  have hp0 : (0 : Int) ≤ (p1 : Int) := by omega
  have hpb : (p1 : Int) < 65536 := by omega
  have hp1 : ((pu : Int) + 1).tmod 65536 = (p1 : Int) := by rw [Int.tmod_eq_emod_of_nonneg (by omega)]; exact hpw
  have hp2 : (IntKind.i64.wrap ((pu : Int) + 1)).tmod 65536 = (p1 : Int) := by rw [IntKind.wrap_i64, Int.tmod_eq_emod_of_nonneg (by omega)]; omega
  have hp3 : (wrap64 ((pu : Int) + 1)).tmod 65536 = (p1 : Int) := by unfold wrap64; rw [Int.tmod_eq_emod_of_nonneg (by omega)]; omega
  have hpul : (pu : Int) < 65536 := by omega
  have hsz1 : (1 : Int) ≤ (size : Int) := by omega
  have hsz2 : (size : Int) ≤ 256 := by omega
  have hsz0 : ¬ size = 0 := by omega
  have hd0 : (0 : Int) ≤ (hd : Int) := by omega
  have hd1 : (hd : Int) < (size : Int) := by omega
  have hdN : decide (size ≤ hd) = false := by simp; omega
  have HPP := Lib.hid (And.intro hp1 (And.intro hp2 (And.intro hp3 (And.intro hp0 (And.intro hpb hpul)))))
  clear hc0 hs1 hs2 hdl hpw hpu hp0 hpb hp1 hp2 hp3 hpul
  obtain ⟨k0, k1, k2, k3, hb0⟩ := new4 w (.cells #[.int .i64 size, .int .u32 de, .int .u32 av, .int .u32 us, .int .u16 la, .int .u16 pu] 52) (.cells C0 65) (.cells #[.int .i64 0, .int .u32 0, .int .u32 0, .int .u32 0, .int .u16 0, .int .u16 0] 52) (.cells #[(.slice none 0 0 : Value), .slice none 0 0, .int .i64 0] 65)
  have K0a := Lib.hid k0
  have K1a := Lib.hid k1
  have K2a := Lib.hid k2
  have K3a := Lib.hid k3
  have HB0a := Lib.hid hb0
  clear k0 k1 k2 k3 hb0
  go_enter Tryd.func89, Tryd.ntmps89
  go_wp2_with (first | go_skip | (refine wpList_load_row rfl 52 _ rfl (w.heap.size) rfl 52 #[.int .i64 size, .int .u32 de, .int .u32 av, .int .u32 us, .int .u16 la, .int .u16 pu] (0, 0) _ K0a.out Tryd.underlying52 rfl (by kernel_rfl) ?_))
  refine (HC.out _).mono ?_
  rintro e w1 ⟨rfl, hb⟩
  have K2 := Lib.hid (keepB K0a.out hb)
  clear K0a
  have K3 := Lib.hid (keepB K1a.out hb)
  clear K1a
  have K4 := Lib.hid (keepB K2a.out hb)
  clear K2a
  have K5 := Lib.hid (keepB K3a.out hb)
  clear K3a
  have HB6 := Lib.hid (HB0a.out.trans (hb.mono HB0a.out.size))
  clear HB0a
  clear hb
  have cf7 := (cell_of_row _ _ 0 _ _ _ K2.out).trans (rfl : _ = some (.int .i64 size : Value))
  go_upto_region 5 with fail
  clear cf7
  refine wp_region_held_drew (S := fun W => KX (fun _ => False) (w1) W) (by kernel_rfl) ((KX.refl (fun _ => False) _).drew) (fun hHeld => ?_)
  refine wpAnyH_take (i := 0) (v := ?v0) rfl (by kernel_rfl) (by kernel_rfl) (by kernel_rfl) (fun _ _ _ h => h) (Or.inl ⟨by rfl, ?hy0⟩) (by assumption) ?rest0
  case hy0 => (intro W hSw; go_simp; first | done | with_reducible rfl)
  simp only [Act.put, List.getElem_toArray, List.getElem_cons_zero, List.setIfInBounds_toArray, List.set_cons_zero, List.set_cons_succ]
  refine wpAnyH_take (i := 1) (v := ?v1) rfl (by kernel_rfl) (by kernel_rfl) (by kernel_rfl) (fun _ _ _ h => h) (Or.inl ⟨by rfl, ?hy1⟩) (by assumption) ?rest1
  case hy1 => (intro W hSw; have cj := (cell_of_row _ _ 3 _ _ _ (hSw.heap K2.out id)).trans (rfl : _ = some (.int .u32 us : Value)); go_simp; first | done | with_reducible rfl)
  simp only [Act.put, List.getElem_toArray, List.getElem_cons_zero, List.getElem_cons_succ, List.setIfInBounds_toArray, List.set_cons_zero, List.set_cons_succ]
  refine wpAnyH_take (i := 2) (v := ?v2) rfl (by kernel_rfl) (by kernel_rfl) (by kernel_rfl) (fun _ _ _ h => h) (Or.inl ⟨by rfl, ?hy2⟩) (by assumption) ?rest2
  case hy2 => (intro W hSw; go_simp; first | done | with_reducible rfl)
  simp only [Act.put, List.getElem_toArray, List.getElem_cons_zero, List.getElem_cons_succ, List.setIfInBounds_toArray, List.set_cons_zero, List.set_cons_succ]
  refine wpAnyH_take (i := 3) (v := ?v3) rfl (by kernel_rfl) (by kernel_rfl) (by kernel_rfl) (fun _ _ _ h => h) (Or.inl ⟨by rfl, ?hy3⟩) (by assumption) ?rest3
  case hy3 => (intro W hSw; go_simp; first | done | with_reducible rfl)
  simp only [Act.put, List.getElem_toArray, List.getElem_cons_zero, List.getElem_cons_succ, List.setIfInBounds_toArray, List.set_cons_zero, List.set_cons_succ]
  refine wpAnyH_take (i := 4) (v := ?v4) rfl (by kernel_rfl) (by kernel_rfl) (by kernel_rfl) (fun _ _ _ h => h) (Or.inl ⟨by rfl, ?hy4⟩) (by assumption) ?rest4
  case hy4 => (intro W hSw; have cj := (cell_of_row _ _ 5 _ _ _ (hSw.heap K2.out id)).trans (rfl : _ = some (.int .u16 pu : Value)); go_simp; first | done | with_reducible rfl)
  simp only [Act.put, List.getElem_toArray, List.getElem_cons_zero, List.getElem_cons_succ, List.setIfInBounds_toArray, List.set_cons_zero, List.set_cons_succ]
  refine wpAnyH_take (i := 5) (v := ?v5) rfl (by kernel_rfl) (by kernel_rfl) (by kernel_rfl) (fun _ _ _ h => h) (Or.inl ⟨by rfl, ?hy5⟩) (by assumption) ?rest5
  case hy5 => (intro W hSw; go_simp; first | done | with_reducible rfl)
  simp only [Act.put, List.getElem_toArray, List.getElem_cons_zero, List.getElem_cons_succ, List.setIfInBounds_toArray, List.set_cons_zero, List.set_cons_succ]
  refine wpAnyH_take (i := 6) (v := ?v6) rfl (by kernel_rfl) (by kernel_rfl) (by kernel_rfl) (fun _ _ _ h => h) (Or.inl ⟨by rfl, ?hy6⟩) (by assumption) ?rest6
  case hy6 => (intro W hSw; go_simp; first | done | with_reducible rfl)
  simp only [Act.put, List.getElem_toArray, List.getElem_cons_zero, List.getElem_cons_succ, List.setIfInBounds_toArray, List.set_cons_zero, List.set_cons_succ]
  refine wpAnyH_take (i := 7) (v := ?v7) rfl (by kernel_rfl) (by kernel_rfl) (by kernel_rfl) (fun _ _ _ h => h) (Or.inl ⟨by rfl, ?hy7⟩) (by assumption) ?rest7
  case hy7 => (intro W hSw; have cj := (cell_of_row _ _ 0 _ _ _ (hSw.heap K2.out id)).trans (rfl : _ = some (.int .i64 size : Value)); go_simp; first | done | with_reducible rfl)
  simp only [Act.put, List.getElem_toArray, List.getElem_cons_zero, List.getElem_cons_succ, List.setIfInBounds_toArray, List.set_cons_zero, List.set_cons_succ]
  refine wpAnyH_take (i := 8) (v := ?v8) rfl (by kernel_rfl) (by kernel_rfl) (by kernel_rfl) (fun _ _ _ h => h) (Or.inl ⟨by rfl, ?hy8⟩) (by assumption) ?rest8
  case hy8 => (intro W hSw; go_simp; first | done | with_reducible rfl)
  simp only [Act.put, List.getElem_toArray, List.getElem_cons_zero, List.getElem_cons_succ, List.setIfInBounds_toArray, List.set_cons_zero, List.set_cons_succ]
  refine wpAnyH_take (i := 9) (v := ?v9) rfl (by kernel_rfl) (by kernel_rfl) (by kernel_rfl) (fun _ _ _ h => h) (Or.inl ⟨by rfl, ?hy9⟩) (by assumption) ?rest9
  case hy9 => (intro W hSw; go_simp; first | done | with_reducible rfl)
  simp only [Act.put, List.getElem_toArray, List.getElem_cons_zero, List.getElem_cons_succ, List.setIfInBounds_toArray, List.set_cons_zero, List.set_cons_succ]
  refine wpAnyH_take (i := 10) (v := ?v10) rfl (by kernel_rfl) (by kernel_rfl) (by kernel_rfl) (fun _ _ _ h => h) (Or.inl ⟨by rfl, ?hy10⟩) (by assumption) ?rest10
  case hy10 => (intro W hSw; go_simp; first | done | with_reducible rfl)
  simp only [Act.put, List.getElem_toArray, List.getElem_cons_zero, List.getElem_cons_succ, List.setIfInBounds_toArray, List.set_cons_zero, List.set_cons_succ]
  refine wpAnyH_take (i := 11) (v := ?v11) rfl (by kernel_rfl) (by kernel_rfl) (by kernel_rfl) (fun _ _ _ h => h) (Or.inl ⟨by rfl, ?hy11⟩) (by assumption) ?rest11
  case hy11 => (intro W hSw; have harg := HARG.out; go_simp; first | done | with_reducible rfl)
  simp only [Act.put, List.getElem_toArray, List.getElem_cons_zero, List.getElem_cons_succ, List.setIfInBounds_toArray, List.set_cons_zero, List.set_cons_succ]
  refine wpAnyH_take (i := 12) (v := ?v12) rfl (by kernel_rfl) (by kernel_rfl) (by kernel_rfl) (fun _ _ _ h => h) (Or.inl ⟨by rfl, ?hy12⟩) (by assumption) ?rest12
  case hy12 => (intro W hSw; go_simp; first | done | with_reducible rfl)
  simp only [Act.put, List.getElem_toArray, List.getElem_cons_zero, List.getElem_cons_succ, List.setIfInBounds_toArray, List.set_cons_zero, List.set_cons_succ]
  refine wpAnyH_done (by kernel_rfl) ?_ _
  clear hHeld
  have hb : Below (w1).heap.size (w1) (w1).drew := (Below.refl _ _).drew
  generalize (w1).drew = w8 at hb ⊢
  have K9 := Lib.hid (keepB K2.out hb)
  clear K2
  have K10 := Lib.hid (keepB K3.out hb)
  clear K3
  have K11 := Lib.hid (keepB K4.out hb)
  clear K4
  have K12 := Lib.hid (keepB K5.out hb)
  clear K5
  have HB13 := Lib.hid (HB6.out.trans (hb.mono HB6.out.size))
  clear HB6
  clear hb
  clear HARG
  go_wp2_with (first | go_skip | (refine wpList_load_row rfl 65 _ rfl (w.heap.size + 1) rfl 65 (C0) (0, 0) _ K10.out Tryd.underlying65 rfl HI.out ?_))
  refine (S1.out _ HB13.out (by have := lt_heap K12.out; omega)).mono ?_
  rintro e w14 ⟨v', rfl, hR, hb⟩
  have K16 := Lib.hid (keepB K9.out hb)
  clear K9
  have K17 := Lib.hid (keepB K10.out hb)
  clear K10
  have K18 := Lib.hid (keepB K11.out hb)
  clear K11
  have K19 := Lib.hid (keepB K12.out hb)
  clear K12
  have HB20 := Lib.hid (HB13.out.trans (hb.mono HB13.out.size))
  clear HB13
  obtain ⟨C15, rfl, hvs, hvo⟩ := hR.form
  have HRn := Lib.hid hR
  have HVO1 := Lib.hid hvo
  have HIV1 := Lib.hid (show (Tryd.prog.info? 65).map (·.size) = some C15.size by rw [hvs]; kernel_rfl)
  have HVS1 := Lib.hid (show (C0).size = C15.size by rw [hvs]; exact (show _ = _ from HC0.out))
  have HVS1b := Lib.hid hvs
  clear hb hR hvs hvo
  have HO21 := Lib.hid (show (C15 : Array Value).all (·.oneCell') = true from HVO1.out)
  go_wp2_with (first | go_skip | (refine wpList_store_to rfl 65 _ _ rfl (w.heap.size + 1) (C15) rfl rfl 65 (C0) K17.out HIV1.out HVS1.out HO21.out ?_))
  intro w22 hx hkk
  have HE23 := Lib.hid (HRn.out.kx hx.out (fun k e => .inl (.inr (by omega))))
  clear HRn
  have K24 := Lib.hid (hx.out.heap K16.out (by omega))
  clear K16
  have K25 := Lib.hid (hx.out.heap K18.out (by omega))
  clear K18
  have K26 := Lib.hid (hx.out.heap K19.out (by omega))
  clear K19
  have K27 := Lib.hid hkk
  clear hkk K17
  have HB28 := Lib.hid (HB20.out.trans (hx.out.below (B := w.heap.size) (fun k hk e => by omega) HB20.out.size))
  clear HB20 hx
  go_wp2_with (first | go_skip | (refine wpList_load_row rfl 65 _ rfl (w.heap.size + 1) rfl 65 (C15) (0, 0) _ K27.out Tryd.underlying65 rfl HIV1.out ?_))
  refine (S2.out _ _ HE23.out (by have := lt_heap K26.out; omega)).mono ?_
  rintro e w29 ⟨v', rfl, hR, hb⟩
  clear HE23
  have K31 := Lib.hid (keepB K24.out hb)
  clear K24
  have K32 := Lib.hid (keepB K27.out hb)
  clear K27
  have K33 := Lib.hid (keepB K25.out hb)
  clear K25
  have K34 := Lib.hid (keepB K26.out hb)
  clear K26
  have HB35 := Lib.hid (HB28.out.trans (hb.mono HB28.out.size))
  clear HB28
  obtain ⟨C30, rfl, hvs, hvo⟩ := hR.form
  have HRn := Lib.hid hR
  have HVO2 := Lib.hid hvo
  have HIV2 := Lib.hid (show (Tryd.prog.info? 65).map (·.size) = some C30.size by rw [hvs]; kernel_rfl)
  have HVS2 := Lib.hid (show (C15).size = C30.size by rw [hvs]; exact (show _ = _ from HVS1b.out))
  have HVS2b := Lib.hid hvs
  clear hb hR hvs hvo
  have HO36 := Lib.hid (show (C30 : Array Value).all (·.oneCell') = true from HVO2.out)
  go_wp2_with (first | go_skip | (refine wpList_store_to rfl 65 _ _ rfl (w.heap.size + 1) (C30) rfl rfl 65 (C15) K32.out HIV2.out HVS2.out HO36.out ?_))
  intro w37 hx hkk
  have HE38 := Lib.hid (HRn.out.kx hx.out (fun k e => .inl (.inr (by omega))))
  clear HRn
  have K39 := Lib.hid (hx.out.heap K31.out (by omega))
  clear K31
  have K40 := Lib.hid (hx.out.heap K33.out (by omega))
  clear K33
  have K41 := Lib.hid (hx.out.heap K34.out (by omega))
  clear K34
  have K42 := Lib.hid hkk
  clear hkk K32
  have HB43 := Lib.hid (HB35.out.trans (hx.out.below (B := w.heap.size) (fun k hk e => by omega) HB35.out.size))
  clear HB35 hx
  obtain ⟨hp1, hp2, hp3, hp0, hpb, hpul⟩ := HPP.out
  have cf44 := (cell_of_row _ _ 3 _ _ _ K39.out).trans (rfl : _ = some (.int .u32 us : Value))
  have cf45 := (cell_of_row _ _ 5 _ _ _ K39.out).trans (rfl : _ = some (.int .u16 pu : Value))
  go_wp2_with (first | go_skip | (refine wpList_load_row rfl 65 _ rfl (w.heap.size + 1) rfl 65 (C30) (0, 0) _ K42.out Tryd.underlying65 rfl HIV2.out ?_))
  refine (S3.out _ _ HE38.out (by have := lt_heap K41.out; omega)).mono ?_
  rintro e w46 ⟨v', rfl, hR, hb⟩
  clear HE38
  have K48 := Lib.hid (keepB K39.out hb)
  clear K39
  have K49 := Lib.hid (keepB K42.out hb)
  clear K42
  have K50 := Lib.hid (keepB K40.out hb)
  clear K40
  have K51 := Lib.hid (keepB K41.out hb)
  clear K41
  have HB52 := Lib.hid (HB43.out.trans (hb.mono HB43.out.size))
  clear HB43
  clear cf44 cf45
  obtain ⟨C47, rfl, hvs, hvo⟩ := hR.form
  have HRn := Lib.hid hR
  have HVO3 := Lib.hid hvo
  have HIV3 := Lib.hid (show (Tryd.prog.info? 65).map (·.size) = some C47.size by rw [hvs]; kernel_rfl)
  have HVS3 := Lib.hid (show (C30).size = C47.size by rw [hvs]; exact (show _ = _ from HVS2b.out))
  have HVS3b := Lib.hid hvs
  clear hb hR hvs hvo
  have HO53 := Lib.hid (show (C47 : Array Value).all (·.oneCell') = true from HVO3.out)
  go_wp2_with (first | go_skip | (refine wpList_store_to rfl 65 _ _ rfl (w.heap.size + 1) (C47) rfl rfl 65 (C30) K49.out HIV3.out HVS3.out HO53.out ?_))
  intro w54 hx hkk
  have HE55 := Lib.hid (HRn.out.kx hx.out (fun k e => .inl (.inr (by omega))))
  clear HRn
  have K56 := Lib.hid (hx.out.heap K48.out (by omega))
  clear K48
  have K57 := Lib.hid (hx.out.heap K50.out (by omega))
  clear K50
  have K58 := Lib.hid (hx.out.heap K51.out (by omega))
  clear K51
  have K59 := Lib.hid hkk
  clear hkk K49
  have HB60 := Lib.hid (HB52.out.trans (hx.out.below (B := w.heap.size) (fun k hk e => by omega) HB52.out.size))
  clear HB52 hx
  go_upto_region 14 with fail
  have HO61 := Lib.hid (show (#[.int .i64 0, .int .u32 0, .int .u32 0, .int .u32 0, .int .u16 0, .int .u16 0] : Array Value).all (·.oneCell') = true from by simp [Value.oneCell'])
  have HO62 := Lib.hid (show (C47 : Array Value).all (·.oneCell') = true from HVO3.out)
  refine wp_region_held_drew (S := KX (fun k => k = w.heap.size + 1 + 1 ∨ k = w.heap.size + 1 + 1 + 1) w54) (by kernel_rfl) ((KX.refl (fun k => k = w.heap.size + 1 + 1 ∨ k = w.heap.size + 1 + 1 + 1) w54).drew) (fun hHeld => ?_)
  refine wpAnyH_take (i := 0) (v := .agg (#[.int .i64 0, .int .u32 0, .int .u32 0, .int .u32 0, .int .u16 0, .int .u16 0])) rfl (by kernel_rfl) (by kernel_rfl) (by kernel_rfl) (fun _ _ _ h => h) (yieldsIf_build (by rfl) _ _ rfl (#[.int .i64 0, .int .u32 0, .int .u32 0, .int .u32 0, .int .u16 0, .int .u16 0]) (by kernel_rfl)) (by assumption) ?rest0t
  simp only [Act.put, List.getElem_toArray, List.getElem_cons_zero, List.setIfInBounds_toArray, List.set_cons_zero, List.set_cons_succ]
  refine wpAnyH_take (i := 1) rfl (by kernel_rfl) (by kernel_rfl) (by kernel_rfl) (fun _ _ _ h => h) (yieldsIf_load_mid (by rfl) 65 _ rfl (w.heap.size + 1) 0 rfl (C47).toList _ (fun W hSw => range_of_all (hSw.heap K59.out (by omega))) Tryd.underlying65 rfl ?hi1t) (by assumption) ?rest1t
  case hi1t => exact HIV3.out
  simp only [Act.put, List.getElem_toArray, List.getElem_cons_zero, List.getElem_cons_succ, List.setIfInBounds_toArray, List.set_cons_zero, List.set_cons_succ]
  refine wpAnyH_two_stores (i := 2) (j := 3) (w.heap.size + 1 + 1) (w.heap.size + 1 + 1 + 1) #[.int .i64 0, .int .u32 0, .int .u32 0, .int .u32 0, .int .u16 0, .int .u16 0] (C47) #[.int .i64 0, .int .u32 0, .int .u32 0, .int .u32 0, .int .u16 0, .int .u16 0] #[(.slice none 0 0 : Value), .slice none 0 0, .int .i64 0] 52 65 rfl rfl (by kernel_rfl) (by kernel_rfl) rfl rfl rfl rfl 52 65 _ _ _ _ rfl rfl rfl rfl rfl rfl K57.out K58.out (by kernel_rfl) HIV3.out rfl (by rw [HVS3b.out]; rfl) HO61.out HO62.out (by omega) hHeld ?_
  intro w63 hx hk1 hk2
  clear hHeld
  try simp only [List.setIfInBounds_toArray, List.set_cons_zero, List.set_cons_succ]
  refine wpAnyH_take (i := 4) (v := ?v4t) rfl (by kernel_rfl) (by kernel_rfl) (by kernel_rfl) (fun _ _ _ h => h) (Or.inl ⟨by rfl, ?hy4t⟩) (by assumption) ?rest4t
  case hy4t => (intro W hSw; go_simp; first | done | with_reducible rfl)
  simp only [Act.put, List.getElem_toArray, List.getElem_cons_zero, List.getElem_cons_succ, List.setIfInBounds_toArray, List.set_cons_zero, List.set_cons_succ]
  refine wpAnyH_done (by kernel_rfl) ?_ _
  have HE64 := Lib.hid (HE55.out.kx hx (fun k e => .inl (.inr (by omega))))
  clear HE55
  have K65 := Lib.hid (hx.heap K56.out (by omega))
  clear K56
  have K66 := Lib.hid (hx.heap K59.out (by omega))
  clear K59
  have K67 := Lib.hid hk1
  clear K57 hk1
  have K68 := Lib.hid hk2
  clear K58 hk2
  have HB69 := Lib.hid (HB60.out.trans (hx.below (B := w.heap.size) (fun k hk e => by omega) HB60.out.size))
  clear HB60 hx
  go_wp2_with fail
  exact bodyPost_ret (v := .tuple #[.agg #[.int .i64 0, .int .u32 0, .int .u32 0, .int .u32 0, .int .u16 0, .int .u16 0], .agg C47, .int .i64 22]) (results_2cell_tmp Tryd.results89 _ _ (w.heap.size + 1 + 1) (w.heap.size + 1 + 1 + 1) 52 65 #[.int .i64 0, .int .u32 0, .int .u32 0, .int .u32 0, .int .u16 0, .int .u16 0] C47 (0, 0) (0, 0) _ _ rfl rfl K67.out K68.out Tryd.underlying52 rfl (by kernel_rfl) Tryd.underlying65 rfl HIV3.out) rfl ⟨_, rfl, HE64.out.weak (fun k hk => .inl hk), HB69.out⟩
set_option maxRecDepth 100000 in
set_option maxHeartbeats 8000000 in
theorem ref13_Give_ok {B : Nat} {F : Nat → Prop} {m1 m2 m3 : Mm} (size de av us la pu hd n p1 : Nat) (a : Int) (C0 : Array Value) (hc0 : C0.size = 3) (w : World) (hs1 : 1 ≤ size) (hs2 : size ≤ 256) (hdl : hd < size)
    (hpw : ((pu : Int) + 1) % 65536 = (p1 : Int)) (hpu : pu < 65536) (HARG : Hid (IntKind.u32.wrap (IntKind.u32.wrap ((us : Int) + 4) + IntKind.u32.wrap (8 * IntKind.u32.wrap ((IntKind.i64.wrap (pu : Int)).tmod (size : Int)))) = a))
    (HC : Hid (∀ W, Calls Tryd.prog 84 #[.agg #[.int .i64 size, .int .u32 de, .int .u32 av, .int .u32 us, .int .u16 la, .int .u16 pu]] W fun e w' => e = .returned (.int .i64 0) ∧ Below W.heap.size W w'))
    (S1 : Hid (∀ W, Below w.heap.size w W → w.heap.size + 4 ≤ W.heap.size → Calls Tryd.prog 117 #[.agg C0, .int .u32 a, .int .i64 4, .int .u32 hd] W fun e w' => ∃ v', e = .returned (.tuple #[v', .bool true]) ∧ RefF w' B v' m1 (fun k => F k ∨ (w.heap.size ≤ k ∧ k < w.heap.size + 4)) ∧ Below W.heap.size W w')) (S2 : Hid (∀ W v, RefF W B v m1 (fun k => F k ∨ (w.heap.size ≤ k ∧ k < w.heap.size + 4)) → w.heap.size + 4 ≤ W.heap.size → Calls Tryd.prog 117 #[v, .int .u32 (((a : Int) + 4) % 4294967296), .int .i64 4, .int .u32 n] W fun e w' => ∃ v', e = .returned (.tuple #[v', .bool true]) ∧ RefF w' B v' m2 (fun k => F k ∨ (w.heap.size ≤ k ∧ k < w.heap.size + 4)) ∧ Below W.heap.size W w')) (S3 : Hid (∀ W v, RefF W B v m2 (fun k => F k ∨ (w.heap.size ≤ k ∧ k < w.heap.size + 4)) → w.heap.size + 4 ≤ W.heap.size → Calls Tryd.prog 117 #[v, .int .u32 (((us : Int) + 2) % 4294967296), .int .i64 2, .int .u32 p1] W fun e w' => ∃ v', e = .returned (.tuple #[v', .bool true]) ∧ RefF w' B v' m3 (fun k => F k ∨ (w.heap.size ≤ k ∧ k < w.heap.size + 4)) ∧ Below W.heap.size W w')) :
    Calls Tryd.prog 89 #[.agg #[.int .i64 size, .int .u32 de, .int .u32 av, .int .u32 us, .int .u16 la, .int .u16 pu], .agg C0, .int .i64 hd, .int .u32 n] w fun e w' => ∃ v', e = .returned (.tuple #[.agg #[.int .i64 size, .int .u32 de, .int .u32 av, .int .u32 us, .int .u16 la, .int .u16 (IntKind.u16.wrap ((pu : Int) + 1))], v', .int .i64 0]) ∧ RefF w' B v' m3 F ∧ Below w.heap.size w w' := by
  have HC0 := Lib.hid hc0
  have HI := Lib.hid (show (Tryd.prog.info? 65).map (·.size) = some C0.size by rw [hc0]; kernel_rfl)
  have hp0 : (0 : Int) ≤ (p1 : Int) := by omega
  have hpb : (p1 : Int) < 65536 := by omega
  have hp1 : ((pu : Int) + 1).tmod 65536 = (p1 : Int) := by rw [Int.tmod_eq_emod_of_nonneg (by omega)]; exact hpw
  have hp2 : (IntKind.i64.wrap ((pu : Int) + 1)).tmod 65536 = (p1 : Int) := by rw [IntKind.wrap_i64, Int.tmod_eq_emod_of_nonneg (by omega)]; omega
  have hp3 : (wrap64 ((pu : Int) + 1)).tmod 65536 = (p1 : Int) := by unfold wrap64; rw [Int.tmod_eq_emod_of_nonneg (by omega)]; omega
  have hpul : (pu : Int) < 65536 := by omega
  have hsz1 : (1 : Int) ≤ (size : Int) := by omega
  have hsz2 : (size : Int) ≤ 256 := by omega
  have hsz0 : ¬ size = 0 := by omega
  have hd0 : (0 : Int) ≤ (hd : Int) := by omega
  have hd1 : (hd : Int) < (size : Int) := by omega
  have hdN : decide (size ≤ hd) = false := by simp; omega
  have HPP := Lib.hid (And.intro hp1 (And.intro hp2 (And.intro hp3 (And.intro hp0 (And.intro hpb hpul)))))
  clear hc0 hs1 hs2 hdl hpw hpu hp0 hpb hp1 hp2 hp3 hpul
  obtain ⟨k0, k1, k2, k3, hb0⟩ := new4 w (.cells #[.int .i64 size, .int .u32 de, .int .u32 av, .int .u32 us, .int .u16 la, .int .u16 pu] 52) (.cells C0 65) (.cells #[.int .i64 0, .int .u32 0, .int .u32 0, .int .u32 0, .int .u16 0, .int .u16 0] 52) (.cells #[(.slice none 0 0 : Value), .slice none 0 0, .int .i64 0] 65)
  have K0a := Lib.hid k0
  have K1a := Lib.hid k1
  have K2a := Lib.hid k2
  have K3a := Lib.hid k3
  have HB0a := Lib.hid hb0
  clear k0 k1 k2 k3 hb0
  go_enter Tryd.func89, Tryd.ntmps89
  go_wp2_with (first | go_skip | (refine wpList_load_row rfl 52 _ rfl (w.heap.size) rfl 52 #[.int .i64 size, .int .u32 de, .int .u32 av, .int .u32 us, .int .u16 la, .int .u16 pu] (0, 0) _ K0a.out Tryd.underlying52 rfl (by kernel_rfl) ?_))
  refine (HC.out _).mono ?_
  rintro e w1 ⟨rfl, hb⟩
  have K2 := Lib.hid (keepB K0a.out hb)
  clear K0a
  have K3 := Lib.hid (keepB K1a.out hb)
  clear K1a
  have K4 := Lib.hid (keepB K2a.out hb)
  clear K2a
  have K5 := Lib.hid (keepB K3a.out hb)
  clear K3a
  have HB6 := Lib.hid (HB0a.out.trans (hb.mono HB0a.out.size))
  clear HB0a
  clear hb
  have cf7 := (cell_of_row _ _ 0 _ _ _ K2.out).trans (rfl : _ = some (.int .i64 size : Value))
  go_upto_region 5 with fail
  clear cf7
  refine wp_region_held_drew (S := fun W => KX (fun _ => False) (w1) W) (by kernel_rfl) ((KX.refl (fun _ => False) _).drew) (fun hHeld => ?_)
  refine wpAnyH_take (i := 0) (v := ?v0) rfl (by kernel_rfl) (by kernel_rfl) (by kernel_rfl) (fun _ _ _ h => h) (Or.inl ⟨by rfl, ?hy0⟩) (by assumption) ?rest0
  case hy0 => (intro W hSw; go_simp; first | done | with_reducible rfl)
  simp only [Act.put, List.getElem_toArray, List.getElem_cons_zero, List.setIfInBounds_toArray, List.set_cons_zero, List.set_cons_succ]
  refine wpAnyH_take (i := 1) (v := ?v1) rfl (by kernel_rfl) (by kernel_rfl) (by kernel_rfl) (fun _ _ _ h => h) (Or.inl ⟨by rfl, ?hy1⟩) (by assumption) ?rest1
  case hy1 => (intro W hSw; have cj := (cell_of_row _ _ 3 _ _ _ (hSw.heap K2.out id)).trans (rfl : _ = some (.int .u32 us : Value)); go_simp; first | done | with_reducible rfl)
  simp only [Act.put, List.getElem_toArray, List.getElem_cons_zero, List.getElem_cons_succ, List.setIfInBounds_toArray, List.set_cons_zero, List.set_cons_succ]
  refine wpAnyH_take (i := 2) (v := ?v2) rfl (by kernel_rfl) (by kernel_rfl) (by kernel_rfl) (fun _ _ _ h => h) (Or.inl ⟨by rfl, ?hy2⟩) (by assumption) ?rest2
  case hy2 => (intro W hSw; go_simp; first | done | with_reducible rfl)
  simp only [Act.put, List.getElem_toArray, List.getElem_cons_zero, List.getElem_cons_succ, List.setIfInBounds_toArray, List.set_cons_zero, List.set_cons_succ]
  refine wpAnyH_take (i := 3) (v := ?v3) rfl (by kernel_rfl) (by kernel_rfl) (by kernel_rfl) (fun _ _ _ h => h) (Or.inl ⟨by rfl, ?hy3⟩) (by assumption) ?rest3
  case hy3 => (intro W hSw; go_simp; first | done | with_reducible rfl)
  simp only [Act.put, List.getElem_toArray, List.getElem_cons_zero, List.getElem_cons_succ, List.setIfInBounds_toArray, List.set_cons_zero, List.set_cons_succ]
  refine wpAnyH_take (i := 4) (v := ?v4) rfl (by kernel_rfl) (by kernel_rfl) (by kernel_rfl) (fun _ _ _ h => h) (Or.inl ⟨by rfl, ?hy4⟩) (by assumption) ?rest4
  case hy4 => (intro W hSw; have cj := (cell_of_row _ _ 5 _ _ _ (hSw.heap K2.out id)).trans (rfl : _ = some (.int .u16 pu : Value)); go_simp; first | done | with_reducible rfl)
  simp only [Act.put, List.getElem_toArray, List.getElem_cons_zero, List.getElem_cons_succ, List.setIfInBounds_toArray, List.set_cons_zero, List.set_cons_succ]
  refine wpAnyH_take (i := 5) (v := ?v5) rfl (by kernel_rfl) (by kernel_rfl) (by kernel_rfl) (fun _ _ _ h => h) (Or.inl ⟨by rfl, ?hy5⟩) (by assumption) ?rest5
  case hy5 => (intro W hSw; go_simp; first | done | with_reducible rfl)
  simp only [Act.put, List.getElem_toArray, List.getElem_cons_zero, List.getElem_cons_succ, List.setIfInBounds_toArray, List.set_cons_zero, List.set_cons_succ]
  refine wpAnyH_take (i := 6) (v := ?v6) rfl (by kernel_rfl) (by kernel_rfl) (by kernel_rfl) (fun _ _ _ h => h) (Or.inl ⟨by rfl, ?hy6⟩) (by assumption) ?rest6
  case hy6 => (intro W hSw; go_simp; first | done | with_reducible rfl)
  simp only [Act.put, List.getElem_toArray, List.getElem_cons_zero, List.getElem_cons_succ, List.setIfInBounds_toArray, List.set_cons_zero, List.set_cons_succ]
  refine wpAnyH_take (i := 7) (v := ?v7) rfl (by kernel_rfl) (by kernel_rfl) (by kernel_rfl) (fun _ _ _ h => h) (Or.inl ⟨by rfl, ?hy7⟩) (by assumption) ?rest7
  case hy7 => (intro W hSw; have cj := (cell_of_row _ _ 0 _ _ _ (hSw.heap K2.out id)).trans (rfl : _ = some (.int .i64 size : Value)); go_simp; first | done | with_reducible rfl)
  simp only [Act.put, List.getElem_toArray, List.getElem_cons_zero, List.getElem_cons_succ, List.setIfInBounds_toArray, List.set_cons_zero, List.set_cons_succ]
  refine wpAnyH_take (i := 8) (v := ?v8) rfl (by kernel_rfl) (by kernel_rfl) (by kernel_rfl) (fun _ _ _ h => h) (Or.inl ⟨by rfl, ?hy8⟩) (by assumption) ?rest8
  case hy8 => (intro W hSw; go_simp; first | done | with_reducible rfl)
  simp only [Act.put, List.getElem_toArray, List.getElem_cons_zero, List.getElem_cons_succ, List.setIfInBounds_toArray, List.set_cons_zero, List.set_cons_succ]
  refine wpAnyH_take (i := 9) (v := ?v9) rfl (by kernel_rfl) (by kernel_rfl) (by kernel_rfl) (fun _ _ _ h => h) (Or.inl ⟨by rfl, ?hy9⟩) (by assumption) ?rest9
  case hy9 => (intro W hSw; go_simp; first | done | with_reducible rfl)
  simp only [Act.put, List.getElem_toArray, List.getElem_cons_zero, List.getElem_cons_succ, List.setIfInBounds_toArray, List.set_cons_zero, List.set_cons_succ]
  refine wpAnyH_take (i := 10) (v := ?v10) rfl (by kernel_rfl) (by kernel_rfl) (by kernel_rfl) (fun _ _ _ h => h) (Or.inl ⟨by rfl, ?hy10⟩) (by assumption) ?rest10
  case hy10 => (intro W hSw; go_simp; first | done | with_reducible rfl)
  simp only [Act.put, List.getElem_toArray, List.getElem_cons_zero, List.getElem_cons_succ, List.setIfInBounds_toArray, List.set_cons_zero, List.set_cons_succ]
  refine wpAnyH_take (i := 11) (v := ?v11) rfl (by kernel_rfl) (by kernel_rfl) (by kernel_rfl) (fun _ _ _ h => h) (Or.inl ⟨by rfl, ?hy11⟩) (by assumption) ?rest11
  case hy11 => (intro W hSw; have harg := HARG.out; go_simp; first | done | with_reducible rfl)
  simp only [Act.put, List.getElem_toArray, List.getElem_cons_zero, List.getElem_cons_succ, List.setIfInBounds_toArray, List.set_cons_zero, List.set_cons_succ]
  refine wpAnyH_take (i := 12) (v := ?v12) rfl (by kernel_rfl) (by kernel_rfl) (by kernel_rfl) (fun _ _ _ h => h) (Or.inl ⟨by rfl, ?hy12⟩) (by assumption) ?rest12
  case hy12 => (intro W hSw; go_simp; first | done | with_reducible rfl)
  simp only [Act.put, List.getElem_toArray, List.getElem_cons_zero, List.getElem_cons_succ, List.setIfInBounds_toArray, List.set_cons_zero, List.set_cons_succ]
  refine wpAnyH_done (by kernel_rfl) ?_ _
  clear hHeld
  have hb : Below (w1).heap.size (w1) (w1).drew := (Below.refl _ _).drew
  generalize (w1).drew = w8 at hb ⊢
  have K9 := Lib.hid (keepB K2.out hb)
  clear K2
  have K10 := Lib.hid (keepB K3.out hb)
  clear K3
  have K11 := Lib.hid (keepB K4.out hb)
  clear K4
  have K12 := Lib.hid (keepB K5.out hb)
  clear K5
  have HB13 := Lib.hid (HB6.out.trans (hb.mono HB6.out.size))
  clear HB6
  clear hb
  clear HARG
  go_wp2_with (first | go_skip | (refine wpList_load_row rfl 65 _ rfl (w.heap.size + 1) rfl 65 (C0) (0, 0) _ K10.out Tryd.underlying65 rfl HI.out ?_))
  refine (S1.out _ HB13.out (by have := lt_heap K12.out; omega)).mono ?_
  rintro e w14 ⟨v', rfl, hR, hb⟩
  have K16 := Lib.hid (keepB K9.out hb)
  clear K9
  have K17 := Lib.hid (keepB K10.out hb)
  clear K10
  have K18 := Lib.hid (keepB K11.out hb)
  clear K11
  have K19 := Lib.hid (keepB K12.out hb)
  clear K12
  have HB20 := Lib.hid (HB13.out.trans (hb.mono HB13.out.size))
  clear HB13
  obtain ⟨C15, rfl, hvs, hvo⟩ := hR.form
  have HRn := Lib.hid hR
  have HVO1 := Lib.hid hvo
  have HIV1 := Lib.hid (show (Tryd.prog.info? 65).map (·.size) = some C15.size by rw [hvs]; kernel_rfl)
  have HVS1 := Lib.hid (show (C0).size = C15.size by rw [hvs]; exact (show _ = _ from HC0.out))
  have HVS1b := Lib.hid hvs
  clear hb hR hvs hvo
  have HO21 := Lib.hid (show (C15 : Array Value).all (·.oneCell') = true from HVO1.out)
  go_wp2_with (first | go_skip | (refine wpList_store_to rfl 65 _ _ rfl (w.heap.size + 1) (C15) rfl rfl 65 (C0) K17.out HIV1.out HVS1.out HO21.out ?_))
  intro w22 hx hkk
  have HE23 := Lib.hid (HRn.out.kx hx.out (fun k e => .inl (.inr (by omega))))
  clear HRn
  have K24 := Lib.hid (hx.out.heap K16.out (by omega))
  clear K16
  have K25 := Lib.hid (hx.out.heap K18.out (by omega))
  clear K18
  have K26 := Lib.hid (hx.out.heap K19.out (by omega))
  clear K19
  have K27 := Lib.hid hkk
  clear hkk K17
  have HB28 := Lib.hid (HB20.out.trans (hx.out.below (B := w.heap.size) (fun k hk e => by omega) HB20.out.size))
  clear HB20 hx
  go_wp2_with (first | go_skip | (refine wpList_load_row rfl 65 _ rfl (w.heap.size + 1) rfl 65 (C15) (0, 0) _ K27.out Tryd.underlying65 rfl HIV1.out ?_))
  refine (S2.out _ _ HE23.out (by have := lt_heap K26.out; omega)).mono ?_
  rintro e w29 ⟨v', rfl, hR, hb⟩
  clear HE23
  have K31 := Lib.hid (keepB K24.out hb)
  clear K24
  have K32 := Lib.hid (keepB K27.out hb)
  clear K27
  have K33 := Lib.hid (keepB K25.out hb)
  clear K25
  have K34 := Lib.hid (keepB K26.out hb)
  clear K26
  have HB35 := Lib.hid (HB28.out.trans (hb.mono HB28.out.size))
  clear HB28
  obtain ⟨C30, rfl, hvs, hvo⟩ := hR.form
  have HRn := Lib.hid hR
  have HVO2 := Lib.hid hvo
  have HIV2 := Lib.hid (show (Tryd.prog.info? 65).map (·.size) = some C30.size by rw [hvs]; kernel_rfl)
  have HVS2 := Lib.hid (show (C15).size = C30.size by rw [hvs]; exact (show _ = _ from HVS1b.out))
  have HVS2b := Lib.hid hvs
  clear hb hR hvs hvo
  have HO36 := Lib.hid (show (C30 : Array Value).all (·.oneCell') = true from HVO2.out)
  go_wp2_with (first | go_skip | (refine wpList_store_to rfl 65 _ _ rfl (w.heap.size + 1) (C30) rfl rfl 65 (C15) K32.out HIV2.out HVS2.out HO36.out ?_))
  intro w37 hx hkk
  have HE38 := Lib.hid (HRn.out.kx hx.out (fun k e => .inl (.inr (by omega))))
  clear HRn
  have K39 := Lib.hid (hx.out.heap K31.out (by omega))
  clear K31
  have K40 := Lib.hid (hx.out.heap K33.out (by omega))
  clear K33
  have K41 := Lib.hid (hx.out.heap K34.out (by omega))
  clear K34
  have K42 := Lib.hid hkk
  clear hkk K32
  have HB43 := Lib.hid (HB35.out.trans (hx.out.below (B := w.heap.size) (fun k hk e => by omega) HB35.out.size))
  clear HB35 hx
  obtain ⟨hp1, hp2, hp3, hp0, hpb, hpul⟩ := HPP.out
  have cf44 := (cell_of_row _ _ 3 _ _ _ K39.out).trans (rfl : _ = some (.int .u32 us : Value))
  have cf45 := (cell_of_row _ _ 5 _ _ _ K39.out).trans (rfl : _ = some (.int .u16 pu : Value))
  go_wp2_with (first | go_skip | (refine wpList_load_row rfl 65 _ rfl (w.heap.size + 1) rfl 65 (C30) (0, 0) _ K42.out Tryd.underlying65 rfl HIV2.out ?_))
  refine (S3.out _ _ HE38.out (by have := lt_heap K41.out; omega)).mono ?_
  rintro e w46 ⟨v', rfl, hR, hb⟩
  clear HE38
  have K48 := Lib.hid (keepB K39.out hb)
  clear K39
  have K49 := Lib.hid (keepB K42.out hb)
  clear K42
  have K50 := Lib.hid (keepB K40.out hb)
  clear K40
  have K51 := Lib.hid (keepB K41.out hb)
  clear K41
  have HB52 := Lib.hid (HB43.out.trans (hb.mono HB43.out.size))
  clear HB43
  clear cf44 cf45
  obtain ⟨C47, rfl, hvs, hvo⟩ := hR.form
  have HRn := Lib.hid hR
  have HVO3 := Lib.hid hvo
  have HIV3 := Lib.hid (show (Tryd.prog.info? 65).map (·.size) = some C47.size by rw [hvs]; kernel_rfl)
  have HVS3 := Lib.hid (show (C30).size = C47.size by rw [hvs]; exact (show _ = _ from HVS2b.out))
  have HVS3b := Lib.hid hvs
  clear hb hR hvs hvo
  have HO53 := Lib.hid (show (C47 : Array Value).all (·.oneCell') = true from HVO3.out)
  go_wp2_with (first | go_skip | (refine wpList_store_to rfl 65 _ _ rfl (w.heap.size + 1) (C47) rfl rfl 65 (C30) K49.out HIV3.out HVS3.out HO53.out ?_))
  intro w54 hx hkk
  have HE55 := Lib.hid (HRn.out.kx hx.out (fun k e => .inl (.inr (by omega))))
  clear HRn
  have K56 := Lib.hid (hx.out.heap K48.out (by omega))
  clear K48
  have K57 := Lib.hid (hx.out.heap K50.out (by omega))
  clear K50
  have K58 := Lib.hid (hx.out.heap K51.out (by omega))
  clear K51
  have K59 := Lib.hid hkk
  clear hkk K49
  have HB60 := Lib.hid (HB52.out.trans (hx.out.below (B := w.heap.size) (fun k hk e => by omega) HB52.out.size))
  clear HB52 hx
  go_upto_region 15 with fail
  have cf61 := (cell_of_row _ _ 5 _ _ _ K56.out).trans (rfl : _ = some (.int .u16 pu : Value))
  have f62 := frozen_of_row _ _ 5 _ _ K56.out
  have hkk : ((w54).setCell ⟨w.heap.size, 5, none⟩ (.int .u16 (IntKind.u16.wrap ((pu : Int) + 1)))).heap[w.heap.size]? = some (.cells #[.int .i64 size, .int .u32 de, .int .u32 av, .int .u32 us, .int .u16 la, .int .u16 (IntKind.u16.wrap ((pu : Int) + 1))] 52 (0, 0)) := (set_cells K56.out).trans (rfl)
  have hx64 := Lib.hid (show KX (fun k => k = w.heap.size) w54 ((w54).setCell ⟨w.heap.size, 5, none⟩ (.int .u16 (IntKind.u16.wrap ((pu : Int) + 1)))) from (KX.refl (fun k => k = w.heap.size) w54).setCell (p := ⟨w.heap.size, 5, none⟩) (.inl rfl) _)
  go_upto_region 16 with fail
  generalize (w54).setCell ⟨w.heap.size, 5, none⟩ (.int .u16 (IntKind.u16.wrap ((pu : Int) + 1))) = w63 at hkk hx64 ⊢
  have HE65 := Lib.hid (HE55.out.kx hx64.out (fun k e => .inl (.inr (by omega))))
  clear HE55
  clear cf61 f62
  have K66 := Lib.hid (hx64.out.heap K59.out (by omega))
  clear K59
  have K67 := Lib.hid (hx64.out.heap K57.out (by omega))
  clear K57
  have K68 := Lib.hid (hx64.out.heap K58.out (by omega))
  clear K58
  have K69 := Lib.hid hkk
  clear hkk K56
  have HB70 := Lib.hid (HB60.out.trans (hx64.out.below (B := w.heap.size) (fun k hk e => by omega) HB60.out.size))
  clear HB60 hx64
  have HO71 := Lib.hid (show (#[.int .i64 size, .int .u32 de, .int .u32 av, .int .u32 us, .int .u16 la, .int .u16 (IntKind.u16.wrap ((pu : Int) + 1))] : Array Value).all (·.oneCell') = true from by simp [Value.oneCell'])
  have HO72 := Lib.hid (show (C47 : Array Value).all (·.oneCell') = true from HVO3.out)
  refine wp_region_held_drew (S := KX (fun k => k = w.heap.size + 1 + 1 ∨ k = w.heap.size + 1 + 1 + 1) w63) (by kernel_rfl) ((KX.refl (fun k => k = w.heap.size + 1 + 1 ∨ k = w.heap.size + 1 + 1 + 1) w63).drew) (fun hHeld => ?_)
  refine wpAnyH_take (i := 0) rfl (by kernel_rfl) (by kernel_rfl) (by kernel_rfl) (fun _ _ _ h => h) (yieldsIf_load_mid (by rfl) 52 _ rfl (w.heap.size) 0 rfl (#[.int .i64 size, .int .u32 de, .int .u32 av, .int .u32 us, .int .u16 la, .int .u16 (IntKind.u16.wrap ((pu : Int) + 1))]).toList _ (fun W hSw => range_of_all (hSw.heap K69.out (by omega))) Tryd.underlying52 rfl ?hi0t) (by assumption) ?rest0t
  case hi0t => exact (by kernel_rfl)
  simp only [Act.put, List.getElem_toArray, List.getElem_cons_zero, List.setIfInBounds_toArray, List.set_cons_zero, List.set_cons_succ]
  refine wpAnyH_take (i := 1) rfl (by kernel_rfl) (by kernel_rfl) (by kernel_rfl) (fun _ _ _ h => h) (yieldsIf_load_mid (by rfl) 65 _ rfl (w.heap.size + 1) 0 rfl (C47).toList _ (fun W hSw => range_of_all (hSw.heap K66.out (by omega))) Tryd.underlying65 rfl ?hi1t) (by assumption) ?rest1t
  case hi1t => exact HIV3.out
  simp only [Act.put, List.getElem_toArray, List.getElem_cons_zero, List.getElem_cons_succ, List.setIfInBounds_toArray, List.set_cons_zero, List.set_cons_succ]
  refine wpAnyH_two_stores (i := 2) (j := 3) (w.heap.size + 1 + 1) (w.heap.size + 1 + 1 + 1) #[.int .i64 size, .int .u32 de, .int .u32 av, .int .u32 us, .int .u16 la, .int .u16 (IntKind.u16.wrap ((pu : Int) + 1))] (C47) #[.int .i64 0, .int .u32 0, .int .u32 0, .int .u32 0, .int .u16 0, .int .u16 0] #[(.slice none 0 0 : Value), .slice none 0 0, .int .i64 0] 52 65 rfl rfl (by kernel_rfl) (by kernel_rfl) rfl rfl rfl rfl 52 65 _ _ _ _ rfl rfl rfl rfl rfl rfl K67.out K68.out (by kernel_rfl) HIV3.out rfl (by rw [HVS3b.out]; rfl) HO71.out HO72.out (by omega) hHeld ?_
  intro w73 hx hk1 hk2
  clear hHeld
  try simp only [List.setIfInBounds_toArray, List.set_cons_zero, List.set_cons_succ]
  refine wpAnyH_take (i := 4) (v := ?v4t) rfl (by kernel_rfl) (by kernel_rfl) (by kernel_rfl) (fun _ _ _ h => h) (Or.inl ⟨by rfl, ?hy4t⟩) (by assumption) ?rest4t
  case hy4t => (intro W hSw; go_simp; first | done | with_reducible rfl)
  simp only [Act.put, List.getElem_toArray, List.getElem_cons_zero, List.getElem_cons_succ, List.setIfInBounds_toArray, List.set_cons_zero, List.set_cons_succ]
  refine wpAnyH_done (by kernel_rfl) ?_ _
  have HE74 := Lib.hid (HE65.out.kx hx (fun k e => .inl (.inr (by omega))))
  clear HE65
  have K75 := Lib.hid (hx.heap K69.out (by omega))
  clear K69
  have K76 := Lib.hid (hx.heap K66.out (by omega))
  clear K66
  have K77 := Lib.hid hk1
  clear K67 hk1
  have K78 := Lib.hid hk2
  clear K68 hk2
  have HB79 := Lib.hid (HB70.out.trans (hx.below (B := w.heap.size) (fun k hk e => by omega) HB70.out.size))
  clear HB70 hx
  go_wp2_with fail
  exact bodyPost_ret (v := .tuple #[.agg #[.int .i64 size, .int .u32 de, .int .u32 av, .int .u32 us, .int .u16 la, .int .u16 (IntKind.u16.wrap ((pu : Int) + 1))], .agg C47, .int .i64 0]) (results_2cell_tmp Tryd.results89 _ _ (w.heap.size + 1 + 1) (w.heap.size + 1 + 1 + 1) 52 65 #[.int .i64 size, .int .u32 de, .int .u32 av, .int .u32 us, .int .u16 la, .int .u16 (IntKind.u16.wrap ((pu : Int) + 1))] C47 (0, 0) (0, 0) _ _ rfl rfl K77.out K78.out Tryd.underlying52 rfl (by kernel_rfl) Tryd.underlying65 rfl HIV3.out) rfl ⟨_, rfl, HE74.out.weak (fun k hk => .inl hk), HB79.out⟩
/-- A chain given back to a ring of the document's, in the document's memory. -/
theorem ref13_Give {B : Nat} {F : Nat → Prop} {v : Value} {m : Mm} {w : World} (q : Rg) (hq : q.wf) (hok : q.okP) (hd n : Nat) (hn : n < 4294967296) (hdl : (hd : Int) < q.size) (h : RefF w B v m F) (hF : ∀ k, F k → k < w.heap.size) (hB : B ≤ w.heap.size) :
    Calls Tryd.prog 89 #[.agg q.c, v, .int .i64 hd, .int .u32 n] w fun e w' => ∃ v', e = .returned (.tuple #[.agg (if (rgive q m hd n).1 = true then q.gave.c else Rg.zero.c), v', .int .i64 ((if (rgive q m hd n).1 = true then 0 else 22 : Nat) : Int)]) ∧ RefF w' B v' (rgive q m hd n).2 F ∧ Below w.heap.size w w' := by
  have HB : ∀ W, Calls Tryd.prog 84 #[.agg q.c] W fun e w' => e = .returned (.int .i64 ((if q.okP then 0 else 1 : Nat) : Int)) ∧ Below W.heap.size W w' := fun W => ref13_Check q W
  rw [if_pos hok] at HB
  obtain ⟨h1, h2, h3, h4, h5, h6⟩ := hok
  obtain ⟨z, hz⟩ : ∃ z : Nat, q.size = (z : Int) := ⟨q.size.toNat, by omega⟩
  have hz1 : 1 ≤ z := by omega
  have hz2 : z ≤ 256 := by omega
  have hus := hq.hus
  have hpu := hq.hpu
  have hzz : q.size.toNat = z := by omega
  have hqc : q.c = #[.int .i64 z, .int .u32 q.de, .int .u32 q.av, .int .u32 q.us, .int .u16 q.la, .int .u16 q.pu] := by unfold Rg.c; rw [hz]
  have hG : q.gave.c = #[.int .i64 z, .int .u32 q.de, .int .u32 q.av, .int .u32 q.us, .int .u16 q.la, .int .u16 ((q.pu + 1) % 65536 : Nat)] := by unfold Rg.gave Rg.c; rw [hz]
  have ha4 : ((q.us + 4 + 8 * (q.pu % z)) % 4294967296) % 4 = 0 := by omega
  have ha5 : (q.us + 4 + 8 * (q.pu % z)) % 4294967296 < 4294967296 := Nat.mod_lt _ (by omega)
  have harg := give_arg q.us q.pu z hpu hz1 hz2
  have hp1 : IntKind.u16.wrap ((q.pu : Int) + 1) = (((q.pu + 1) % 65536 : Nat) : Int) := by rw [IntKind.wrap_u16]; omega
  have hp2 : ((q.pu : Int) + 1) % 65536 = (((q.pu + 1) % 65536 : Nat) : Int) := by omega
  obtain ⟨n1, n2, b1, c1, b2, c2, ⟨rfl, hcc⟩, g1, g2, g3, g4, r1, r2⟩ := h
  have l1 := r1.lt
  have l2 := r2.lt
  have hrf : ∀ W, Below w.heap.size w W → RefF W B (.agg (refC b1 (4096 * m.n) c1 b2 m.n c2 m.wr)) m (fun k => F k ∨ (w.heap.size ≤ k ∧ k < w.heap.size + 4)) := fun W hb => ⟨n1, n2, b1, c1, b2, c2, ⟨rfl, hcc⟩, g1, g2, fun hj => hj.elim g3 (by omega), fun hj => hj.elim g4 (by omega), r1.below hb, r2.below hb⟩
  have hlt : ∀ W : World, w.heap.size + 4 ≤ W.heap.size → ∀ k, (F k ∨ (w.heap.size ≤ k ∧ k < w.heap.size + 4)) → k < W.heap.size := fun W hW k hk => by
    rcases hk with hk | hk
    · have := hF k hk; omega
    · omega
  have hc3 : (refC b1 (4096 * m.n) c1 b2 m.n c2 m.wr).size = 3 := rfl
  generalize refC b1 (4096 * m.n) c1 b2 m.n c2 m.wr = rc at hrf hc3 ⊢
  obtain ⟨R, hR⟩ : ∃ R, R = rgive q m hd n := ⟨_, rfl⟩
  rw [← hR]
  unfold rgive at hR
  rw [hzz] at hR
  rw [hqc] at HB ⊢
  simp only at hR
  generalize (q.us + 4 + 8 * (q.pu % z)) % 4294967296 = a at ha4 ha5 harg hR
  have S1 := fun W (hb : Below w.heap.size w W) (hw : w.heap.size + 4 ≤ W.heap.size) => ref13_store (hrf W hb) (hlt W hw) (by omega) a 4 hd _ 4 _ rfl rfl rfl ha5 (.inr (.inr rfl)) ha4 (by omega)
  cases e1 : rstore m a 4 hd with
  | none =>
    rw [e1] at S1 hR
    simp only at hR
    subst hR
    exact ref13_Give_f1 (m2 := m) (m3 := m) z q.de q.av q.us q.la q.pu hd n _ a rc hc3 w hz1 hz2 (by omega) hp2 hpu (Lib.hid harg) (Lib.hid HB) (Lib.hid S1)
  | some m1 =>
    rw [e1] at S1 hR
    simp only at hR
    have S2 := fun W v' (hr : RefF W B v' m1 (fun k => F k ∨ (w.heap.size ≤ k ∧ k < w.heap.size + 4))) (hw : w.heap.size + 4 ≤ W.heap.size) => ref13_store hr (hlt W hw) (by omega) ((a + 4) % 4294967296) 4 n (((a : Int) + 4) % 4294967296) 4 _ (by omega) rfl rfl (by omega) (.inr (.inr rfl)) (by omega) hn
    cases e2 : rstore m1 ((a + 4) % 4294967296) 4 n with
    | none =>
      rw [e2] at S2 hR
      simp only at hR
      subst hR
      exact ref13_Give_f2 (m3 := m) z q.de q.av q.us q.la q.pu hd n _ a rc hc3 w hz1 hz2 (by omega) hp2 hpu (Lib.hid harg) (Lib.hid HB) (Lib.hid S1) (Lib.hid S2)
    | some m2 =>
      rw [e2] at S2 hR
      simp only at hR
      have S3 := fun W v' (hr : RefF W B v' m2 (fun k => F k ∨ (w.heap.size ≤ k ∧ k < w.heap.size + 4))) (hw : w.heap.size + 4 ≤ W.heap.size) => ref13_store hr (hlt W hw) (by omega) ((q.us + 2) % 4294967296) 2 ((q.pu + 1) % 65536) (((q.us : Int) + 2) % 4294967296) 2 _ (by omega) rfl rfl (by omega) (.inr (.inl rfl)) (by omega) (by omega)
      cases e3 : rstore m2 ((q.us + 2) % 4294967296) 2 ((q.pu + 1) % 65536) with
      | none =>
        rw [e3] at S3 hR
        simp only at hR
        subst hR
        exact ref13_Give_f3 z q.de q.av q.us q.la q.pu hd n _ a rc hc3 w hz1 hz2 (by omega) hp2 hpu (Lib.hid harg) (Lib.hid HB) (Lib.hid S1) (Lib.hid S2) (Lib.hid S3)
      | some m3 =>
        rw [e3] at S3 hR
        simp only at hR
        subst hR
        have hz := ref13_Give_ok z q.de q.av q.us q.la q.pu hd n _ a rc hc3 w hz1 hz2 (by omega) hp2 hpu (Lib.hid harg) (Lib.hid HB) (Lib.hid S1) (Lib.hid S2) (Lib.hid S3)
        rw [hp1, ← hG] at hz
        exact hz
end Go.Proofs.YtcmbnkmbaghkdaaDoor
