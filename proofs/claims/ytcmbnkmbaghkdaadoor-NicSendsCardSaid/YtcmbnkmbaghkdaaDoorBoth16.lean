/-
pinnacelaw16.both, walked.
No condition.
-/
import Derived.Test.YtcmbnkmbaghkdaaDoorG5
import Derived.Deep.RegionHeld
namespace Go.Proofs.YtcmbnkmbaghkdaaDoor
open Go.RowKit

set_option maxRecDepth 100000 in
set_option maxHeartbeats 4000000 in
theorem both_ok (p : Option Addr) (l : List (Nat × Nat)) (cap : Nat) (w : World) (hl : PairsL w p l) (hmax : l.length ≤ maxLen) :
    Calls Tryd.prog 17 #[.slice p l.length cap] w fun e w' => ∃ g F v, e = .returned (.tuple #[.pointer (some ⟨g, 0, none⟩), v]) ∧ LawMem w w' g (layL (l.take 80)) F ∧ RefF w' w.heap.size v (layL (l.take 80)) F := by
  have HL := Lib.hid hl
  have hmax2 : (l.length : Int) ≤ 9223372036854775807 := by simp only [maxLen] at hmax; omega
  have hl0 : (0 : Int) ≤ (l.length : Int) := by omega
  clear hl hmax
  have K0 := Lib.hid (heap_alloc_new w (.cells #[.slice none 0 0, .slice none 0 0, .int .i64 0] 65))
  have HB0 := Lib.hid ((Below.refl w.heap.size w).alloc (Nat.le_refl _) (.cells #[.slice none 0 0, .slice none 0 0, .int .i64 0] 65))
  have HSZ0 : Hid ((w.alloc (.cells #[.slice none 0 0, .slice none 0 0, .int .i64 0] 65)).heap.size = w.heap.size + 1) := Lib.hid (by simp)
  go_enter Tryd.func17, Tryd.ntmps17
  go_upto_region 1 with fail
  generalize w.alloc (.cells #[.slice none 0 0, .slice none 0 0, .int .i64 0] 65) = w1 at K0 HB0 HSZ0 ⊢
  have HN := Lib.hid (new_at 2 2 rfl w1 (by omega) (by omega))
  go_wp2_with fail
  refine (HN.out).mono ?_
  rintro e w2 ⟨g, F1, rfl, h1, h2, h3⟩
  have L2 : Hid (LawMem w w2 g (Mm.new 2) F1) := Lib.hid ⟨h1, fun k hk => by have := h2 k hk; have := HSZ0.out; omega, HB0.out.trans (h3.mono HB0.out.size)⟩
  have HLO : Hid (∀ k, F1 k → w.heap.size < k) := Lib.hid (fun k hk => by have := h2 k hk; have := HSZ0.out; omega)
  have K2 := Lib.hid (keepB K0.out h3)
  clear h1 h2 h3 HN K0 HB0
  have HN := Lib.hid (ref6_New_ok 2 w2 (by omega) (by omega))
  rw [show ((2 : Nat) : Int) = 2 from rfl] at HN
  go_wp2_with fail
  refine (HN.out).mono ?_
  rintro e w3 ⟨v, rfl, h1, h2⟩
  have R3 := Lib.hid (RefF.of (F := F1) (B' := w.heap.size + 1) h1 (fun k hk => L2.out.ram.lt k hk) (lt_heap K2.out))
  have L3 := Lib.hid (L2.out.below h2)
  have K3 := Lib.hid (keepB K2.out h2)
  clear h1 h2 HN K2 L2
  obtain ⟨C, rfl, hCs, hC1⟩ := R3.out.form
  have HC1 := Lib.hid (And.intro hCs hC1)
  clear hCs hC1
  have HSZ3 := Lib.hid L3.out.fr.size
  have HAL := Lib.hid ((Below.refl w3.heap.size w3).alloc (Nat.le_refl _) (.cells #[.slice none 0 0, .slice none 0 0, .int .i64 0] 65))
  have KA := Lib.hid (heap_alloc_new w3 (.cells #[.slice none 0 0, .slice none 0 0, .int .i64 0] 65))
  have L4 := Lib.hid (L3.out.below HAL.out)
  have R4 := Lib.hid ((R3.out.below HAL.out).weak (F' := F1) (fun _ h => h))
  have K4 := Lib.hid (keepB K3.out HAL.out)
  have HNX : Hid (¬ F1 w3.heap.size) := Lib.hid (fun hf => absurd (L3.out.ram.lt _ hf) (Nat.lt_irrefl _))
  have HWB : Hid (w.heap.size < w3.heap.size) := Lib.hid (lt_heap K3.out)
  have RB : Hid (RefF (w3.alloc (.cells #[.slice none 0 0, .slice none 0 0, .int .i64 0] 65)) (w.heap.size + 1) (.agg C) (Mm.new 2) (fun k => F1 k ∨ k = w3.heap.size)) := Lib.hid (by
    obtain ⟨n1, n2, b1, c1, b2, c2, hv, h1, h2, h3, h4, h5, h6⟩ := R3.out
    exact ⟨n1, n2, b1, c1, b2, c2, hv, h1, h2, fun h => h.elim h3 (fun e => by have := h5.lt; omega), fun h => h.elim h4 (fun e => by have := h6.lt; omega), h5.below HAL.out, h6.below HAL.out⟩)
  clear R3 R4 L3 K3 HAL HSZ3
  go_wp2_with (refine wpList_store_to rfl 65 _ _ rfl w3.heap.size C rfl rfl 65 #[.slice none 0 0, .slice none 0 0, .int .i64 0] KA.out (by rw [HC1.out.1]; kernel_rfl) (by rw [HC1.out.1]; rfl) HC1.out.2 ?_)
  intro w5 hx hk
  have L5 := Lib.hid (L4.out.own hx.out (by have := HWB.out; omega) HNX.out)
  have R5 := Lib.hid (RB.out.kx hx.out (fun k hk => .inl (.inr hk)))
  have K5 := Lib.hid (hx.out.heap K4.out (by have := HWB.out; omega))
  have KB := Lib.hid hk
  clear hx hk L4 RB K4 KA
  generalize w3.heap.size = bx at HNX HWB R5 KB ⊢
  go_wp2_with fail
  go_loopw [8] (fun i wr => ∃ (j : Nat) (F : Nat → Prop) (C : Array Value), j ≤ l.length ∧ j ≤ 80 ∧ i = .int .i64 j ∧ LawMem w wr g (layL (l.take j)) F ∧ (∀ k, F k → w.heap.size < k) ∧ ¬ F bx ∧ RefF wr (w.heap.size + 1) (.agg C) (layL (l.take j)) (fun k => F k ∨ k = bx) ∧ wr.heap[bx]? = some (.cells C 65 (0, 0)) ∧ wr.heap[w.heap.size]? = some (.cells #[.slice none 0 0, .slice none 0 0, .int .i64 0] 65 (0, 0))) (fun i _ => 80 - (intOf i).toNat)
  case atStart => exact ⟨0, F1, C, by omega, by omega, rfl, L5.out, HLO.out, HNX.out, R5.out, KB.out, K5.out⟩
  case round =>
    clear L5 HLO HNX R5 KB K5 HC1 HSZ0
    obtain ⟨j, F, C, hj1, hj2, rfl, hlm, hlo, hnx, hrf, hkb, hk0⟩ := hrel
    have HLM := Lib.hid hlm
    have HLO := Lib.hid hlo
    have HNX := Lib.hid hnx
    have HRF := Lib.hid hrf
    have KB := Lib.hid hkb
    have K0 := Lib.hid hk0
    have hC := hrf.form
    have HC1 : Hid (C.size = 3 ∧ C.all (·.oneCell') = true) := Lib.hid (by obtain ⟨C', e, h⟩ := hC; obtain rfl : C = C' := by simpa using e
                                                                           exact h)
    clear hlm hlo hnx hrf hkb hk0 hC
    have hj0 : (0 : Int) ≤ (j : Int) := by omega
    have hj40 : (j : Int) ≤ 80 := by omega
    by_cases hlt : j < l.length
    · by_cases hl40 : j < 80
      · have hjl : (j : Int) < (l.length : Int) := by omega
        have hjm : (j : Int) < 80 := by omega
        obtain ⟨⟨A, V⟩, hx⟩ : ∃ x, l[j]? = some x := ⟨_, List.getElem?_eq_getElem hlt⟩
        obtain ⟨hA, hV, b, oo, rfl, hcell⟩ := HL.out j A V hx
        have HCE := Lib.hid hcell
        have HTK : Hid (layL (l.take (j + 1)) = (layL (l.take j)).store (A % 8192 / 4 * 4) 4 V) := Lib.hid (by
          have e : l.take (j + 1) = l.take j ++ [(A, V)] := by
            rw [List.take_add_one, hx]; rfl
          rw [e, layL_snoc]; rfl)
        clear hcell hx
        have hA0 : (0 : Int) ≤ (A : Int) := by omega
        have HAT := Lib.hid (lay_at A)
        have HARG : Hid (IntKind.u32.wrap (IntKind.u32.wrap (((A : Int).tmod 8192).tdiv 4) * 4) = ((A % 8192 / 4 * 4 : Nat) : Int)) := Lib.hid (by
          simp only [IntKind.wrap_u32]
          rw [Int.tmod_eq_emod_of_nonneg (by omega), Int.tdiv_eq_ediv_of_nonneg (by omega)]
          omega)
        have HMS := Lib.hid (fun W F m (h : RamIs W g m F) (hn : m.n = 2) => store_at h (A % 8192 / 4 * 4) 4 V _ 4 V HARG.out rfl rfl (by have := HAT.out; omega) (.inr (.inr rfl)) (by rw [hn]; exact HAT.out.2.2) HAT.out.2.1)
        go_upto_region 6 with fail
        refine wp_region_held_drew (S := fun W => Below w.heap.size w W) (by kernel_rfl) (HLM.out.fr.drew) (fun hH => ?_)
        refine wpAnyH_take (i := 0) (v := ?v0a) rfl (by kernel_rfl) (by kernel_rfl) (by kernel_rfl) (fun _ _ _ h => h) (Or.inl ⟨by rfl, ?hy0a⟩) (by assumption) ?rest0a
        case hy0a => (intro W hSw; go_simp; first | done | with_reducible rfl)
        simp only [Act.put, List.getElem_toArray, List.getElem_cons_zero, List.setIfInBounds_toArray, List.set_cons_zero, List.set_cons_succ]
        refine wpAnyH_take (i := 1) (v := ?v1a) rfl (by kernel_rfl) (by kernel_rfl) (by kernel_rfl) (fun _ _ _ h => h) (Or.inl ⟨by rfl, ?hy1a⟩) (by assumption) ?rest1a
        case hy1a => (intro W hSw; go_simp; first | done | with_reducible rfl)
        simp only [Act.put, List.getElem_toArray, List.getElem_cons_zero, List.getElem_cons_succ, List.setIfInBounds_toArray, List.set_cons_zero, List.set_cons_succ]
        refine wpAnyH_take (i := 2) (v := ?v2a) rfl (by kernel_rfl) (by kernel_rfl) (by kernel_rfl) (fun _ _ _ h => h) (Or.inl ⟨by rfl, ?hy2a⟩) (by assumption) ?rest2a
        case hy2a => (intro W hSw; go_simp; first | done | with_reducible rfl)
        simp only [Act.put, List.getElem_toArray, List.getElem_cons_zero, List.getElem_cons_succ, List.setIfInBounds_toArray, List.set_cons_zero, List.set_cons_succ]
        refine wpAnyH_take (i := 3) (v := ?v3a) rfl (by kernel_rfl) (by kernel_rfl) (by kernel_rfl) (fun _ _ _ h => h) (Or.inl ⟨by rfl, ?hy3a⟩) (by assumption) ?rest3a
        case hy3a => (intro W hSw; go_simp; first | done | with_reducible rfl)
        simp only [Act.put, List.getElem_toArray, List.getElem_cons_zero, List.getElem_cons_succ, List.setIfInBounds_toArray, List.set_cons_zero, List.set_cons_succ]
        refine wpAnyH_take (i := 4) (v := ?v4a) rfl (by kernel_rfl) (by kernel_rfl) (by kernel_rfl) (fun _ _ _ h => h) (Or.inl ⟨by rfl, ?hy4a⟩) (by assumption) ?rest4a
        case hy4a => (intro W hSw; go_simp; first | done | with_reducible rfl)
        simp only [Act.put, List.getElem_toArray, List.getElem_cons_zero, List.getElem_cons_succ, List.setIfInBounds_toArray, List.set_cons_zero, List.set_cons_succ]
        refine wpAnyH_take (i := 5) (v := ?v5a) rfl (by kernel_rfl) (by kernel_rfl) (by kernel_rfl) (fun _ _ _ h => h) (Or.inl ⟨by rfl, ?hy5a⟩) (by assumption) ?rest5a
        case hy5a => (intro W hSw; have cj := (HCE.out W hSw).1; go_simp; first | done | with_reducible rfl)
        simp only [Act.put, List.getElem_toArray, List.getElem_cons_zero, List.getElem_cons_succ, List.setIfInBounds_toArray, List.set_cons_zero, List.set_cons_succ]
        refine wpAnyH_take (i := 6) (v := ?v6a) rfl (by kernel_rfl) (by kernel_rfl) (by kernel_rfl) (fun _ _ _ h => h) (Or.inl ⟨by rfl, ?hy6a⟩) (by assumption) ?rest6a
        case hy6a => (intro W hSw; go_simp; first | done | with_reducible rfl)
        simp only [Act.put, List.getElem_toArray, List.getElem_cons_zero, List.getElem_cons_succ, List.setIfInBounds_toArray, List.set_cons_zero, List.set_cons_succ]
        refine wpAnyH_take (i := 7) (v := ?v7a) rfl (by kernel_rfl) (by kernel_rfl) (by kernel_rfl) (fun _ _ _ h => h) (Or.inl ⟨by rfl, ?hy7a⟩) (by assumption) ?rest7a
        case hy7a => (intro W hSw; go_simp; first | done | with_reducible rfl)
        simp only [Act.put, List.getElem_toArray, List.getElem_cons_zero, List.getElem_cons_succ, List.setIfInBounds_toArray, List.set_cons_zero, List.set_cons_succ]
        refine wpAnyH_take (i := 8) (v := ?v8a) rfl (by kernel_rfl) (by kernel_rfl) (by kernel_rfl) (fun _ _ _ h => h) (Or.inl ⟨by rfl, ?hy8a⟩) (by assumption) ?rest8a
        case hy8a => (intro W hSw; go_simp; first | done | with_reducible rfl)
        simp only [Act.put, List.getElem_toArray, List.getElem_cons_zero, List.getElem_cons_succ, List.setIfInBounds_toArray, List.set_cons_zero, List.set_cons_succ]
        refine wpAnyH_take (i := 9) (v := ?v9a) rfl (by kernel_rfl) (by kernel_rfl) (by kernel_rfl) (fun _ _ _ h => h) (Or.inl ⟨by rfl, ?hy9a⟩) (by assumption) ?rest9a
        case hy9a => (intro W hSw; go_simp; first | done | with_reducible rfl)
        simp only [Act.put, List.getElem_toArray, List.getElem_cons_zero, List.getElem_cons_succ, List.setIfInBounds_toArray, List.set_cons_zero, List.set_cons_succ]
        refine wpAnyH_take (i := 10) (v := ?v10a) rfl (by kernel_rfl) (by kernel_rfl) (by kernel_rfl) (fun _ _ _ h => h) (Or.inl ⟨by rfl, ?hy10a⟩) (by assumption) ?rest10a
        case hy10a => (intro W hSw; go_simp; first | done | with_reducible rfl)
        simp only [Act.put, List.getElem_toArray, List.getElem_cons_zero, List.getElem_cons_succ, List.setIfInBounds_toArray, List.set_cons_zero, List.set_cons_succ]
        refine wpAnyH_take (i := 11) (v := ?v11a) rfl (by kernel_rfl) (by kernel_rfl) (by kernel_rfl) (fun _ _ _ h => h) (Or.inl ⟨by rfl, ?hy11a⟩) (by assumption) ?rest11a
        case hy11a => (intro W hSw; go_simp; first | done | with_reducible rfl)
        simp only [Act.put, List.getElem_toArray, List.getElem_cons_zero, List.getElem_cons_succ, List.setIfInBounds_toArray, List.set_cons_zero, List.set_cons_succ]
        refine wpAnyH_take (i := 12) (v := ?v12a) rfl (by kernel_rfl) (by kernel_rfl) (by kernel_rfl) (fun _ _ _ h => h) (Or.inl ⟨by rfl, ?hy12a⟩) (by assumption) ?rest12a
        case hy12a => (intro W hSw; go_simp; first | done | with_reducible rfl)
        simp only [Act.put, List.getElem_toArray, List.getElem_cons_zero, List.getElem_cons_succ, List.setIfInBounds_toArray, List.set_cons_zero, List.set_cons_succ]
        refine wpAnyH_take (i := 13) (v := ?v13a) rfl (by kernel_rfl) (by kernel_rfl) (by kernel_rfl) (fun _ _ _ h => h) (Or.inl ⟨by rfl, ?hy13a⟩) (by assumption) ?rest13a
        case hy13a => (intro W hSw; have cj := (HCE.out W hSw).2; go_simp; first | done | with_reducible rfl)
        simp only [Act.put, List.getElem_toArray, List.getElem_cons_zero, List.getElem_cons_succ, List.setIfInBounds_toArray, List.set_cons_zero, List.set_cons_succ]
        refine wpAnyH_ready (rs := [14]) (by kernel_rfl) (by simp) ?_
        refine AllReadyH.cons (o := _) rfl (fun K hK => ?_) (AllReadyH.nil)
        simp only [List.getElem_toArray, List.getElem_cons_zero, List.getElem_cons_succ]
        go_simp
        have HLD := Lib.hid (HLM.out.below (Below.refl wr.heap.size wr).drew)
        have HRD := Lib.hid (HRF.out.below (Below.refl wr.heap.size wr).drew)
        refine (HMS.out _ _ _ HLD.out.ram (by exact layL_n _)).mono ?_
        rintro e w6 ⟨F6, rfl, h1, h2⟩
        refine hK.out _ _ ((HLD.out.step h1 h2).fr) (fun hH2 => ?_)
        clear hK K hH
        have L6 := Lib.hid (HLD.out.step h1 h2)
        rw [← HTK.out] at L6
        have R6 := Lib.hid (HRD.out.step (F' := fun k => F6 k ∨ k = bx) ⟨h2.kx.mono (fun k _ h => .inl h), fun k hk => hk.elim (fun h => (h2.gr k h).elim (fun h => .inl (.inl h)) .inr) (fun e => .inl (.inr e))⟩)
        have K6 := Lib.hid (h2.heap (x := .cells C 65 (0, 0)) KB.out HNX.out)
        have K06 := Lib.hid (h2.heap (x := .cells #[.slice none 0 0, .slice none 0 0, .int .i64 0] 65 (0, 0)) K0.out (fun hf => Nat.lt_irrefl _ (HLO.out _ hf)))
        have HLO6 : Hid (∀ k, F6 k → w.heap.size < k) := Lib.hid (fun k hk => (h2.gr k hk).elim (HLO.out k) (fun h => Nat.lt_of_lt_of_le (lt_heap K0.out) h))
        have HNX6 : Hid (¬ F6 bx) := Lib.hid (h2.off (w := wr.drew) (lt_heap KB.out) HNX.out)
        clear h1 h2 HLM HRF HLD HRD KB K0 HLO HNX HMS
        refine wpAnyH_done (by kernel_rfl) ?_ _
        clear hH2
        go_upto_region 7 with fail
        refine wp_region_held_drew (S := fun W => Below w.heap.size w W) (by kernel_rfl) (L6.out.fr.drew) (fun hH => ?_)
        refine wpAnyH_take (i := 1) (v := ?v1b) rfl (by kernel_rfl) (by kernel_rfl) (by kernel_rfl) (fun _ _ _ h => h) (Or.inl ⟨by rfl, ?hy1b⟩) (by assumption) ?rest1b
        case hy1b => (intro W hSw; go_simp; first | done | with_reducible rfl)
        simp only [Act.put, List.getElem_toArray, List.getElem_cons_zero, List.getElem_cons_succ, List.setIfInBounds_toArray, List.set_cons_zero, List.set_cons_succ]
        refine wpAnyH_take (i := 2) (v := ?v2b) rfl (by kernel_rfl) (by kernel_rfl) (by kernel_rfl) (fun _ _ _ h => h) (Or.inl ⟨by rfl, ?hy2b⟩) (by assumption) ?rest2b
        case hy2b => (intro W hSw; go_simp; first | done | with_reducible rfl)
        simp only [Act.put, List.getElem_toArray, List.getElem_cons_zero, List.getElem_cons_succ, List.setIfInBounds_toArray, List.set_cons_zero, List.set_cons_succ]
        refine wpAnyH_take (i := 3) (v := ?v3b) rfl (by kernel_rfl) (by kernel_rfl) (by kernel_rfl) (fun _ _ _ h => h) (Or.inl ⟨by rfl, ?hy3b⟩) (by assumption) ?rest3b
        case hy3b => (intro W hSw; go_simp; first | done | with_reducible rfl)
        simp only [Act.put, List.getElem_toArray, List.getElem_cons_zero, List.getElem_cons_succ, List.setIfInBounds_toArray, List.set_cons_zero, List.set_cons_succ]
        refine wpAnyH_take (i := 4) (v := ?v4b) rfl (by kernel_rfl) (by kernel_rfl) (by kernel_rfl) (fun _ _ _ h => h) (Or.inl ⟨by rfl, ?hy4b⟩) (by assumption) ?rest4b
        case hy4b => (intro W hSw; go_simp; first | done | with_reducible rfl)
        simp only [Act.put, List.getElem_toArray, List.getElem_cons_zero, List.getElem_cons_succ, List.setIfInBounds_toArray, List.set_cons_zero, List.set_cons_succ]
        refine wpAnyH_take (i := 5) (v := ?v5b) rfl (by kernel_rfl) (by kernel_rfl) (by kernel_rfl) (fun _ _ _ h => h) (Or.inl ⟨by rfl, ?hy5b⟩) (by assumption) ?rest5b
        case hy5b => (intro W hSw; have cj := (HCE.out W hSw).1; go_simp; first | done | with_reducible rfl)
        simp only [Act.put, List.getElem_toArray, List.getElem_cons_zero, List.getElem_cons_succ, List.setIfInBounds_toArray, List.set_cons_zero, List.set_cons_succ]
        refine wpAnyH_take (i := 6) (v := ?v6b) rfl (by kernel_rfl) (by kernel_rfl) (by kernel_rfl) (fun _ _ _ h => h) (Or.inl ⟨by rfl, ?hy6b⟩) (by assumption) ?rest6b
        case hy6b => (intro W hSw; go_simp; first | done | with_reducible rfl)
        simp only [Act.put, List.getElem_toArray, List.getElem_cons_zero, List.getElem_cons_succ, List.setIfInBounds_toArray, List.set_cons_zero, List.set_cons_succ]
        refine wpAnyH_take (i := 7) (v := ?v7b) rfl (by kernel_rfl) (by kernel_rfl) (by kernel_rfl) (fun _ _ _ h => h) (Or.inl ⟨by rfl, ?hy7b⟩) (by assumption) ?rest7b
        case hy7b => (intro W hSw; go_simp; first | done | with_reducible rfl)
        simp only [Act.put, List.getElem_toArray, List.getElem_cons_zero, List.getElem_cons_succ, List.setIfInBounds_toArray, List.set_cons_zero, List.set_cons_succ]
        refine wpAnyH_take (i := 8) (v := ?v8b) rfl (by kernel_rfl) (by kernel_rfl) (by kernel_rfl) (fun _ _ _ h => h) (Or.inl ⟨by rfl, ?hy8b⟩) (by assumption) ?rest8b
        case hy8b => (intro W hSw; go_simp; first | done | with_reducible rfl)
        simp only [Act.put, List.getElem_toArray, List.getElem_cons_zero, List.getElem_cons_succ, List.setIfInBounds_toArray, List.set_cons_zero, List.set_cons_succ]
        refine wpAnyH_take (i := 9) (v := ?v9b) rfl (by kernel_rfl) (by kernel_rfl) (by kernel_rfl) (fun _ _ _ h => h) (Or.inl ⟨by rfl, ?hy9b⟩) (by assumption) ?rest9b
        case hy9b => (intro W hSw; go_simp; first | done | with_reducible rfl)
        simp only [Act.put, List.getElem_toArray, List.getElem_cons_zero, List.getElem_cons_succ, List.setIfInBounds_toArray, List.set_cons_zero, List.set_cons_succ]
        refine wpAnyH_take (i := 10) (v := ?v10b) rfl (by kernel_rfl) (by kernel_rfl) (by kernel_rfl) (fun _ _ _ h => h) (Or.inl ⟨by rfl, ?hy10b⟩) (by assumption) ?rest10b
        case hy10b => (intro W hSw; go_simp; first | done | with_reducible rfl)
        simp only [Act.put, List.getElem_toArray, List.getElem_cons_zero, List.getElem_cons_succ, List.setIfInBounds_toArray, List.set_cons_zero, List.set_cons_succ]
        refine wpAnyH_take (i := 11) (v := ?v11b) rfl (by kernel_rfl) (by kernel_rfl) (by kernel_rfl) (fun _ _ _ h => h) (Or.inl ⟨by rfl, ?hy11b⟩) (by assumption) ?rest11b
        case hy11b => (intro W hSw; go_simp; first | done | with_reducible rfl)
        simp only [Act.put, List.getElem_toArray, List.getElem_cons_zero, List.getElem_cons_succ, List.setIfInBounds_toArray, List.set_cons_zero, List.set_cons_succ]
        refine wpAnyH_take (i := 12) (v := ?v12b) rfl (by kernel_rfl) (by kernel_rfl) (by kernel_rfl) (fun _ _ _ h => h) (Or.inl ⟨by rfl, ?hy12b⟩) (by assumption) ?rest12b
        case hy12b => (intro W hSw; go_simp; first | done | with_reducible rfl)
        simp only [Act.put, List.getElem_toArray, List.getElem_cons_zero, List.getElem_cons_succ, List.setIfInBounds_toArray, List.set_cons_zero, List.set_cons_succ]
        refine wpAnyH_take (i := 13) (v := ?v13b) rfl (by kernel_rfl) (by kernel_rfl) (by kernel_rfl) (fun _ _ _ h => h) (Or.inl ⟨by rfl, ?hy13b⟩) (by assumption) ?rest13b
        case hy13b => (intro W hSw; have cj := (HCE.out W hSw).2; go_simp; first | done | with_reducible rfl)
        simp only [Act.put, List.getElem_toArray, List.getElem_cons_zero, List.getElem_cons_succ, List.setIfInBounds_toArray, List.set_cons_zero, List.set_cons_succ]
        refine wpAnyH_ready (rs := [0]) (by kernel_rfl) (by simp) ?_
        refine AllReadyH.cons (o := _) rfl (fun K hK => ?_) (AllReadyH.nil)
        simp only [List.getElem_toArray, List.getElem_cons_zero]
        rw [if_pos (by rfl)]
        refine wp_load_row 65 _ rfl bx rfl 65 C (0, 0) _ K6.out Tryd.underlying65 rfl (by rw [HC1.out.1]; kernel_rfl) ?_
        refine hK.out _ _ hH (fun hH2 => ?_)
        clear hK K hH
        simp only [Act.put, List.setIfInBounds_toArray, List.set_cons_zero, List.set_cons_succ]
        refine wpAnyH_ready (rs := [14]) (by kernel_rfl) (by simp) ?_
        refine AllReadyH.cons (o := _) rfl (fun K hK => ?_) (AllReadyH.nil)
        simp only [List.getElem_toArray, List.getElem_cons_zero, List.getElem_cons_succ]
        go_simp
        rw [HARG.out]
        have HLD := Lib.hid (L6.out.below (Below.refl w6.heap.size w6).drew)
        have HRD := Lib.hid (R6.out.below (Below.refl w6.heap.size w6).drew)
        refine (ref6_Store_ok HRD.out.ref (A % 8192 / 4 * 4) 4 V hV (.inr (.inr rfl)) (by rw [layL_n]; exact HAT.out.2.2) HAT.out.2.1).mono ?_
        rintro e w7 ⟨v7, rfl, h1, h2⟩
        refine hK.out _ _ ((HLD.out.below h2).fr) (fun hH3 => ?_)
        clear hK K hH2
        have L7 := Lib.hid (HLD.out.below h2)
        have K7 := Lib.hid (keepB (a := w6.drew) K6.out h2)
        have K07 := Lib.hid (keepB (a := w6.drew) K06.out h2)
        have R7 := Lib.hid (RefF.of (B' := w.heap.size + 1) (F := fun k => F6 k ∨ k = bx) h1 (fun k hk => hk.elim (fun h => HLD.out.ram.lt k h) (fun e => by subst e; exact lt_heap (w := w6.drew) K6.out)) (lt_heap (w := w6.drew) K06.out))
        rw [← HTK.out] at R7
        clear h1 h2 HLD HRD L6 R6 K6 K06
        obtain ⟨C7, rfl, hCs, hC1⟩ := R7.out.form
        have HC7 := Lib.hid (And.intro hCs hC1)
        clear hCs hC1
        refine wpAnyH_take (i := 15) (v := ?v15c) rfl (by kernel_rfl) (by kernel_rfl) (by kernel_rfl) (fun _ _ _ h => h) (Or.inl ⟨by rfl, ?hy15c⟩) (by assumption) ?rest15c
        case hy15c => (intro W hSw; go_simp; first | done | with_reducible rfl)
        simp only [Act.put, List.getElem_toArray, List.getElem_cons_zero, List.getElem_cons_succ, List.setIfInBounds_toArray, List.set_cons_zero, List.set_cons_succ]
        refine wpAnyH_take (i := 16) (v := ?v16c) rfl (by kernel_rfl) (by kernel_rfl) (by kernel_rfl) (fun _ _ _ h => h) (Or.inl ⟨by rfl, ?hy16c⟩) (by assumption) ?rest16c
        case hy16c => (intro W hSw; go_simp; first | done | with_reducible rfl)
        simp only [Act.put, List.getElem_toArray, List.getElem_cons_zero, List.getElem_cons_succ, List.setIfInBounds_toArray, List.set_cons_zero, List.set_cons_succ]
        refine wpAnyH_take (i := 17) (v := ?v17c) rfl (by kernel_rfl) (by kernel_rfl) (by kernel_rfl) (fun _ _ _ h => h) (Or.inl ⟨by rfl, ?hy17c⟩) (by assumption) ?rest17c
        case hy17c => (intro W hSw; go_simp; first | done | with_reducible rfl)
        simp only [Act.put, List.getElem_toArray, List.getElem_cons_zero, List.getElem_cons_succ, List.setIfInBounds_toArray, List.set_cons_zero, List.set_cons_succ]
        have KXR : KX (fun k => k = bx) w7 (w7.setRow bx C7) := (KX.refl (fun k => k = bx) w7).setRow (.inl rfl) C7
        have L8 := Lib.hid (L7.out.own KXR (by have := HWB.out; omega) HNX6.out)
        have R8 := Lib.hid (R7.out.kx KXR (fun k hk => .inl (.inr hk)))
        have K8 : Hid ((w7.setRow bx C7).heap[bx]? = some (.cells C7 65 (0, 0))) := Lib.hid (setRow_heap _ _ _ _ _ _ K7.out)
        have K08 := Lib.hid (KXR.heap K07.out (by have := HWB.out; omega))
        clear KXR
        refine wpAnyH_ready (rs := [18]) (by kernel_rfl) (by simp) ?_
        refine AllReadyH.cons (o := _) rfl (fun K hK => ?_) (AllReadyH.nil)
        simp only [List.getElem_toArray, List.getElem_cons_zero, List.getElem_cons_succ]
        rw [if_pos (by rfl)]
        refine wp_store_row 65 _ _ rfl bx C7 rfl rfl 65 C K7.out (by rw [HC7.out.1]; kernel_rfl) (by rw [HC7.out.1, HC1.out.1]) HC7.out.2 ?_
        refine hK.out _ _ L8.out.fr (fun hH4 => ?_)
        clear hK K hH3 L7 R7 K7 K07
        simp only [Act.put]
        generalize w7.setRow bx C7 = w8 at L8 R8 K8 K08 hH4 ⊢
        refine wpAnyH_done (by kernel_rfl) ?_ _
        clear hH4
        go_wp2_with fail
        go_roundw
        case rel => exact ⟨j + 1, F6, C7, by omega, by omega, by go_num, L8.out, HLO6.out, HNX6.out, R8.out, K8.out, K08.out⟩
        case measure => simp [intOf]; omega
      · skip
        have hjm : ¬ (j : Int) < 80 := by omega
        have hjl : (j : Int) < (l.length : Int) := by omega
        have HE : Hid (l.take j = l.take 80) := Lib.hid (by rw [show j = 80 by omega])
        rw [HE.out] at HLM HRF
        clear HL hlt HE
        go_upto_region 8 with fail
        refine wp_region_held_drew (S := fun W => Below w.heap.size w W) (by kernel_rfl) (HLM.out.fr.drew) (fun hH => ?_)
        refine wpAnyH_take (i := 0) (v := ?v0f) rfl (by kernel_rfl) (by kernel_rfl) (by kernel_rfl) (fun _ _ _ h => h) (Or.inl ⟨by rfl, ?hy0f⟩) (by assumption) ?rest0f
        case hy0f => (intro W hSw; go_simp; first | done | with_reducible rfl)
        simp only [Act.put, List.getElem_toArray, List.getElem_cons_zero, List.setIfInBounds_toArray, List.set_cons_zero, List.set_cons_succ]
        refine wpAnyH_take (i := 2) (v := ?v2f) rfl (by kernel_rfl) (by kernel_rfl) (by kernel_rfl) (fun _ _ _ h => h) (Or.inl ⟨by rfl, ?hy2f⟩) (by assumption) ?rest2f
        case hy2f => (intro W hSw; go_simp; first | done | with_reducible rfl)
        simp only [Act.put, List.getElem_toArray, List.getElem_cons_zero, List.getElem_cons_succ, List.setIfInBounds_toArray, List.set_cons_zero, List.set_cons_succ]
        refine wpAnyH_ready (rs := [1]) (by kernel_rfl) (by simp) ?_
        refine AllReadyH.cons (o := _) rfl (fun K hK => ?_) (AllReadyH.nil)
        simp only [List.getElem_toArray, List.getElem_cons_zero, List.getElem_cons_succ]
        rw [if_pos (by rfl)]
        refine wp_load_row 65 _ rfl bx rfl 65 C (0, 0) _ KB.out Tryd.underlying65 rfl (by rw [HC1.out.1]; kernel_rfl) ?_
        refine hK.out _ _ hH (fun hH2 => ?_)
        clear hK K hH
        simp only [Act.put, List.setIfInBounds_toArray, List.set_cons_zero, List.set_cons_succ]
        have HD := Lib.hid ((Below.refl wr.heap.size wr).drew)
        have L8 := Lib.hid ((HLM.out.below HD.out).own (b := w.heap.size) ((KX.refl (fun k => k = w.heap.size) wr.drew).setRow (.inl rfl) C) (Nat.le_refl _) (fun hf => Nat.lt_irrefl _ (HLO.out _ hf)))
        have R8 := Lib.hid (((HRF.out.below HD.out).weak (F' := fun k => F k) (fun _ h => .inl h)).keepLow ((KX.refl (fun k => k = w.heap.size) wr.drew).setRow (.inl rfl) C))
        have K8 : Hid ((wr.drew.setRow w.heap.size C).heap[w.heap.size]? = some (.cells C 65 (0, 0))) := Lib.hid (setRow_heap _ _ _ _ _ _ K0.out)
        refine wpAnyH_ready (rs := [3]) (by kernel_rfl) (by simp) ?_
        refine AllReadyH.cons (o := _) rfl (fun K hK => ?_) (AllReadyH.nil)
        simp only [List.getElem_toArray, List.getElem_cons_zero, List.getElem_cons_succ]
        rw [if_pos (by rfl)]
        refine wp_store_row 65 _ _ rfl w.heap.size C rfl rfl 65 #[.slice none 0 0, .slice none 0 0, .int .i64 0] K0.out (by rw [HC1.out.1]; kernel_rfl) (by rw [HC1.out.1]; rfl) HC1.out.2 ?_
        refine hK.out _ _ L8.out.fr (fun hH4 => ?_)
        clear hK K hH2 HLM HRF KB K0
        simp only [Act.put]
        generalize wr.drew.setRow w.heap.size C = w8 at L8 R8 K8 hH4 ⊢
        refine wpAnyH_done (by kernel_rfl) ?_ _
        clear hH4
        go_wp2_with fail
        exact bodyPost_ret (v := .tuple #[.pointer (some ⟨g, 0, none⟩), .agg C]) (results_tmp_cell Tryd.results17 _ _ (w.heap.size) 65 C (0, 0) _ rfl K8.out Tryd.underlying65 rfl (by rw [HC1.out.1]; kernel_rfl)) rfl ⟨g, F, _, rfl, L8.out, R8.out⟩
    · skip
      have hjl : ¬ (j : Int) < (l.length : Int) := by omega
      have HE : Hid (l.take j = l.take 80) := Lib.hid (by rw [List.take_of_length_le (by omega), List.take_of_length_le (by omega)])
      rw [HE.out] at HLM HRF
      clear HL hlt HE
      go_upto_region 8 with fail
      refine wp_region_held_drew (S := fun W => Below w.heap.size w W) (by kernel_rfl) (HLM.out.fr.drew) (fun hH => ?_)
      refine wpAnyH_take (i := 0) (v := ?v0d) rfl (by kernel_rfl) (by kernel_rfl) (by kernel_rfl) (fun _ _ _ h => h) (Or.inl ⟨by rfl, ?hy0d⟩) (by assumption) ?rest0d
      case hy0d => (intro W hSw; go_simp; first | done | with_reducible rfl)
      simp only [Act.put, List.getElem_toArray, List.getElem_cons_zero, List.setIfInBounds_toArray, List.set_cons_zero, List.set_cons_succ]
      refine wpAnyH_take (i := 2) (v := ?v2d) rfl (by kernel_rfl) (by kernel_rfl) (by kernel_rfl) (fun _ _ _ h => h) (Or.inl ⟨by rfl, ?hy2d⟩) (by assumption) ?rest2d
      case hy2d => (intro W hSw; go_simp; first | done | with_reducible rfl)
      simp only [Act.put, List.getElem_toArray, List.getElem_cons_zero, List.getElem_cons_succ, List.setIfInBounds_toArray, List.set_cons_zero, List.set_cons_succ]
      refine wpAnyH_ready (rs := [1]) (by kernel_rfl) (by simp) ?_
      refine AllReadyH.cons (o := _) rfl (fun K hK => ?_) (AllReadyH.nil)
      simp only [List.getElem_toArray, List.getElem_cons_zero, List.getElem_cons_succ]
      rw [if_pos (by rfl)]
      refine wp_load_row 65 _ rfl bx rfl 65 C (0, 0) _ KB.out Tryd.underlying65 rfl (by rw [HC1.out.1]; kernel_rfl) ?_
      refine hK.out _ _ hH (fun hH2 => ?_)
      clear hK K hH
      simp only [Act.put, List.setIfInBounds_toArray, List.set_cons_zero, List.set_cons_succ]
      have HD := Lib.hid ((Below.refl wr.heap.size wr).drew)
      have L8 := Lib.hid ((HLM.out.below HD.out).own (b := w.heap.size) ((KX.refl (fun k => k = w.heap.size) wr.drew).setRow (.inl rfl) C) (Nat.le_refl _) (fun hf => Nat.lt_irrefl _ (HLO.out _ hf)))
      have R8 := Lib.hid (((HRF.out.below HD.out).weak (F' := fun k => F k) (fun _ h => .inl h)).keepLow ((KX.refl (fun k => k = w.heap.size) wr.drew).setRow (.inl rfl) C))
      have K8 : Hid ((wr.drew.setRow w.heap.size C).heap[w.heap.size]? = some (.cells C 65 (0, 0))) := Lib.hid (setRow_heap _ _ _ _ _ _ K0.out)
      refine wpAnyH_ready (rs := [3]) (by kernel_rfl) (by simp) ?_
      refine AllReadyH.cons (o := _) rfl (fun K hK => ?_) (AllReadyH.nil)
      simp only [List.getElem_toArray, List.getElem_cons_zero, List.getElem_cons_succ]
      rw [if_pos (by rfl)]
      refine wp_store_row 65 _ _ rfl w.heap.size C rfl rfl 65 #[.slice none 0 0, .slice none 0 0, .int .i64 0] K0.out (by rw [HC1.out.1]; kernel_rfl) (by rw [HC1.out.1]; rfl) HC1.out.2 ?_
      refine hK.out _ _ L8.out.fr (fun hH4 => ?_)
      clear hK K hH2 HLM HRF KB K0
      simp only [Act.put]
      generalize wr.drew.setRow w.heap.size C = w8 at L8 R8 K8 hH4 ⊢
      refine wpAnyH_done (by kernel_rfl) ?_ _
      clear hH4
      go_wp2_with fail
      exact bodyPost_ret (v := .tuple #[.pointer (some ⟨g, 0, none⟩), .agg C]) (results_tmp_cell Tryd.results17 _ _ (w.heap.size) 65 C (0, 0) _ rfl K8.out Tryd.underlying65 rfl (by rw [HC1.out.1]; kernel_rfl)) rfl ⟨g, F, _, rfl, L8.out, R8.out⟩
end Go.Proofs.YtcmbnkmbaghkdaaDoor
