/-
pinnaceref16.give, walked: a chain given back, by the document's net device.
Conditions: the queue's ring may be; the head is one of its.
-/
import Derived.Test.YtcmbnkmbaghkdaaDoorRef13Gv
import Derived.Test.YtcmbnkmbaghkdaaDoorRef14F
import Derived.Test.YtcmbnkmbaghkdaaDoorNicAll
import Derived.Deep.CutRange
namespace Go.Proofs.YtcmbnkmbaghkdaaDoor
open Go.RowKit
set_option linter.unusedVariables false

theorem nic16_size (s : NS) : (Tryd.prog.info? 59).map (·.size) = some s.c.size := by
  show _ = some 23
  kernel_rfl
theorem ring13_size (q : Rg) : (Tryd.prog.info? 52).map (·.size) = some q.c.size := by
  show _ = some 6
  kernel_rfl
theorem vio14_size (p : VS) : (Tryd.prog.info? 57).map (·.size) = some p.c.size := by
  show _ = some 21
  kernel_rfl
theorem vio14_sizeL (p : VS) : (Tryd.prog.info? 57).map (·.size) = some p.c.toList.length := by
  show _ = some 21
  kernel_rfl
theorem ram06_size {c : Array Value} (h : c.size = 3) : (Tryd.prog.info? 65).map (·.size) = some c.size := by
  rw [h]
  kernel_rfl
theorem RefF.alloc {W : World} {B : Nat} {v : Value} {m : Mm} {F : Nat → Prop} (h : RefF W B v m F) (o : Obj) : RefF (W.alloc o) B v m F := h.below ((Below.refl _ _).alloc (Nat.le_refl _) _)
theorem RefF.new {W : World} {B : Nat} {v : Value} {m : Mm} {F : Nat → Prop} (h : RefF W B v m F) {b : Nat} (hb : W.heap.size ≤ b) : RefF W B v m (fun k => F k ∨ k = b) := by
  obtain ⟨n1, n2, b1, c1, b2, c2, ⟨rfl, hcc⟩, h1, h2, h3, h4, h5, h6⟩ := h
  have l1 := h5.lt
  have l2 := h6.lt
  exact ⟨n1, n2, b1, c1, b2, c2, ⟨rfl, hcc⟩, h1, h2, fun h => h.elim h3 (by omega), fun h => h.elim h4 (by omega), h5, h6⟩
set_option maxRecDepth 100000 in
set_option maxHeartbeats 8000000 in
theorem ref16_give0_no {B : Nat} {F : Nat → Prop} {m m' : Mm} (s : NS) (hs : s.p.wf) (hd n : Nat) (hn : n < 2147483648) (rc : Array Value) (hrc : rc.size = 3) (hro : rc.all (·.oneCell') = true) (w : World) (h : RefF w B (.agg rc) m F) (hF : ∀ k, F k → k < w.heap.size) (hB : B ≤ w.heap.size)
    (HG : Hid (∀ (W : World) (G : Nat → Prop), RefF W B (.agg rc) m G → (∀ k, G k → k < W.heap.size) → B ≤ W.heap.size → Calls Tryd.prog 89 #[.agg (s.p.a.rg : Rg).c, .agg rc, .int .i64 hd, .int .u32 (IntKind.u32.wrap (n : Int))] W fun e w' => ∃ v', e = .returned (.tuple #[.agg (Rg.zero : Rg).c, v', .int .i64 22]) ∧ RefF w' B v' m' G ∧ Below W.heap.size W w'))
    (HU : Hid (∀ W, Calls Tryd.prog 51 #[.agg s.p.c.toList.toArray] W fun e w' => e = .returned (.agg s.p.fail.c) ∧ Below W.heap.size W w')) :
    Calls Tryd.prog 52 #[.agg s.c, .agg rc, .int .i64 0, .int .i64 hd, .int .i64 n] w fun e w' => ∃ v', e = .returned (.tuple #[.agg ({ s with p := s.p.fail } : NS).c, v']) ∧ RefF w' B v' m' F ∧ Below w.heap.size w w' := by
  have HI := Lib.hid (ram06_size hrc)
  have HWF := Lib.hid hs
  have hrf : RefF w B (.agg rc) m (fun k => F k ∨ (w.heap.size ≤ k ∧ k < w.heap.size + 4)) := by
    obtain ⟨n1, n2, b1, c1, b2, c2, he, g1, g2, g3, g4, r1, r2⟩ := h
    have l1 := r1.lt
    have l2 := r2.lt
    exact ⟨n1, n2, b1, c1, b2, c2, he, g1, g2, fun hj => hj.elim g3 (by omega), fun hj => hj.elim g4 (by omega), r1, r2⟩
  have HRF := Lib.hid (And.intro hrf (And.intro hF hB))
  have hn0 : (0 : Int) ≤ (n : Int) := by omega
  have hnm : (n : Int) % 4294967296 = (n : Int) := by omega
  have HRC := Lib.hid hrc
  clear hs hn hrc hro h hF hB hrf
  obtain ⟨k0, k1, k2, k3, hb0⟩ := new4 w (.cells s.c 59) (.cells rc 65) (.cells NS.zero.c 59) (.cells #[(.slice none 0 0 : Value), .slice none 0 0, .int .i64 0] 65)
  have K0a := Lib.hid k0
  have K1a := Lib.hid k1
  have K2a := Lib.hid k2
  have K3a := Lib.hid k3
  have HB0a := Lib.hid hb0
  clear k0 k1 k2 k3 hb0
  have HSZ := Lib.hid (show ((((w.alloc (.cells s.c 59)).alloc (.cells rc 65)).alloc (.cells NS.zero.c 59)).alloc (.cells #[(.slice none 0 0 : Value), .slice none 0 0, .int .i64 0] 65)).heap.size = w.heap.size + 4 by simp)
  go_enter Tryd.func52, Tryd.ntmps52
  go_upto_region 1 with fail
  change Code.wp _ _ _ _ ((((w.alloc (.cells s.c 59)).alloc (.cells rc 65)).alloc (.cells NS.zero.c 59)).alloc (.cells #[(.slice none 0 0 : Value), .slice none 0 0, .int .i64 0] 65))
  generalize ((((w.alloc (.cells s.c 59)).alloc (.cells rc 65)).alloc (.cells NS.zero.c 59)).alloc (.cells #[(.slice none 0 0 : Value), .slice none 0 0, .int .i64 0] 65)) = w1 at K0a K1a K2a K3a HB0a HSZ ⊢
  go_cut [12, 13] from 14 to 28 (fun x y W => ∃ (bR : Nat) (C1 : Array Value), x = .pointer (some ⟨bR, 0, none⟩) ∧ y = .int .i64 22 ∧ w1.heap.size ≤ bR ∧ W.heap[bR]? = some (.cells (Rg.zero : Rg).c 52 (0, 0)) ∧ W.heap[w.heap.size + 1]? = some (.cells C1 65 (0, 0)) ∧ C1.size = 3 ∧ C1.all (·.oneCell') = true ∧ RefF W B (.agg C1) m' (fun k => F k ∨ (w.heap.size ≤ k ∧ k < w.heap.size + 4)) ∧ KX (fun k => k = w.heap.size + 1) w1 W)
  case first =>
    have HRF1 := Lib.hid (HRF.out.1.below HB0a.out)
    have HKX1 := Lib.hid ((KX.refl (fun k => k = w.heap.size + 1) w1).drew)
    have HSZ1 := Lib.hid (show w1.drew.heap.size = w.heap.size + 4 from HSZ.out)
    have HRF2 : Hid (RefF w1.drew B (.agg rc) m (fun k => F k ∨ (w.heap.size ≤ k ∧ k < w.heap.size + 4))) := Lib.hid (HRF1.out.below (Below.refl _ _).drew)
    have KM : Hid (w1.drew.heap[w.heap.size + 1]? = some (.cells rc 65 (0, 0))) := K1a
    refine wp_region_held_drew (S := KX (fun k => k = w.heap.size + 1) w1) (by kernel_rfl) ((KX.refl (fun k => k = w.heap.size + 1) w1).drew) (fun hHeld => ?_)
    generalize w1.drew = w2 at HKX1 HSZ1 HRF2 KM hHeld ⊢
    clear HRF1
    refine wpAnyH_take (i := 0) (v := ?v0a) rfl (by kernel_rfl) (by kernel_rfl) (by kernel_rfl) (fun _ _ _ h => h) (Or.inl ⟨by rfl, ?hy0a⟩) (by assumption) ?rest0a
    case hy0a => (intro W hSw; go_simp; first | done | with_reducible rfl)
    simp only [Act.put, List.getElem_toArray, List.getElem_cons_zero, List.setIfInBounds_toArray, List.set_cons_zero, List.set_cons_succ]
    refine wpAnyH_take (i := 1) (v := ?v1a) rfl (by kernel_rfl) (by kernel_rfl) (by kernel_rfl) (fun _ _ _ h => h) (Or.inl ⟨by rfl, ?hy1a⟩) (by assumption) ?rest1a
    case hy1a => (intro W hSw; go_simp; first | done | with_reducible rfl)
    simp only [Act.put, List.getElem_toArray, List.getElem_cons_zero, List.getElem_cons_succ, List.setIfInBounds_toArray, List.set_cons_zero, List.set_cons_succ]
    refine wpAnyH_take (i := 2) (v := ?v2a) rfl (by kernel_rfl) (by kernel_rfl) (by kernel_rfl) (fun _ _ _ h => h) (Or.inl ⟨by rfl, ?hy2a⟩) (by assumption) ?rest2a
    case hy2a => (intro W hSw; go_simp; first | done | with_reducible rfl)
    simp only [Act.put, List.getElem_toArray, List.getElem_cons_zero, List.getElem_cons_succ, List.setIfInBounds_toArray, List.set_cons_zero, List.set_cons_succ]
    refine wpAnyH_take (i := 3) (v := ?v3a) rfl (by kernel_rfl) (by kernel_rfl) (by kernel_rfl) (fun _ _ _ h => h) (Or.inl ⟨by rfl, ?hy3a⟩) (by assumption) ?rest3a
    case hy3a => (intro W hSw; go_simp; first | done | with_reducible rfl)
    simp only [Act.put, List.getElem_toArray, List.getElem_cons_zero, List.getElem_cons_succ, List.setIfInBounds_toArray, List.set_cons_zero, List.set_cons_succ]
    refine wpAnyH_take (i := 4) (v := ?v4a) rfl (by kernel_rfl) (by kernel_rfl) (by kernel_rfl) (fun _ _ _ h => h) (Or.inl ⟨by rfl, ?hy4a⟩) (by assumption) ?rest4a
    case hy4a => (intro W hSw; go_simp; first | done | with_reducible rfl)
    simp only [Act.put, List.getElem_toArray, List.getElem_cons_zero, List.getElem_cons_succ, List.setIfInBounds_toArray, List.set_cons_zero, List.set_cons_succ]
    refine wpAnyH_take (i := 5) rfl (by kernel_rfl) (by kernel_rfl) (by kernel_rfl) (fun _ _ _ h => h) (yieldsIf_load_mid (by rfl) 52 _ rfl (w.heap.size) 8 rfl (s.p.a.rg : Rg).c.toList _ (fun W hSw => NS.range_ra (hSw.heap K0a.out (by omega))) Tryd.underlying52 rfl ?hi5a) (by assumption) ?rest5a
    case hi5a => exact ring13_size _
    simp only [Act.put, List.getElem_toArray, List.getElem_cons_zero, List.getElem_cons_succ, List.setIfInBounds_toArray, List.set_cons_zero, List.set_cons_succ]
    refine wpAnyH_take (i := 7) (v := ?v7a) rfl (by kernel_rfl) (by kernel_rfl) (by kernel_rfl) (fun _ _ _ h => h) (Or.inl ⟨by rfl, ?hy7a⟩) (by assumption) ?rest7a
    case hy7a => (intro W hSw; go_simp; first | done | with_reducible rfl)
    simp only [Act.put, List.getElem_toArray, List.getElem_cons_zero, List.getElem_cons_succ, List.setIfInBounds_toArray, List.set_cons_zero, List.set_cons_succ]
    refine wpAnyH_take (i := 8) (v := ?v8a) rfl (by kernel_rfl) (by kernel_rfl) (by kernel_rfl) (fun _ _ _ h => h) (Or.inl ⟨by rfl, ?hy8a⟩) (by assumption) ?rest8a
    case hy8a => (intro W hSw; go_simp; first | done | with_reducible rfl)
    simp only [Act.put, List.getElem_toArray, List.getElem_cons_zero, List.getElem_cons_succ, List.setIfInBounds_toArray, List.set_cons_zero, List.set_cons_succ]
    refine wpAnyH_take (i := 9) (v := ?v9a) rfl (by kernel_rfl) (by kernel_rfl) (by kernel_rfl) (fun _ _ _ h => h) (Or.inl ⟨by rfl, ?hy9a⟩) (by assumption) ?rest9a
    case hy9a => (intro W hSw; go_simp; first | done | with_reducible rfl)
    simp only [Act.put, List.getElem_toArray, List.getElem_cons_zero, List.getElem_cons_succ, List.setIfInBounds_toArray, List.set_cons_zero, List.set_cons_succ]
    refine wpAnyH_ready (rs := [6, 15]) (by kernel_rfl) (by simp) ?_
    refine AllReadyH.cons (o := _) rfl (fun K hK => ?_) (AllReadyH.cons (o := _) rfl (fun K hK => ?_) AllReadyH.nil)
    · simp only [List.getElem_toArray, List.getElem_cons_zero, List.getElem_cons_succ]
      rw [if_pos (by rfl)]
      refine wp_load_row 65 _ rfl (w.heap.size + 1) rfl 65 rc (0, 0) _ KM.out Tryd.underlying65 rfl HI.out ?_
      refine hK.out _ _ hHeld (fun hS1 => ?_)
      clear hK K
      try simp only [Act.put, List.setIfInBounds_toArray, List.set_cons_zero, List.set_cons_succ]
      refine wpAnyH_ready (rs := [10, 15]) (by kernel_rfl) (by simp) ?_
      refine AllReadyH.cons (o := _) rfl (fun K hK => ?_) (AllReadyH.cons (o := _) rfl (fun K hK => ?_) AllReadyH.nil)
      · simp only [List.getElem_toArray, List.getElem_cons_zero, List.getElem_cons_succ]
        go_simp
        have hlt : ∀ k, (fun k => F k ∨ (w.heap.size ≤ k ∧ k < w.heap.size + 4)) k → k < w2.heap.size := fun k hk => by
          have h1 := (hS1).size
          have h2 := HSZ.out
          rcases hk with hk | hk
          · have := HRF.out.2.1 k hk; omega
          · omega
        refine (HG.out _ _ HRF2.out hlt (by have h1 := (hS1).size; have h2 := HSZ.out; have h3 := HRF.out.2.2; omega)).mono ?_
        rintro e wc3 ⟨v', rfl, hR, hb⟩
        refine hK.out _ _ ((hS1).trans (KX.of_below (X := (fun k => k = w.heap.size + 1)) hb) (fun _ _ h => h)) (fun hS2 => ?_)
        clear hK K hlt
        try simp only [Act.put, List.setIfInBounds_toArray, List.set_cons_zero, List.set_cons_succ]
        obtain ⟨C4, rfl, hvs, hvo⟩ := hR.form
        have HRF5 := Lib.hid hR
        have HZ6 := Lib.hid (And.intro hvs hvo)
        have KM7 := Lib.hid (keepB KM.out hb)
        clear hR hb hvs hvo
        refine wpAnyH_take (i := 11) (v := ?v11p) rfl (by kernel_rfl) (by kernel_rfl) (by kernel_rfl) (fun _ _ _ h => h) (Or.inl ⟨by rfl, ?hy11p⟩) (by assumption) ?rest11p
        case hy11p => (intro W hSw; go_simp; first | done | with_reducible rfl)
        simp only [Act.put, List.getElem_toArray, List.getElem_cons_zero, List.getElem_cons_succ, List.setIfInBounds_toArray, List.set_cons_zero, List.set_cons_succ]
        refine wpAnyH_take (i := 12) (v := ?v12p) rfl (by kernel_rfl) (by kernel_rfl) (by kernel_rfl) (fun _ _ _ h => h) (Or.inl ⟨by rfl, ?hy12p⟩) (by assumption) ?rest12p
        case hy12p => (intro W hSw; go_simp; first | done | with_reducible rfl)
        simp only [Act.put, List.getElem_toArray, List.getElem_cons_zero, List.getElem_cons_succ, List.setIfInBounds_toArray, List.set_cons_zero, List.set_cons_succ]
        refine wpAnyH_take (i := 13) (v := ?v13p) rfl (by kernel_rfl) (by kernel_rfl) (by kernel_rfl) (fun _ _ _ h => h) (Or.inl ⟨by rfl, ?hy13p⟩) (by assumption) ?rest13p
        case hy13p => (intro W hSw; go_simp; first | done | with_reducible rfl)
        simp only [Act.put, List.getElem_toArray, List.getElem_cons_zero, List.getElem_cons_succ, List.setIfInBounds_toArray, List.set_cons_zero, List.set_cons_succ]
        refine wpAnyH_take (i := 14) (v := ?v14p) rfl (by kernel_rfl) (by kernel_rfl) (by kernel_rfl) (fun _ _ _ h => h) (Or.inl ⟨by rfl, ?hy14p⟩) (by assumption) ?rest14p
        case hy14p => (intro W hSw; go_simp; first | done | with_reducible rfl)
        simp only [Act.put, List.getElem_toArray, List.getElem_cons_zero, List.getElem_cons_succ, List.setIfInBounds_toArray, List.set_cons_zero, List.set_cons_succ]
        refine wpAnyH_ready (rs := [15]) (by kernel_rfl) (by simp) ?_
        refine AllReadyH.cons (o := _) rfl (fun K hK => ?_) AllReadyH.nil
        simp only [List.getElem_toArray, List.getElem_cons_zero, List.getElem_cons_succ]
        go_simp
        refine hK.out _ _ ((hS2).alloc _) (fun hS9 => ?_)
        clear hK K
        try simp only [Act.put, List.setIfInBounds_toArray, List.set_cons_zero, List.set_cons_succ]
        have KR11 := Lib.hid (heap_alloc_new wc3 (.cells #[.int .i64 0, .int .u32 0, .int .u32 0, .int .u32 0, .int .u16 0, .int .u16 0] 52))
        have HRF12 : Hid (RefF (wc3.alloc (.cells #[.int .i64 0, .int .u32 0, .int .u32 0, .int .u32 0, .int .u16 0, .int .u16 0] 52)) B (.agg C4) m' (fun k => (fun k => F k ∨ (w.heap.size ≤ k ∧ k < w.heap.size + 4)) k ∨ k = wc3.heap.size)) := Lib.hid ((HRF5.out.new (Nat.le_refl _)).alloc _)
        have KM13 : Hid ((wc3.alloc (.cells #[.int .i64 0, .int .u32 0, .int .u32 0, .int .u32 0, .int .u16 0, .int .u16 0] 52)).heap[w.heap.size + 1]? = some (.cells rc 65 (0, 0))) := Lib.hid (keepB KM7.out ((Below.refl _ _).alloc (Nat.le_refl _) _))
        have HSZ14 : Hid (wc3.heap.size < (wc3.alloc (.cells #[.int .i64 0, .int .u32 0, .int .u32 0, .int .u32 0, .int .u16 0, .int .u16 0] 52)).heap.size ∧ w1.heap.size ≤ wc3.heap.size ∧ w.heap.size + 4 ≤ wc3.heap.size) := Lib.hid (by have h1 := (hS2).size; have h2 := HSZ.out; refine ⟨by simp, h1, by omega⟩)
        generalize wc3.alloc (.cells #[.int .i64 0, .int .u32 0, .int .u32 0, .int .u32 0, .int .u16 0, .int .u16 0] 52) = wa10 at KR11 HRF12 KM13 HSZ14 hS9 ⊢
        generalize wc3.heap.size = bR15 at KR11 HRF12 HSZ14 ⊢
        refine wpAnyH_ready (rs := [16]) (by kernel_rfl) (by simp) ?_
        refine AllReadyH.cons (o := _) rfl (fun K hK => ?_) (AllReadyH.nil)
        simp only [List.getElem_toArray, List.getElem_cons_zero, List.getElem_cons_succ]
        rw [if_pos (by rfl)]
        refine wp_store_row 52 _ _ rfl bR15 (Rg.zero : Rg).c rfl rfl 52 #[.int .i64 0, .int .u32 0, .int .u32 0, .int .u32 0, .int .u16 0, .int .u16 0] KR11.out (ring13_size _) rfl (Rg.c_one _) ?_
        refine hK.out _ _ ((hS9).setRow (.inr HSZ14.out.2.1) _) (fun hS16 => ?_)
        clear hK K
        try simp only [Act.put]
        have KA18 : Hid ((wa10.setRow bR15 (Rg.zero : Rg).c).heap[bR15]? = some (.cells (Rg.zero : Rg).c 52 (0, 0))) := Lib.hid (setRow_heap _ _ _ _ _ _ KR11.out)
        have KM19 : Hid ((wa10.setRow bR15 (Rg.zero : Rg).c).heap[w.heap.size + 1]? = some (.cells rc 65 (0, 0))) := Lib.hid ((heap_row_other (by have := HSZ14.out; omega)).trans KM13.out)
        have HRF20 := Lib.hid (HRF12.out.kx ((KX.refl (fun k => k = bR15) wa10).setRow (.inl rfl) (Rg.zero : Rg).c) (fun k e => .inl (.inr e)))
        generalize wa10.setRow bR15 (Rg.zero : Rg).c = wd17 at KA18 KM19 HRF20 hS16 ⊢
        refine wpAnyH_ready (rs := [17]) (by kernel_rfl) (by simp) ?_
        refine AllReadyH.cons (o := _) rfl (fun K hK => ?_) (AllReadyH.nil)
        simp only [List.getElem_toArray, List.getElem_cons_zero, List.getElem_cons_succ]
        rw [if_pos (by rfl)]
        refine wp_store_row 65 _ _ rfl (w.heap.size + 1) C4 rfl rfl 65 rc KM19.out (ram06_size HZ6.out.1) (by rw [HZ6.out.1]; exact HRC.out) HZ6.out.2 ?_
        refine hK.out _ _ (hS16.setRow (.inl rfl) _) (fun hS21 => ?_)
        clear hK K
        try simp only [Act.put]
        have KA23 : Hid ((wd17.setRow (w.heap.size + 1) C4).heap[bR15]? = some (.cells (Rg.zero : Rg).c 52 (0, 0))) := Lib.hid ((heap_row_other (by have := HSZ14.out; omega)).trans KA18.out)
        have KM24 : Hid ((wd17.setRow (w.heap.size + 1) C4).heap[w.heap.size + 1]? = some (.cells C4 65 (0, 0))) := Lib.hid (setRow_heap _ _ _ _ _ _ KM19.out)
        have HRF25 := Lib.hid (HRF20.out.kx ((KX.refl (fun k => k = w.heap.size + 1) wd17).setRow (.inl rfl) C4) (fun k e => .inl (.inl (.inr (by omega)))))
        generalize wd17.setRow (w.heap.size + 1) C4 = we22 at KA23 KM24 HRF25 hS21 ⊢
        refine wpAnyH_take (i := 18) (v := ?v18p) rfl (by kernel_rfl) (by kernel_rfl) (by kernel_rfl) (fun _ _ _ h => h) (Or.inl ⟨by rfl, ?hy18p⟩) (by assumption) ?rest18p
        case hy18p => (intro W hSw; go_simp; first | done | with_reducible rfl)
        simp only [Act.put, List.getElem_toArray, List.getElem_cons_zero, List.getElem_cons_succ, List.setIfInBounds_toArray, List.set_cons_zero, List.set_cons_succ]
        refine wpAnyH_done (by kernel_rfl) ?_ _
        go_wp2_with fail
        go_meet
        case rel => exact ⟨bR15, C4, rfl, rfl, HSZ14.out.2.1, KA23.out, KM24.out, HZ6.out.1, HZ6.out.2, HRF25.out.weak (fun k hk => .inl hk), hS21⟩
      · simp only [List.getElem_toArray, List.getElem_cons_zero, List.getElem_cons_succ]
        go_simp
        refine hK.out _ _ ((hS1).alloc _) (fun hS26 => ?_)
        clear hK K
        try simp only [Act.put, List.setIfInBounds_toArray, List.set_cons_zero, List.set_cons_succ]
        have KR28 := Lib.hid (heap_alloc_new w2 (.cells #[.int .i64 0, .int .u32 0, .int .u32 0, .int .u32 0, .int .u16 0, .int .u16 0] 52))
        have HRF29 : Hid (RefF (w2.alloc (.cells #[.int .i64 0, .int .u32 0, .int .u32 0, .int .u32 0, .int .u16 0, .int .u16 0] 52)) B (.agg rc) m (fun k => (fun k => F k ∨ (w.heap.size ≤ k ∧ k < w.heap.size + 4)) k ∨ k = w2.heap.size)) := Lib.hid ((HRF2.out.new (Nat.le_refl _)).alloc _)
        have KM30 : Hid ((w2.alloc (.cells #[.int .i64 0, .int .u32 0, .int .u32 0, .int .u32 0, .int .u16 0, .int .u16 0] 52)).heap[w.heap.size + 1]? = some (.cells rc 65 (0, 0))) := Lib.hid (keepB KM.out ((Below.refl _ _).alloc (Nat.le_refl _) _))
        have HSZ31 : Hid (w2.heap.size < (w2.alloc (.cells #[.int .i64 0, .int .u32 0, .int .u32 0, .int .u32 0, .int .u16 0, .int .u16 0] 52)).heap.size ∧ w1.heap.size ≤ w2.heap.size ∧ w.heap.size + 4 ≤ w2.heap.size) := Lib.hid (by have h1 := (hS1).size; have h2 := HSZ.out; refine ⟨by simp, h1, by omega⟩)
        generalize w2.alloc (.cells #[.int .i64 0, .int .u32 0, .int .u32 0, .int .u32 0, .int .u16 0, .int .u16 0] 52) = wa27 at KR28 HRF29 KM30 HSZ31 hS26 ⊢
        generalize w2.heap.size = bR32 at KR28 HRF29 HSZ31 ⊢
        refine wpAnyH_ready (rs := [10]) (by kernel_rfl) (by simp) ?_
        refine AllReadyH.cons (o := _) rfl (fun K hK => ?_) AllReadyH.nil
        simp only [List.getElem_toArray, List.getElem_cons_zero, List.getElem_cons_succ]
        go_simp
        have hlt : ∀ k, (fun k => (fun k => F k ∨ (w.heap.size ≤ k ∧ k < w.heap.size + 4)) k ∨ k = bR32) k → k < wa27.heap.size := fun k hk => by
          have h1 := (hS26).size
          have h2 := HSZ.out
          have h3 := HSZ31.out.1
          rcases hk with (hk | hk) | hk
          · have := HRF.out.2.1 k hk; omega
          · omega
          · omega
        refine (HG.out _ _ HRF29.out hlt (by have h1 := (hS26).size; have h2 := HSZ.out; have h3 := HRF.out.2.2; omega)).mono ?_
        rintro e wc34 ⟨v', rfl, hR, hb⟩
        refine hK.out _ _ ((hS26).trans (KX.of_below (X := (fun k => k = w.heap.size + 1)) hb) (fun _ _ h => h)) (fun hS33 => ?_)
        clear hK K hlt
        try simp only [Act.put, List.setIfInBounds_toArray, List.set_cons_zero, List.set_cons_succ]
        obtain ⟨C35, rfl, hvs, hvo⟩ := hR.form
        have HRF36 := Lib.hid hR
        have HZ37 := Lib.hid (And.intro hvs hvo)
        have KM38 := Lib.hid (keepB KM30.out hb)
        have KR40 := Lib.hid (keepB KR28.out hb)
        clear hR hb hvs hvo
        refine wpAnyH_take (i := 11) (v := ?v11q) rfl (by kernel_rfl) (by kernel_rfl) (by kernel_rfl) (fun _ _ _ h => h) (Or.inl ⟨by rfl, ?hy11q⟩) (by assumption) ?rest11q
        case hy11q => (intro W hSw; go_simp; first | done | with_reducible rfl)
        simp only [Act.put, List.getElem_toArray, List.getElem_cons_zero, List.getElem_cons_succ, List.setIfInBounds_toArray, List.set_cons_zero, List.set_cons_succ]
        refine wpAnyH_take (i := 12) (v := ?v12q) rfl (by kernel_rfl) (by kernel_rfl) (by kernel_rfl) (fun _ _ _ h => h) (Or.inl ⟨by rfl, ?hy12q⟩) (by assumption) ?rest12q
        case hy12q => (intro W hSw; go_simp; first | done | with_reducible rfl)
        simp only [Act.put, List.getElem_toArray, List.getElem_cons_zero, List.getElem_cons_succ, List.setIfInBounds_toArray, List.set_cons_zero, List.set_cons_succ]
        refine wpAnyH_take (i := 13) (v := ?v13q) rfl (by kernel_rfl) (by kernel_rfl) (by kernel_rfl) (fun _ _ _ h => h) (Or.inl ⟨by rfl, ?hy13q⟩) (by assumption) ?rest13q
        case hy13q => (intro W hSw; go_simp; first | done | with_reducible rfl)
        simp only [Act.put, List.getElem_toArray, List.getElem_cons_zero, List.getElem_cons_succ, List.setIfInBounds_toArray, List.set_cons_zero, List.set_cons_succ]
        refine wpAnyH_take (i := 14) (v := ?v14q) rfl (by kernel_rfl) (by kernel_rfl) (by kernel_rfl) (fun _ _ _ h => h) (Or.inl ⟨by rfl, ?hy14q⟩) (by assumption) ?rest14q
        case hy14q => (intro W hSw; go_simp; first | done | with_reducible rfl)
        simp only [Act.put, List.getElem_toArray, List.getElem_cons_zero, List.getElem_cons_succ, List.setIfInBounds_toArray, List.set_cons_zero, List.set_cons_succ]
        refine wpAnyH_ready (rs := [16]) (by kernel_rfl) (by simp) ?_
        refine AllReadyH.cons (o := _) rfl (fun K hK => ?_) (AllReadyH.nil)
        simp only [List.getElem_toArray, List.getElem_cons_zero, List.getElem_cons_succ]
        rw [if_pos (by rfl)]
        refine wp_store_row 52 _ _ rfl bR32 (Rg.zero : Rg).c rfl rfl 52 #[.int .i64 0, .int .u32 0, .int .u32 0, .int .u32 0, .int .u16 0, .int .u16 0] KR40.out (ring13_size _) rfl (Rg.c_one _) ?_
        refine hK.out _ _ ((hS33).setRow (.inr HSZ31.out.2.1) _) (fun hS41 => ?_)
        clear hK K
        try simp only [Act.put]
        have KA43 : Hid ((wc34.setRow bR32 (Rg.zero : Rg).c).heap[bR32]? = some (.cells (Rg.zero : Rg).c 52 (0, 0))) := Lib.hid (setRow_heap _ _ _ _ _ _ KR40.out)
        have KM44 : Hid ((wc34.setRow bR32 (Rg.zero : Rg).c).heap[w.heap.size + 1]? = some (.cells rc 65 (0, 0))) := Lib.hid ((heap_row_other (by have := HSZ31.out; omega)).trans KM38.out)
        have HRF45 := Lib.hid (HRF36.out.kx ((KX.refl (fun k => k = bR32) wc34).setRow (.inl rfl) (Rg.zero : Rg).c) (fun k e => .inl (.inr e)))
        generalize wc34.setRow bR32 (Rg.zero : Rg).c = wd42 at KA43 KM44 HRF45 hS41 ⊢
        refine wpAnyH_ready (rs := [17]) (by kernel_rfl) (by simp) ?_
        refine AllReadyH.cons (o := _) rfl (fun K hK => ?_) (AllReadyH.nil)
        simp only [List.getElem_toArray, List.getElem_cons_zero, List.getElem_cons_succ]
        rw [if_pos (by rfl)]
        refine wp_store_row 65 _ _ rfl (w.heap.size + 1) C35 rfl rfl 65 rc KM44.out (ram06_size HZ37.out.1) (by rw [HZ37.out.1]; exact HRC.out) HZ37.out.2 ?_
        refine hK.out _ _ (hS41.setRow (.inl rfl) _) (fun hS46 => ?_)
        clear hK K
        try simp only [Act.put]
        have KA48 : Hid ((wd42.setRow (w.heap.size + 1) C35).heap[bR32]? = some (.cells (Rg.zero : Rg).c 52 (0, 0))) := Lib.hid ((heap_row_other (by have := HSZ31.out; omega)).trans KA43.out)
        have KM49 : Hid ((wd42.setRow (w.heap.size + 1) C35).heap[w.heap.size + 1]? = some (.cells C35 65 (0, 0))) := Lib.hid (setRow_heap _ _ _ _ _ _ KM44.out)
        have HRF50 := Lib.hid (HRF45.out.kx ((KX.refl (fun k => k = w.heap.size + 1) wd42).setRow (.inl rfl) C35) (fun k e => .inl (.inl (.inr (by omega)))))
        generalize wd42.setRow (w.heap.size + 1) C35 = we47 at KA48 KM49 HRF50 hS46 ⊢
        refine wpAnyH_take (i := 18) (v := ?v18q) rfl (by kernel_rfl) (by kernel_rfl) (by kernel_rfl) (fun _ _ _ h => h) (Or.inl ⟨by rfl, ?hy18q⟩) (by assumption) ?rest18q
        case hy18q => (intro W hSw; go_simp; first | done | with_reducible rfl)
        simp only [Act.put, List.getElem_toArray, List.getElem_cons_zero, List.getElem_cons_succ, List.setIfInBounds_toArray, List.set_cons_zero, List.set_cons_succ]
        refine wpAnyH_done (by kernel_rfl) ?_ _
        go_wp2_with fail
        go_meet
        case rel => exact ⟨bR32, C35, rfl, rfl, HSZ31.out.2.1, KA48.out, KM49.out, HZ37.out.1, HZ37.out.2, HRF50.out.weak (fun k hk => .inl hk), hS46⟩
    · simp only [List.getElem_toArray, List.getElem_cons_zero, List.getElem_cons_succ]
      go_simp
      refine hK.out _ _ ((hHeld).alloc _) (fun hS51 => ?_)
      clear hK K
      try simp only [Act.put, List.setIfInBounds_toArray, List.set_cons_zero, List.set_cons_succ]
      have KR53 := Lib.hid (heap_alloc_new w2 (.cells #[.int .i64 0, .int .u32 0, .int .u32 0, .int .u32 0, .int .u16 0, .int .u16 0] 52))
      have HRF54 : Hid (RefF (w2.alloc (.cells #[.int .i64 0, .int .u32 0, .int .u32 0, .int .u32 0, .int .u16 0, .int .u16 0] 52)) B (.agg rc) m (fun k => (fun k => F k ∨ (w.heap.size ≤ k ∧ k < w.heap.size + 4)) k ∨ k = w2.heap.size)) := Lib.hid ((HRF2.out.new (Nat.le_refl _)).alloc _)
      have KM55 : Hid ((w2.alloc (.cells #[.int .i64 0, .int .u32 0, .int .u32 0, .int .u32 0, .int .u16 0, .int .u16 0] 52)).heap[w.heap.size + 1]? = some (.cells rc 65 (0, 0))) := Lib.hid (keepB KM.out ((Below.refl _ _).alloc (Nat.le_refl _) _))
      have HSZ56 : Hid (w2.heap.size < (w2.alloc (.cells #[.int .i64 0, .int .u32 0, .int .u32 0, .int .u32 0, .int .u16 0, .int .u16 0] 52)).heap.size ∧ w1.heap.size ≤ w2.heap.size ∧ w.heap.size + 4 ≤ w2.heap.size) := Lib.hid (by have h1 := (hHeld).size; have h2 := HSZ.out; refine ⟨by simp, h1, by omega⟩)
      generalize w2.alloc (.cells #[.int .i64 0, .int .u32 0, .int .u32 0, .int .u32 0, .int .u16 0, .int .u16 0] 52) = wa52 at KR53 HRF54 KM55 HSZ56 hS51 ⊢
      generalize w2.heap.size = bR57 at KR53 HRF54 HSZ56 ⊢
      refine wpAnyH_ready (rs := [6]) (by kernel_rfl) (by simp) ?_
      refine AllReadyH.cons (o := _) rfl (fun K hK => ?_) AllReadyH.nil
      simp only [List.getElem_toArray, List.getElem_cons_zero, List.getElem_cons_succ]
      rw [if_pos (by rfl)]
      refine wp_load_row 65 _ rfl (w.heap.size + 1) rfl 65 rc (0, 0) _ KM55.out Tryd.underlying65 rfl HI.out ?_
      refine hK.out _ _ hS51 (fun hS58 => ?_)
      clear hK K
      try simp only [Act.put, List.setIfInBounds_toArray, List.set_cons_zero, List.set_cons_succ]
      refine wpAnyH_ready (rs := [10]) (by kernel_rfl) (by simp) ?_
      refine AllReadyH.cons (o := _) rfl (fun K hK => ?_) AllReadyH.nil
      simp only [List.getElem_toArray, List.getElem_cons_zero, List.getElem_cons_succ]
      go_simp
      have hlt : ∀ k, (fun k => (fun k => F k ∨ (w.heap.size ≤ k ∧ k < w.heap.size + 4)) k ∨ k = bR57) k → k < wa52.heap.size := fun k hk => by
        have h1 := (hS58).size
        have h2 := HSZ.out
        have h3 := HSZ56.out.1
        rcases hk with (hk | hk) | hk
        · have := HRF.out.2.1 k hk; omega
        · omega
        · omega
      refine (HG.out _ _ HRF54.out hlt (by have h1 := (hS58).size; have h2 := HSZ.out; have h3 := HRF.out.2.2; omega)).mono ?_
      rintro e wc60 ⟨v', rfl, hR, hb⟩
      refine hK.out _ _ ((hS58).trans (KX.of_below (X := (fun k => k = w.heap.size + 1)) hb) (fun _ _ h => h)) (fun hS59 => ?_)
      clear hK K hlt
      try simp only [Act.put, List.setIfInBounds_toArray, List.set_cons_zero, List.set_cons_succ]
      obtain ⟨C61, rfl, hvs, hvo⟩ := hR.form
      have HRF62 := Lib.hid hR
      have HZ63 := Lib.hid (And.intro hvs hvo)
      have KM64 := Lib.hid (keepB KM55.out hb)
      have KR66 := Lib.hid (keepB KR53.out hb)
      clear hR hb hvs hvo
      refine wpAnyH_take (i := 11) (v := ?v11r) rfl (by kernel_rfl) (by kernel_rfl) (by kernel_rfl) (fun _ _ _ h => h) (Or.inl ⟨by rfl, ?hy11r⟩) (by assumption) ?rest11r
      case hy11r => (intro W hSw; go_simp; first | done | with_reducible rfl)
      simp only [Act.put, List.getElem_toArray, List.getElem_cons_zero, List.getElem_cons_succ, List.setIfInBounds_toArray, List.set_cons_zero, List.set_cons_succ]
      refine wpAnyH_take (i := 12) (v := ?v12r) rfl (by kernel_rfl) (by kernel_rfl) (by kernel_rfl) (fun _ _ _ h => h) (Or.inl ⟨by rfl, ?hy12r⟩) (by assumption) ?rest12r
      case hy12r => (intro W hSw; go_simp; first | done | with_reducible rfl)
      simp only [Act.put, List.getElem_toArray, List.getElem_cons_zero, List.getElem_cons_succ, List.setIfInBounds_toArray, List.set_cons_zero, List.set_cons_succ]
      refine wpAnyH_take (i := 13) (v := ?v13r) rfl (by kernel_rfl) (by kernel_rfl) (by kernel_rfl) (fun _ _ _ h => h) (Or.inl ⟨by rfl, ?hy13r⟩) (by assumption) ?rest13r
      case hy13r => (intro W hSw; go_simp; first | done | with_reducible rfl)
      simp only [Act.put, List.getElem_toArray, List.getElem_cons_zero, List.getElem_cons_succ, List.setIfInBounds_toArray, List.set_cons_zero, List.set_cons_succ]
      refine wpAnyH_take (i := 14) (v := ?v14r) rfl (by kernel_rfl) (by kernel_rfl) (by kernel_rfl) (fun _ _ _ h => h) (Or.inl ⟨by rfl, ?hy14r⟩) (by assumption) ?rest14r
      case hy14r => (intro W hSw; go_simp; first | done | with_reducible rfl)
      simp only [Act.put, List.getElem_toArray, List.getElem_cons_zero, List.getElem_cons_succ, List.setIfInBounds_toArray, List.set_cons_zero, List.set_cons_succ]
      refine wpAnyH_ready (rs := [16]) (by kernel_rfl) (by simp) ?_
      refine AllReadyH.cons (o := _) rfl (fun K hK => ?_) (AllReadyH.nil)
      simp only [List.getElem_toArray, List.getElem_cons_zero, List.getElem_cons_succ]
      rw [if_pos (by rfl)]
      refine wp_store_row 52 _ _ rfl bR57 (Rg.zero : Rg).c rfl rfl 52 #[.int .i64 0, .int .u32 0, .int .u32 0, .int .u32 0, .int .u16 0, .int .u16 0] KR66.out (ring13_size _) rfl (Rg.c_one _) ?_
      refine hK.out _ _ ((hS59).setRow (.inr HSZ56.out.2.1) _) (fun hS67 => ?_)
      clear hK K
      try simp only [Act.put]
      have KA69 : Hid ((wc60.setRow bR57 (Rg.zero : Rg).c).heap[bR57]? = some (.cells (Rg.zero : Rg).c 52 (0, 0))) := Lib.hid (setRow_heap _ _ _ _ _ _ KR66.out)
      have KM70 : Hid ((wc60.setRow bR57 (Rg.zero : Rg).c).heap[w.heap.size + 1]? = some (.cells rc 65 (0, 0))) := Lib.hid ((heap_row_other (by have := HSZ56.out; omega)).trans KM64.out)
      have HRF71 := Lib.hid (HRF62.out.kx ((KX.refl (fun k => k = bR57) wc60).setRow (.inl rfl) (Rg.zero : Rg).c) (fun k e => .inl (.inr e)))
      generalize wc60.setRow bR57 (Rg.zero : Rg).c = wd68 at KA69 KM70 HRF71 hS67 ⊢
      refine wpAnyH_ready (rs := [17]) (by kernel_rfl) (by simp) ?_
      refine AllReadyH.cons (o := _) rfl (fun K hK => ?_) (AllReadyH.nil)
      simp only [List.getElem_toArray, List.getElem_cons_zero, List.getElem_cons_succ]
      rw [if_pos (by rfl)]
      refine wp_store_row 65 _ _ rfl (w.heap.size + 1) C61 rfl rfl 65 rc KM70.out (ram06_size HZ63.out.1) (by rw [HZ63.out.1]; exact HRC.out) HZ63.out.2 ?_
      refine hK.out _ _ (hS67.setRow (.inl rfl) _) (fun hS72 => ?_)
      clear hK K
      try simp only [Act.put]
      have KA74 : Hid ((wd68.setRow (w.heap.size + 1) C61).heap[bR57]? = some (.cells (Rg.zero : Rg).c 52 (0, 0))) := Lib.hid ((heap_row_other (by have := HSZ56.out; omega)).trans KA69.out)
      have KM75 : Hid ((wd68.setRow (w.heap.size + 1) C61).heap[w.heap.size + 1]? = some (.cells C61 65 (0, 0))) := Lib.hid (setRow_heap _ _ _ _ _ _ KM70.out)
      have HRF76 := Lib.hid (HRF71.out.kx ((KX.refl (fun k => k = w.heap.size + 1) wd68).setRow (.inl rfl) C61) (fun k e => .inl (.inl (.inr (by omega)))))
      generalize wd68.setRow (w.heap.size + 1) C61 = we73 at KA74 KM75 HRF76 hS72 ⊢
      refine wpAnyH_take (i := 18) (v := ?v18r) rfl (by kernel_rfl) (by kernel_rfl) (by kernel_rfl) (fun _ _ _ h => h) (Or.inl ⟨by rfl, ?hy18r⟩) (by assumption) ?rest18r
      case hy18r => (intro W hSw; go_simp; first | done | with_reducible rfl)
      simp only [Act.put, List.getElem_toArray, List.getElem_cons_zero, List.getElem_cons_succ, List.setIfInBounds_toArray, List.set_cons_zero, List.set_cons_succ]
      refine wpAnyH_done (by kernel_rfl) ?_ _
      go_wp2_with fail
      go_meet
      case rel => exact ⟨bR57, C61, rfl, rfl, HSZ56.out.2.1, KA74.out, KM75.out, HZ63.out.1, HZ63.out.2, HRF76.out.weak (fun k hk => .inl hk), hS72⟩
  obtain ⟨bR, C1, rfl, rfl, hbR, kR, kM, hc1, ho1, hr1, hx⟩ := hcut
  have K1 := Lib.hid (hx.heap K0a.out (by omega))
  clear K0a
  have K2 := Lib.hid (hx.heap K2a.out (by omega))
  clear K2a
  have K3 := Lib.hid (hx.heap K3a.out (by omega))
  clear K3a
  have K4 := Lib.hid kM
  clear K1a
  have HB5 := Lib.hid (HB0a.out.trans (hx.below (B := w.heap.size) (fun k hk e => by omega) HB0a.out.size))
  clear HB0a
  have HC1 := Lib.hid (ram06_size hc1)
  have HC1o := Lib.hid (And.intro hc1 ho1)
  have HRR := Lib.hid hr1
  have KRR := Lib.hid kR
  have HBR := Lib.hid (show w.heap.size + 4 ≤ bR by have := HSZ.out; omega)
  clear hx kR kM hc1 ho1 hr1 hbR HSZ
  clear KRR
  have HRP := Lib.hid (NS.range_p K1.out)
  go_wp2_with (first | go_skip | (refine load_midW rfl 57 _ rfl (w.heap.size) 0 rfl s.p.c.toList _ HRP.out Tryd.underlying57 rfl (vio14_sizeL _) ?_))
  refine (HU.out _).mono ?_
  rintro e wu ⟨rfl, hb⟩
  have HE6 := Lib.hid (HRR.out.below hb)
  clear HRR
  have K7 := Lib.hid (keepB K1.out hb)
  clear K1
  have K8 := Lib.hid (keepB K4.out hb)
  clear K4
  have K9 := Lib.hid (keepB K2.out hb)
  clear K2
  have K10 := Lib.hid (keepB K3.out hb)
  clear K3
  have HB11 := Lib.hid (HB5.out.trans (hb.mono HB5.out.size))
  clear HB5
  clear hb HRP HU
  go_wp2_with (first | go_skip | (refine wpList_store_mid_to rfl 57 _ _ rfl (w.heap.size) 0 s.p.fail.c rfl rfl 59 s.c K7.out (by show 0 + 21 ≤ 23; omega) (vio14_size _) (VS.c_one _) ?_))
  intro wv hx hkk
  rw [put_p] at hkk
  have HE12 := Lib.hid (HE6.out.kx hx.out (fun k e => .inl (.inr (by omega))))
  clear HE6
  have K13 := Lib.hid (hx.out.heap K8.out (by omega))
  clear K8
  have K14 := Lib.hid (hx.out.heap K9.out (by omega))
  clear K9
  have K15 := Lib.hid (hx.out.heap K10.out (by omega))
  clear K10
  have K16 := Lib.hid hkk
  clear hkk K7
  have HB17 := Lib.hid (HB11.out.trans (hx.out.below (B := w.heap.size) (fun k hk e => by omega) HB11.out.size))
  clear HB11 hx
  go_upto_region 4 with fail
  have HO18 := Lib.hid (show (({ s with p := s.p.fail } : NS).c : Array Value).all (·.oneCell') = true from (NS.c_one _))
  have HO19 := Lib.hid (show (C1 : Array Value).all (·.oneCell') = true from HC1o.out.2)
  refine wp_region_held_drew (S := KX (fun k => k = w.heap.size + 1 + 1 ∨ k = w.heap.size + 1 + 1 + 1) wv) (by kernel_rfl) ((KX.refl (fun k => k = w.heap.size + 1 + 1 ∨ k = w.heap.size + 1 + 1 + 1) wv).drew) (fun hHeld => ?_)
  refine wpAnyH_take (i := 0) rfl (by kernel_rfl) (by kernel_rfl) (by kernel_rfl) (fun _ _ _ h => h) (yieldsIf_load_mid (by rfl) 59 _ rfl (w.heap.size) 0 rfl (({ s with p := s.p.fail } : NS).c).toList _ (fun W hSw => range_of_all (hSw.heap K16.out (by omega))) Tryd.underlying59 rfl ?hi0t) (by assumption) ?rest0t
  case hi0t => exact (nic16_size s)
  simp only [Act.put, List.getElem_toArray, List.getElem_cons_zero, List.setIfInBounds_toArray, List.set_cons_zero, List.set_cons_succ]
  refine wpAnyH_take (i := 1) rfl (by kernel_rfl) (by kernel_rfl) (by kernel_rfl) (fun _ _ _ h => h) (yieldsIf_load_mid (by rfl) 65 _ rfl (w.heap.size + 1) 0 rfl (C1).toList _ (fun W hSw => range_of_all (hSw.heap K13.out (by omega))) Tryd.underlying65 rfl ?hi1t) (by assumption) ?rest1t
  case hi1t => exact HC1.out
  simp only [Act.put, List.getElem_toArray, List.getElem_cons_zero, List.getElem_cons_succ, List.setIfInBounds_toArray, List.set_cons_zero, List.set_cons_succ]
  refine wpAnyH_two_stores (i := 2) (j := 3) (w.heap.size + 1 + 1) (w.heap.size + 1 + 1 + 1) (({ s with p := s.p.fail } : NS).c) (C1) (NS.zero.c) (#[(.slice none 0 0 : Value), .slice none 0 0, .int .i64 0]) 59 65 rfl rfl (by kernel_rfl) (by kernel_rfl) rfl rfl rfl rfl 59 65 _ _ _ _ rfl rfl rfl rfl rfl rfl K14.out K15.out (nic16_size _) HC1.out rfl (by rw [HC1o.out.1]; rfl) HO18.out HO19.out (by omega) hHeld ?_
  intro w20 hx hk1 hk2
  clear hHeld
  try simp only [List.setIfInBounds_toArray, List.set_cons_zero, List.set_cons_succ]
  refine wpAnyH_done (by kernel_rfl) ?_ _
  have HE21 := Lib.hid (HE12.out.kx hx (fun k e => .inl (.inr (by omega))))
  clear HE12
  have K22 := Lib.hid (hx.heap K16.out (by omega))
  clear K16
  have K23 := Lib.hid (hx.heap K13.out (by omega))
  clear K13
  have K24 := Lib.hid hk1
  clear K14 hk1
  have K25 := Lib.hid hk2
  clear K15 hk2
  have HB26 := Lib.hid (HB17.out.trans (hx.below (B := w.heap.size) (fun k hk e => by omega) HB17.out.size))
  clear HB17 hx
  go_wp2_with fail
  exact bodyPost_ret (v := .tuple #[.agg ({ s with p := s.p.fail } : NS).c, .agg C1]) (results_2cell Tryd.results52 _ _ (w.heap.size + 1 + 1) (w.heap.size + 1 + 1 + 1) 59 65 ({ s with p := s.p.fail } : NS).c C1 (0, 0) (0, 0) _ _ rfl rfl K24.out K25.out Tryd.underlying59 rfl (nic16_size _) Tryd.underlying65 rfl HC1.out) rfl ⟨_, rfl, HE21.out.weak (fun k hk => .inl hk), HB26.out⟩
set_option maxRecDepth 100000 in
set_option maxHeartbeats 8000000 in
theorem ref16_give0_ok {B : Nat} {F : Nat → Prop} {m m' : Mm} (s : NS) (hs : s.p.wf) (hd n : Nat) (hn : n < 2147483648) (rc : Array Value) (hrc : rc.size = 3) (hro : rc.all (·.oneCell') = true) (w : World) (h : RefF w B (.agg rc) m F) (hF : ∀ k, F k → k < w.heap.size) (hB : B ≤ w.heap.size)
    (HG : Hid (∀ (W : World) (G : Nat → Prop), RefF W B (.agg rc) m G → (∀ k, G k → k < W.heap.size) → B ≤ W.heap.size → Calls Tryd.prog 89 #[.agg (s.p.a.rg : Rg).c, .agg rc, .int .i64 hd, .int .u32 (IntKind.u32.wrap (n : Int))] W fun e w' => ∃ v', e = .returned (.tuple #[.agg (s.p.a.rg.gave : Rg).c, v', .int .i64 0]) ∧ RefF w' B v' m' G ∧ Below W.heap.size W w'))
    (HU : Hid (∀ W, Calls Tryd.prog 90 #[.agg (s.setR false s.p.a.rg.gave).p.c.toList.toArray] W fun e w' => e = .returned (.agg (s.setR false s.p.a.rg.gave).p.used.c) ∧ Below W.heap.size W w')) :
    Calls Tryd.prog 52 #[.agg s.c, .agg rc, .int .i64 0, .int .i64 hd, .int .i64 n] w fun e w' => ∃ v', e = .returned (.tuple #[.agg ({ (s.setR false s.p.a.rg.gave) with p := (s.setR false s.p.a.rg.gave).p.used } : NS).c, v']) ∧ RefF w' B v' m' F ∧ Below w.heap.size w w' := by
  have HI := Lib.hid (ram06_size hrc)
  have HWF := Lib.hid hs
  have hrf : RefF w B (.agg rc) m (fun k => F k ∨ (w.heap.size ≤ k ∧ k < w.heap.size + 4)) := by
    obtain ⟨n1, n2, b1, c1, b2, c2, he, g1, g2, g3, g4, r1, r2⟩ := h
    have l1 := r1.lt
    have l2 := r2.lt
    exact ⟨n1, n2, b1, c1, b2, c2, he, g1, g2, fun hj => hj.elim g3 (by omega), fun hj => hj.elim g4 (by omega), r1, r2⟩
  have HRF := Lib.hid (And.intro hrf (And.intro hF hB))
  have hn0 : (0 : Int) ≤ (n : Int) := by omega
  have hnm : (n : Int) % 4294967296 = (n : Int) := by omega
  have HRC := Lib.hid hrc
  clear hs hn hrc hro h hF hB hrf
  obtain ⟨k0, k1, k2, k3, hb0⟩ := new4 w (.cells s.c 59) (.cells rc 65) (.cells NS.zero.c 59) (.cells #[(.slice none 0 0 : Value), .slice none 0 0, .int .i64 0] 65)
  have K0a := Lib.hid k0
  have K1a := Lib.hid k1
  have K2a := Lib.hid k2
  have K3a := Lib.hid k3
  have HB0a := Lib.hid hb0
  clear k0 k1 k2 k3 hb0
  have HSZ := Lib.hid (show ((((w.alloc (.cells s.c 59)).alloc (.cells rc 65)).alloc (.cells NS.zero.c 59)).alloc (.cells #[(.slice none 0 0 : Value), .slice none 0 0, .int .i64 0] 65)).heap.size = w.heap.size + 4 by simp)
  go_enter Tryd.func52, Tryd.ntmps52
  go_upto_region 1 with fail
  change Code.wp _ _ _ _ ((((w.alloc (.cells s.c 59)).alloc (.cells rc 65)).alloc (.cells NS.zero.c 59)).alloc (.cells #[(.slice none 0 0 : Value), .slice none 0 0, .int .i64 0] 65))
  generalize ((((w.alloc (.cells s.c 59)).alloc (.cells rc 65)).alloc (.cells NS.zero.c 59)).alloc (.cells #[(.slice none 0 0 : Value), .slice none 0 0, .int .i64 0] 65)) = w1 at K0a K1a K2a K3a HB0a HSZ ⊢
  go_cut [12, 13] from 14 to 28 (fun x y W => ∃ (bR : Nat) (C1 : Array Value), x = .pointer (some ⟨bR, 0, none⟩) ∧ y = .int .i64 0 ∧ w1.heap.size ≤ bR ∧ W.heap[bR]? = some (.cells (s.p.a.rg.gave : Rg).c 52 (0, 0)) ∧ W.heap[w.heap.size + 1]? = some (.cells C1 65 (0, 0)) ∧ C1.size = 3 ∧ C1.all (·.oneCell') = true ∧ RefF W B (.agg C1) m' (fun k => F k ∨ (w.heap.size ≤ k ∧ k < w.heap.size + 4)) ∧ KX (fun k => k = w.heap.size + 1) w1 W)
  case first =>
    have HRF1 := Lib.hid (HRF.out.1.below HB0a.out)
    have HKX1 := Lib.hid ((KX.refl (fun k => k = w.heap.size + 1) w1).drew)
    have HSZ1 := Lib.hid (show w1.drew.heap.size = w.heap.size + 4 from HSZ.out)
    have HRF2 : Hid (RefF w1.drew B (.agg rc) m (fun k => F k ∨ (w.heap.size ≤ k ∧ k < w.heap.size + 4))) := Lib.hid (HRF1.out.below (Below.refl _ _).drew)
    have KM : Hid (w1.drew.heap[w.heap.size + 1]? = some (.cells rc 65 (0, 0))) := K1a
    refine wp_region_held_drew (S := KX (fun k => k = w.heap.size + 1) w1) (by kernel_rfl) ((KX.refl (fun k => k = w.heap.size + 1) w1).drew) (fun hHeld => ?_)
    generalize w1.drew = w2 at HKX1 HSZ1 HRF2 KM hHeld ⊢
    clear HRF1
    refine wpAnyH_take (i := 0) (v := ?v0a) rfl (by kernel_rfl) (by kernel_rfl) (by kernel_rfl) (fun _ _ _ h => h) (Or.inl ⟨by rfl, ?hy0a⟩) (by assumption) ?rest0a
    case hy0a => (intro W hSw; go_simp; first | done | with_reducible rfl)
    simp only [Act.put, List.getElem_toArray, List.getElem_cons_zero, List.setIfInBounds_toArray, List.set_cons_zero, List.set_cons_succ]
    refine wpAnyH_take (i := 1) (v := ?v1a) rfl (by kernel_rfl) (by kernel_rfl) (by kernel_rfl) (fun _ _ _ h => h) (Or.inl ⟨by rfl, ?hy1a⟩) (by assumption) ?rest1a
    case hy1a => (intro W hSw; go_simp; first | done | with_reducible rfl)
    simp only [Act.put, List.getElem_toArray, List.getElem_cons_zero, List.getElem_cons_succ, List.setIfInBounds_toArray, List.set_cons_zero, List.set_cons_succ]
    refine wpAnyH_take (i := 2) (v := ?v2a) rfl (by kernel_rfl) (by kernel_rfl) (by kernel_rfl) (fun _ _ _ h => h) (Or.inl ⟨by rfl, ?hy2a⟩) (by assumption) ?rest2a
    case hy2a => (intro W hSw; go_simp; first | done | with_reducible rfl)
    simp only [Act.put, List.getElem_toArray, List.getElem_cons_zero, List.getElem_cons_succ, List.setIfInBounds_toArray, List.set_cons_zero, List.set_cons_succ]
    refine wpAnyH_take (i := 3) (v := ?v3a) rfl (by kernel_rfl) (by kernel_rfl) (by kernel_rfl) (fun _ _ _ h => h) (Or.inl ⟨by rfl, ?hy3a⟩) (by assumption) ?rest3a
    case hy3a => (intro W hSw; go_simp; first | done | with_reducible rfl)
    simp only [Act.put, List.getElem_toArray, List.getElem_cons_zero, List.getElem_cons_succ, List.setIfInBounds_toArray, List.set_cons_zero, List.set_cons_succ]
    refine wpAnyH_take (i := 4) (v := ?v4a) rfl (by kernel_rfl) (by kernel_rfl) (by kernel_rfl) (fun _ _ _ h => h) (Or.inl ⟨by rfl, ?hy4a⟩) (by assumption) ?rest4a
    case hy4a => (intro W hSw; go_simp; first | done | with_reducible rfl)
    simp only [Act.put, List.getElem_toArray, List.getElem_cons_zero, List.getElem_cons_succ, List.setIfInBounds_toArray, List.set_cons_zero, List.set_cons_succ]
    refine wpAnyH_take (i := 5) rfl (by kernel_rfl) (by kernel_rfl) (by kernel_rfl) (fun _ _ _ h => h) (yieldsIf_load_mid (by rfl) 52 _ rfl (w.heap.size) 8 rfl (s.p.a.rg : Rg).c.toList _ (fun W hSw => NS.range_ra (hSw.heap K0a.out (by omega))) Tryd.underlying52 rfl ?hi5a) (by assumption) ?rest5a
    case hi5a => exact ring13_size _
    simp only [Act.put, List.getElem_toArray, List.getElem_cons_zero, List.getElem_cons_succ, List.setIfInBounds_toArray, List.set_cons_zero, List.set_cons_succ]
    refine wpAnyH_take (i := 7) (v := ?v7a) rfl (by kernel_rfl) (by kernel_rfl) (by kernel_rfl) (fun _ _ _ h => h) (Or.inl ⟨by rfl, ?hy7a⟩) (by assumption) ?rest7a
    case hy7a => (intro W hSw; go_simp; first | done | with_reducible rfl)
    simp only [Act.put, List.getElem_toArray, List.getElem_cons_zero, List.getElem_cons_succ, List.setIfInBounds_toArray, List.set_cons_zero, List.set_cons_succ]
    refine wpAnyH_take (i := 8) (v := ?v8a) rfl (by kernel_rfl) (by kernel_rfl) (by kernel_rfl) (fun _ _ _ h => h) (Or.inl ⟨by rfl, ?hy8a⟩) (by assumption) ?rest8a
    case hy8a => (intro W hSw; go_simp; first | done | with_reducible rfl)
    simp only [Act.put, List.getElem_toArray, List.getElem_cons_zero, List.getElem_cons_succ, List.setIfInBounds_toArray, List.set_cons_zero, List.set_cons_succ]
    refine wpAnyH_take (i := 9) (v := ?v9a) rfl (by kernel_rfl) (by kernel_rfl) (by kernel_rfl) (fun _ _ _ h => h) (Or.inl ⟨by rfl, ?hy9a⟩) (by assumption) ?rest9a
    case hy9a => (intro W hSw; go_simp; first | done | with_reducible rfl)
    simp only [Act.put, List.getElem_toArray, List.getElem_cons_zero, List.getElem_cons_succ, List.setIfInBounds_toArray, List.set_cons_zero, List.set_cons_succ]
    refine wpAnyH_ready (rs := [6, 15]) (by kernel_rfl) (by simp) ?_
    refine AllReadyH.cons (o := _) rfl (fun K hK => ?_) (AllReadyH.cons (o := _) rfl (fun K hK => ?_) AllReadyH.nil)
    · simp only [List.getElem_toArray, List.getElem_cons_zero, List.getElem_cons_succ]
      rw [if_pos (by rfl)]
      refine wp_load_row 65 _ rfl (w.heap.size + 1) rfl 65 rc (0, 0) _ KM.out Tryd.underlying65 rfl HI.out ?_
      refine hK.out _ _ hHeld (fun hS1 => ?_)
      clear hK K
      try simp only [Act.put, List.setIfInBounds_toArray, List.set_cons_zero, List.set_cons_succ]
      refine wpAnyH_ready (rs := [10, 15]) (by kernel_rfl) (by simp) ?_
      refine AllReadyH.cons (o := _) rfl (fun K hK => ?_) (AllReadyH.cons (o := _) rfl (fun K hK => ?_) AllReadyH.nil)
      · simp only [List.getElem_toArray, List.getElem_cons_zero, List.getElem_cons_succ]
        go_simp
        have hlt : ∀ k, (fun k => F k ∨ (w.heap.size ≤ k ∧ k < w.heap.size + 4)) k → k < w2.heap.size := fun k hk => by
          have h1 := (hS1).size
          have h2 := HSZ.out
          rcases hk with hk | hk
          · have := HRF.out.2.1 k hk; omega
          · omega
        refine (HG.out _ _ HRF2.out hlt (by have h1 := (hS1).size; have h2 := HSZ.out; have h3 := HRF.out.2.2; omega)).mono ?_
        rintro e wc3 ⟨v', rfl, hR, hb⟩
        refine hK.out _ _ ((hS1).trans (KX.of_below (X := (fun k => k = w.heap.size + 1)) hb) (fun _ _ h => h)) (fun hS2 => ?_)
        clear hK K hlt
        try simp only [Act.put, List.setIfInBounds_toArray, List.set_cons_zero, List.set_cons_succ]
        obtain ⟨C4, rfl, hvs, hvo⟩ := hR.form
        have HRF5 := Lib.hid hR
        have HZ6 := Lib.hid (And.intro hvs hvo)
        have KM7 := Lib.hid (keepB KM.out hb)
        clear hR hb hvs hvo
        refine wpAnyH_take (i := 11) (v := ?v11p) rfl (by kernel_rfl) (by kernel_rfl) (by kernel_rfl) (fun _ _ _ h => h) (Or.inl ⟨by rfl, ?hy11p⟩) (by assumption) ?rest11p
        case hy11p => (intro W hSw; go_simp; first | done | with_reducible rfl)
        simp only [Act.put, List.getElem_toArray, List.getElem_cons_zero, List.getElem_cons_succ, List.setIfInBounds_toArray, List.set_cons_zero, List.set_cons_succ]
        refine wpAnyH_take (i := 12) (v := ?v12p) rfl (by kernel_rfl) (by kernel_rfl) (by kernel_rfl) (fun _ _ _ h => h) (Or.inl ⟨by rfl, ?hy12p⟩) (by assumption) ?rest12p
        case hy12p => (intro W hSw; go_simp; first | done | with_reducible rfl)
        simp only [Act.put, List.getElem_toArray, List.getElem_cons_zero, List.getElem_cons_succ, List.setIfInBounds_toArray, List.set_cons_zero, List.set_cons_succ]
        refine wpAnyH_take (i := 13) (v := ?v13p) rfl (by kernel_rfl) (by kernel_rfl) (by kernel_rfl) (fun _ _ _ h => h) (Or.inl ⟨by rfl, ?hy13p⟩) (by assumption) ?rest13p
        case hy13p => (intro W hSw; go_simp; first | done | with_reducible rfl)
        simp only [Act.put, List.getElem_toArray, List.getElem_cons_zero, List.getElem_cons_succ, List.setIfInBounds_toArray, List.set_cons_zero, List.set_cons_succ]
        refine wpAnyH_take (i := 14) (v := ?v14p) rfl (by kernel_rfl) (by kernel_rfl) (by kernel_rfl) (fun _ _ _ h => h) (Or.inl ⟨by rfl, ?hy14p⟩) (by assumption) ?rest14p
        case hy14p => (intro W hSw; go_simp; first | done | with_reducible rfl)
        simp only [Act.put, List.getElem_toArray, List.getElem_cons_zero, List.getElem_cons_succ, List.setIfInBounds_toArray, List.set_cons_zero, List.set_cons_succ]
        refine wpAnyH_ready (rs := [15]) (by kernel_rfl) (by simp) ?_
        refine AllReadyH.cons (o := _) rfl (fun K hK => ?_) AllReadyH.nil
        simp only [List.getElem_toArray, List.getElem_cons_zero, List.getElem_cons_succ]
        go_simp
        refine hK.out _ _ ((hS2).alloc _) (fun hS9 => ?_)
        clear hK K
        try simp only [Act.put, List.setIfInBounds_toArray, List.set_cons_zero, List.set_cons_succ]
        have KR11 := Lib.hid (heap_alloc_new wc3 (.cells #[.int .i64 0, .int .u32 0, .int .u32 0, .int .u32 0, .int .u16 0, .int .u16 0] 52))
        have HRF12 : Hid (RefF (wc3.alloc (.cells #[.int .i64 0, .int .u32 0, .int .u32 0, .int .u32 0, .int .u16 0, .int .u16 0] 52)) B (.agg C4) m' (fun k => (fun k => F k ∨ (w.heap.size ≤ k ∧ k < w.heap.size + 4)) k ∨ k = wc3.heap.size)) := Lib.hid ((HRF5.out.new (Nat.le_refl _)).alloc _)
        have KM13 : Hid ((wc3.alloc (.cells #[.int .i64 0, .int .u32 0, .int .u32 0, .int .u32 0, .int .u16 0, .int .u16 0] 52)).heap[w.heap.size + 1]? = some (.cells rc 65 (0, 0))) := Lib.hid (keepB KM7.out ((Below.refl _ _).alloc (Nat.le_refl _) _))
        have HSZ14 : Hid (wc3.heap.size < (wc3.alloc (.cells #[.int .i64 0, .int .u32 0, .int .u32 0, .int .u32 0, .int .u16 0, .int .u16 0] 52)).heap.size ∧ w1.heap.size ≤ wc3.heap.size ∧ w.heap.size + 4 ≤ wc3.heap.size) := Lib.hid (by have h1 := (hS2).size; have h2 := HSZ.out; refine ⟨by simp, h1, by omega⟩)
        generalize wc3.alloc (.cells #[.int .i64 0, .int .u32 0, .int .u32 0, .int .u32 0, .int .u16 0, .int .u16 0] 52) = wa10 at KR11 HRF12 KM13 HSZ14 hS9 ⊢
        generalize wc3.heap.size = bR15 at KR11 HRF12 HSZ14 ⊢
        refine wpAnyH_ready (rs := [16]) (by kernel_rfl) (by simp) ?_
        refine AllReadyH.cons (o := _) rfl (fun K hK => ?_) (AllReadyH.nil)
        simp only [List.getElem_toArray, List.getElem_cons_zero, List.getElem_cons_succ]
        rw [if_pos (by rfl)]
        refine wp_store_row 52 _ _ rfl bR15 (s.p.a.rg.gave : Rg).c rfl rfl 52 #[.int .i64 0, .int .u32 0, .int .u32 0, .int .u32 0, .int .u16 0, .int .u16 0] KR11.out (ring13_size _) rfl (Rg.c_one _) ?_
        refine hK.out _ _ ((hS9).setRow (.inr HSZ14.out.2.1) _) (fun hS16 => ?_)
        clear hK K
        try simp only [Act.put]
        have KA18 : Hid ((wa10.setRow bR15 (s.p.a.rg.gave : Rg).c).heap[bR15]? = some (.cells (s.p.a.rg.gave : Rg).c 52 (0, 0))) := Lib.hid (setRow_heap _ _ _ _ _ _ KR11.out)
        have KM19 : Hid ((wa10.setRow bR15 (s.p.a.rg.gave : Rg).c).heap[w.heap.size + 1]? = some (.cells rc 65 (0, 0))) := Lib.hid ((heap_row_other (by have := HSZ14.out; omega)).trans KM13.out)
        have HRF20 := Lib.hid (HRF12.out.kx ((KX.refl (fun k => k = bR15) wa10).setRow (.inl rfl) (s.p.a.rg.gave : Rg).c) (fun k e => .inl (.inr e)))
        generalize wa10.setRow bR15 (s.p.a.rg.gave : Rg).c = wd17 at KA18 KM19 HRF20 hS16 ⊢
        refine wpAnyH_ready (rs := [17]) (by kernel_rfl) (by simp) ?_
        refine AllReadyH.cons (o := _) rfl (fun K hK => ?_) (AllReadyH.nil)
        simp only [List.getElem_toArray, List.getElem_cons_zero, List.getElem_cons_succ]
        rw [if_pos (by rfl)]
        refine wp_store_row 65 _ _ rfl (w.heap.size + 1) C4 rfl rfl 65 rc KM19.out (ram06_size HZ6.out.1) (by rw [HZ6.out.1]; exact HRC.out) HZ6.out.2 ?_
        refine hK.out _ _ (hS16.setRow (.inl rfl) _) (fun hS21 => ?_)
        clear hK K
        try simp only [Act.put]
        have KA23 : Hid ((wd17.setRow (w.heap.size + 1) C4).heap[bR15]? = some (.cells (s.p.a.rg.gave : Rg).c 52 (0, 0))) := Lib.hid ((heap_row_other (by have := HSZ14.out; omega)).trans KA18.out)
        have KM24 : Hid ((wd17.setRow (w.heap.size + 1) C4).heap[w.heap.size + 1]? = some (.cells C4 65 (0, 0))) := Lib.hid (setRow_heap _ _ _ _ _ _ KM19.out)
        have HRF25 := Lib.hid (HRF20.out.kx ((KX.refl (fun k => k = w.heap.size + 1) wd17).setRow (.inl rfl) C4) (fun k e => .inl (.inl (.inr (by omega)))))
        generalize wd17.setRow (w.heap.size + 1) C4 = we22 at KA23 KM24 HRF25 hS21 ⊢
        refine wpAnyH_take (i := 18) (v := ?v18p) rfl (by kernel_rfl) (by kernel_rfl) (by kernel_rfl) (fun _ _ _ h => h) (Or.inl ⟨by rfl, ?hy18p⟩) (by assumption) ?rest18p
        case hy18p => (intro W hSw; go_simp; first | done | with_reducible rfl)
        simp only [Act.put, List.getElem_toArray, List.getElem_cons_zero, List.getElem_cons_succ, List.setIfInBounds_toArray, List.set_cons_zero, List.set_cons_succ]
        refine wpAnyH_done (by kernel_rfl) ?_ _
        go_wp2_with fail
        go_meet
        case rel => exact ⟨bR15, C4, rfl, rfl, HSZ14.out.2.1, KA23.out, KM24.out, HZ6.out.1, HZ6.out.2, HRF25.out.weak (fun k hk => .inl hk), hS21⟩
      · simp only [List.getElem_toArray, List.getElem_cons_zero, List.getElem_cons_succ]
        go_simp
        refine hK.out _ _ ((hS1).alloc _) (fun hS26 => ?_)
        clear hK K
        try simp only [Act.put, List.setIfInBounds_toArray, List.set_cons_zero, List.set_cons_succ]
        have KR28 := Lib.hid (heap_alloc_new w2 (.cells #[.int .i64 0, .int .u32 0, .int .u32 0, .int .u32 0, .int .u16 0, .int .u16 0] 52))
        have HRF29 : Hid (RefF (w2.alloc (.cells #[.int .i64 0, .int .u32 0, .int .u32 0, .int .u32 0, .int .u16 0, .int .u16 0] 52)) B (.agg rc) m (fun k => (fun k => F k ∨ (w.heap.size ≤ k ∧ k < w.heap.size + 4)) k ∨ k = w2.heap.size)) := Lib.hid ((HRF2.out.new (Nat.le_refl _)).alloc _)
        have KM30 : Hid ((w2.alloc (.cells #[.int .i64 0, .int .u32 0, .int .u32 0, .int .u32 0, .int .u16 0, .int .u16 0] 52)).heap[w.heap.size + 1]? = some (.cells rc 65 (0, 0))) := Lib.hid (keepB KM.out ((Below.refl _ _).alloc (Nat.le_refl _) _))
        have HSZ31 : Hid (w2.heap.size < (w2.alloc (.cells #[.int .i64 0, .int .u32 0, .int .u32 0, .int .u32 0, .int .u16 0, .int .u16 0] 52)).heap.size ∧ w1.heap.size ≤ w2.heap.size ∧ w.heap.size + 4 ≤ w2.heap.size) := Lib.hid (by have h1 := (hS1).size; have h2 := HSZ.out; refine ⟨by simp, h1, by omega⟩)
        generalize w2.alloc (.cells #[.int .i64 0, .int .u32 0, .int .u32 0, .int .u32 0, .int .u16 0, .int .u16 0] 52) = wa27 at KR28 HRF29 KM30 HSZ31 hS26 ⊢
        generalize w2.heap.size = bR32 at KR28 HRF29 HSZ31 ⊢
        refine wpAnyH_ready (rs := [10]) (by kernel_rfl) (by simp) ?_
        refine AllReadyH.cons (o := _) rfl (fun K hK => ?_) AllReadyH.nil
        simp only [List.getElem_toArray, List.getElem_cons_zero, List.getElem_cons_succ]
        go_simp
        have hlt : ∀ k, (fun k => (fun k => F k ∨ (w.heap.size ≤ k ∧ k < w.heap.size + 4)) k ∨ k = bR32) k → k < wa27.heap.size := fun k hk => by
          have h1 := (hS26).size
          have h2 := HSZ.out
          have h3 := HSZ31.out.1
          rcases hk with (hk | hk) | hk
          · have := HRF.out.2.1 k hk; omega
          · omega
          · omega
        refine (HG.out _ _ HRF29.out hlt (by have h1 := (hS26).size; have h2 := HSZ.out; have h3 := HRF.out.2.2; omega)).mono ?_
        rintro e wc34 ⟨v', rfl, hR, hb⟩
        refine hK.out _ _ ((hS26).trans (KX.of_below (X := (fun k => k = w.heap.size + 1)) hb) (fun _ _ h => h)) (fun hS33 => ?_)
        clear hK K hlt
        try simp only [Act.put, List.setIfInBounds_toArray, List.set_cons_zero, List.set_cons_succ]
        obtain ⟨C35, rfl, hvs, hvo⟩ := hR.form
        have HRF36 := Lib.hid hR
        have HZ37 := Lib.hid (And.intro hvs hvo)
        have KM38 := Lib.hid (keepB KM30.out hb)
        have KR40 := Lib.hid (keepB KR28.out hb)
        clear hR hb hvs hvo
        refine wpAnyH_take (i := 11) (v := ?v11q) rfl (by kernel_rfl) (by kernel_rfl) (by kernel_rfl) (fun _ _ _ h => h) (Or.inl ⟨by rfl, ?hy11q⟩) (by assumption) ?rest11q
        case hy11q => (intro W hSw; go_simp; first | done | with_reducible rfl)
        simp only [Act.put, List.getElem_toArray, List.getElem_cons_zero, List.getElem_cons_succ, List.setIfInBounds_toArray, List.set_cons_zero, List.set_cons_succ]
        refine wpAnyH_take (i := 12) (v := ?v12q) rfl (by kernel_rfl) (by kernel_rfl) (by kernel_rfl) (fun _ _ _ h => h) (Or.inl ⟨by rfl, ?hy12q⟩) (by assumption) ?rest12q
        case hy12q => (intro W hSw; go_simp; first | done | with_reducible rfl)
        simp only [Act.put, List.getElem_toArray, List.getElem_cons_zero, List.getElem_cons_succ, List.setIfInBounds_toArray, List.set_cons_zero, List.set_cons_succ]
        refine wpAnyH_take (i := 13) (v := ?v13q) rfl (by kernel_rfl) (by kernel_rfl) (by kernel_rfl) (fun _ _ _ h => h) (Or.inl ⟨by rfl, ?hy13q⟩) (by assumption) ?rest13q
        case hy13q => (intro W hSw; go_simp; first | done | with_reducible rfl)
        simp only [Act.put, List.getElem_toArray, List.getElem_cons_zero, List.getElem_cons_succ, List.setIfInBounds_toArray, List.set_cons_zero, List.set_cons_succ]
        refine wpAnyH_take (i := 14) (v := ?v14q) rfl (by kernel_rfl) (by kernel_rfl) (by kernel_rfl) (fun _ _ _ h => h) (Or.inl ⟨by rfl, ?hy14q⟩) (by assumption) ?rest14q
        case hy14q => (intro W hSw; go_simp; first | done | with_reducible rfl)
        simp only [Act.put, List.getElem_toArray, List.getElem_cons_zero, List.getElem_cons_succ, List.setIfInBounds_toArray, List.set_cons_zero, List.set_cons_succ]
        refine wpAnyH_ready (rs := [16]) (by kernel_rfl) (by simp) ?_
        refine AllReadyH.cons (o := _) rfl (fun K hK => ?_) (AllReadyH.nil)
        simp only [List.getElem_toArray, List.getElem_cons_zero, List.getElem_cons_succ]
        rw [if_pos (by rfl)]
        refine wp_store_row 52 _ _ rfl bR32 (s.p.a.rg.gave : Rg).c rfl rfl 52 #[.int .i64 0, .int .u32 0, .int .u32 0, .int .u32 0, .int .u16 0, .int .u16 0] KR40.out (ring13_size _) rfl (Rg.c_one _) ?_
        refine hK.out _ _ ((hS33).setRow (.inr HSZ31.out.2.1) _) (fun hS41 => ?_)
        clear hK K
        try simp only [Act.put]
        have KA43 : Hid ((wc34.setRow bR32 (s.p.a.rg.gave : Rg).c).heap[bR32]? = some (.cells (s.p.a.rg.gave : Rg).c 52 (0, 0))) := Lib.hid (setRow_heap _ _ _ _ _ _ KR40.out)
        have KM44 : Hid ((wc34.setRow bR32 (s.p.a.rg.gave : Rg).c).heap[w.heap.size + 1]? = some (.cells rc 65 (0, 0))) := Lib.hid ((heap_row_other (by have := HSZ31.out; omega)).trans KM38.out)
        have HRF45 := Lib.hid (HRF36.out.kx ((KX.refl (fun k => k = bR32) wc34).setRow (.inl rfl) (s.p.a.rg.gave : Rg).c) (fun k e => .inl (.inr e)))
        generalize wc34.setRow bR32 (s.p.a.rg.gave : Rg).c = wd42 at KA43 KM44 HRF45 hS41 ⊢
        refine wpAnyH_ready (rs := [17]) (by kernel_rfl) (by simp) ?_
        refine AllReadyH.cons (o := _) rfl (fun K hK => ?_) (AllReadyH.nil)
        simp only [List.getElem_toArray, List.getElem_cons_zero, List.getElem_cons_succ]
        rw [if_pos (by rfl)]
        refine wp_store_row 65 _ _ rfl (w.heap.size + 1) C35 rfl rfl 65 rc KM44.out (ram06_size HZ37.out.1) (by rw [HZ37.out.1]; exact HRC.out) HZ37.out.2 ?_
        refine hK.out _ _ (hS41.setRow (.inl rfl) _) (fun hS46 => ?_)
        clear hK K
        try simp only [Act.put]
        have KA48 : Hid ((wd42.setRow (w.heap.size + 1) C35).heap[bR32]? = some (.cells (s.p.a.rg.gave : Rg).c 52 (0, 0))) := Lib.hid ((heap_row_other (by have := HSZ31.out; omega)).trans KA43.out)
        have KM49 : Hid ((wd42.setRow (w.heap.size + 1) C35).heap[w.heap.size + 1]? = some (.cells C35 65 (0, 0))) := Lib.hid (setRow_heap _ _ _ _ _ _ KM44.out)
        have HRF50 := Lib.hid (HRF45.out.kx ((KX.refl (fun k => k = w.heap.size + 1) wd42).setRow (.inl rfl) C35) (fun k e => .inl (.inl (.inr (by omega)))))
        generalize wd42.setRow (w.heap.size + 1) C35 = we47 at KA48 KM49 HRF50 hS46 ⊢
        refine wpAnyH_take (i := 18) (v := ?v18q) rfl (by kernel_rfl) (by kernel_rfl) (by kernel_rfl) (fun _ _ _ h => h) (Or.inl ⟨by rfl, ?hy18q⟩) (by assumption) ?rest18q
        case hy18q => (intro W hSw; go_simp; first | done | with_reducible rfl)
        simp only [Act.put, List.getElem_toArray, List.getElem_cons_zero, List.getElem_cons_succ, List.setIfInBounds_toArray, List.set_cons_zero, List.set_cons_succ]
        refine wpAnyH_done (by kernel_rfl) ?_ _
        go_wp2_with fail
        go_meet
        case rel => exact ⟨bR32, C35, rfl, rfl, HSZ31.out.2.1, KA48.out, KM49.out, HZ37.out.1, HZ37.out.2, HRF50.out.weak (fun k hk => .inl hk), hS46⟩
    · simp only [List.getElem_toArray, List.getElem_cons_zero, List.getElem_cons_succ]
      go_simp
      refine hK.out _ _ ((hHeld).alloc _) (fun hS51 => ?_)
      clear hK K
      try simp only [Act.put, List.setIfInBounds_toArray, List.set_cons_zero, List.set_cons_succ]
      have KR53 := Lib.hid (heap_alloc_new w2 (.cells #[.int .i64 0, .int .u32 0, .int .u32 0, .int .u32 0, .int .u16 0, .int .u16 0] 52))
      have HRF54 : Hid (RefF (w2.alloc (.cells #[.int .i64 0, .int .u32 0, .int .u32 0, .int .u32 0, .int .u16 0, .int .u16 0] 52)) B (.agg rc) m (fun k => (fun k => F k ∨ (w.heap.size ≤ k ∧ k < w.heap.size + 4)) k ∨ k = w2.heap.size)) := Lib.hid ((HRF2.out.new (Nat.le_refl _)).alloc _)
      have KM55 : Hid ((w2.alloc (.cells #[.int .i64 0, .int .u32 0, .int .u32 0, .int .u32 0, .int .u16 0, .int .u16 0] 52)).heap[w.heap.size + 1]? = some (.cells rc 65 (0, 0))) := Lib.hid (keepB KM.out ((Below.refl _ _).alloc (Nat.le_refl _) _))
      have HSZ56 : Hid (w2.heap.size < (w2.alloc (.cells #[.int .i64 0, .int .u32 0, .int .u32 0, .int .u32 0, .int .u16 0, .int .u16 0] 52)).heap.size ∧ w1.heap.size ≤ w2.heap.size ∧ w.heap.size + 4 ≤ w2.heap.size) := Lib.hid (by have h1 := (hHeld).size; have h2 := HSZ.out; refine ⟨by simp, h1, by omega⟩)
      generalize w2.alloc (.cells #[.int .i64 0, .int .u32 0, .int .u32 0, .int .u32 0, .int .u16 0, .int .u16 0] 52) = wa52 at KR53 HRF54 KM55 HSZ56 hS51 ⊢
      generalize w2.heap.size = bR57 at KR53 HRF54 HSZ56 ⊢
      refine wpAnyH_ready (rs := [6]) (by kernel_rfl) (by simp) ?_
      refine AllReadyH.cons (o := _) rfl (fun K hK => ?_) AllReadyH.nil
      simp only [List.getElem_toArray, List.getElem_cons_zero, List.getElem_cons_succ]
      rw [if_pos (by rfl)]
      refine wp_load_row 65 _ rfl (w.heap.size + 1) rfl 65 rc (0, 0) _ KM55.out Tryd.underlying65 rfl HI.out ?_
      refine hK.out _ _ hS51 (fun hS58 => ?_)
      clear hK K
      try simp only [Act.put, List.setIfInBounds_toArray, List.set_cons_zero, List.set_cons_succ]
      refine wpAnyH_ready (rs := [10]) (by kernel_rfl) (by simp) ?_
      refine AllReadyH.cons (o := _) rfl (fun K hK => ?_) AllReadyH.nil
      simp only [List.getElem_toArray, List.getElem_cons_zero, List.getElem_cons_succ]
      go_simp
      have hlt : ∀ k, (fun k => (fun k => F k ∨ (w.heap.size ≤ k ∧ k < w.heap.size + 4)) k ∨ k = bR57) k → k < wa52.heap.size := fun k hk => by
        have h1 := (hS58).size
        have h2 := HSZ.out
        have h3 := HSZ56.out.1
        rcases hk with (hk | hk) | hk
        · have := HRF.out.2.1 k hk; omega
        · omega
        · omega
      refine (HG.out _ _ HRF54.out hlt (by have h1 := (hS58).size; have h2 := HSZ.out; have h3 := HRF.out.2.2; omega)).mono ?_
      rintro e wc60 ⟨v', rfl, hR, hb⟩
      refine hK.out _ _ ((hS58).trans (KX.of_below (X := (fun k => k = w.heap.size + 1)) hb) (fun _ _ h => h)) (fun hS59 => ?_)
      clear hK K hlt
      try simp only [Act.put, List.setIfInBounds_toArray, List.set_cons_zero, List.set_cons_succ]
      obtain ⟨C61, rfl, hvs, hvo⟩ := hR.form
      have HRF62 := Lib.hid hR
      have HZ63 := Lib.hid (And.intro hvs hvo)
      have KM64 := Lib.hid (keepB KM55.out hb)
      have KR66 := Lib.hid (keepB KR53.out hb)
      clear hR hb hvs hvo
      refine wpAnyH_take (i := 11) (v := ?v11r) rfl (by kernel_rfl) (by kernel_rfl) (by kernel_rfl) (fun _ _ _ h => h) (Or.inl ⟨by rfl, ?hy11r⟩) (by assumption) ?rest11r
      case hy11r => (intro W hSw; go_simp; first | done | with_reducible rfl)
      simp only [Act.put, List.getElem_toArray, List.getElem_cons_zero, List.getElem_cons_succ, List.setIfInBounds_toArray, List.set_cons_zero, List.set_cons_succ]
      refine wpAnyH_take (i := 12) (v := ?v12r) rfl (by kernel_rfl) (by kernel_rfl) (by kernel_rfl) (fun _ _ _ h => h) (Or.inl ⟨by rfl, ?hy12r⟩) (by assumption) ?rest12r
      case hy12r => (intro W hSw; go_simp; first | done | with_reducible rfl)
      simp only [Act.put, List.getElem_toArray, List.getElem_cons_zero, List.getElem_cons_succ, List.setIfInBounds_toArray, List.set_cons_zero, List.set_cons_succ]
      refine wpAnyH_take (i := 13) (v := ?v13r) rfl (by kernel_rfl) (by kernel_rfl) (by kernel_rfl) (fun _ _ _ h => h) (Or.inl ⟨by rfl, ?hy13r⟩) (by assumption) ?rest13r
      case hy13r => (intro W hSw; go_simp; first | done | with_reducible rfl)
      simp only [Act.put, List.getElem_toArray, List.getElem_cons_zero, List.getElem_cons_succ, List.setIfInBounds_toArray, List.set_cons_zero, List.set_cons_succ]
      refine wpAnyH_take (i := 14) (v := ?v14r) rfl (by kernel_rfl) (by kernel_rfl) (by kernel_rfl) (fun _ _ _ h => h) (Or.inl ⟨by rfl, ?hy14r⟩) (by assumption) ?rest14r
      case hy14r => (intro W hSw; go_simp; first | done | with_reducible rfl)
      simp only [Act.put, List.getElem_toArray, List.getElem_cons_zero, List.getElem_cons_succ, List.setIfInBounds_toArray, List.set_cons_zero, List.set_cons_succ]
      refine wpAnyH_ready (rs := [16]) (by kernel_rfl) (by simp) ?_
      refine AllReadyH.cons (o := _) rfl (fun K hK => ?_) (AllReadyH.nil)
      simp only [List.getElem_toArray, List.getElem_cons_zero, List.getElem_cons_succ]
      rw [if_pos (by rfl)]
      refine wp_store_row 52 _ _ rfl bR57 (s.p.a.rg.gave : Rg).c rfl rfl 52 #[.int .i64 0, .int .u32 0, .int .u32 0, .int .u32 0, .int .u16 0, .int .u16 0] KR66.out (ring13_size _) rfl (Rg.c_one _) ?_
      refine hK.out _ _ ((hS59).setRow (.inr HSZ56.out.2.1) _) (fun hS67 => ?_)
      clear hK K
      try simp only [Act.put]
      have KA69 : Hid ((wc60.setRow bR57 (s.p.a.rg.gave : Rg).c).heap[bR57]? = some (.cells (s.p.a.rg.gave : Rg).c 52 (0, 0))) := Lib.hid (setRow_heap _ _ _ _ _ _ KR66.out)
      have KM70 : Hid ((wc60.setRow bR57 (s.p.a.rg.gave : Rg).c).heap[w.heap.size + 1]? = some (.cells rc 65 (0, 0))) := Lib.hid ((heap_row_other (by have := HSZ56.out; omega)).trans KM64.out)
      have HRF71 := Lib.hid (HRF62.out.kx ((KX.refl (fun k => k = bR57) wc60).setRow (.inl rfl) (s.p.a.rg.gave : Rg).c) (fun k e => .inl (.inr e)))
      generalize wc60.setRow bR57 (s.p.a.rg.gave : Rg).c = wd68 at KA69 KM70 HRF71 hS67 ⊢
      refine wpAnyH_ready (rs := [17]) (by kernel_rfl) (by simp) ?_
      refine AllReadyH.cons (o := _) rfl (fun K hK => ?_) (AllReadyH.nil)
      simp only [List.getElem_toArray, List.getElem_cons_zero, List.getElem_cons_succ]
      rw [if_pos (by rfl)]
      refine wp_store_row 65 _ _ rfl (w.heap.size + 1) C61 rfl rfl 65 rc KM70.out (ram06_size HZ63.out.1) (by rw [HZ63.out.1]; exact HRC.out) HZ63.out.2 ?_
      refine hK.out _ _ (hS67.setRow (.inl rfl) _) (fun hS72 => ?_)
      clear hK K
      try simp only [Act.put]
      have KA74 : Hid ((wd68.setRow (w.heap.size + 1) C61).heap[bR57]? = some (.cells (s.p.a.rg.gave : Rg).c 52 (0, 0))) := Lib.hid ((heap_row_other (by have := HSZ56.out; omega)).trans KA69.out)
      have KM75 : Hid ((wd68.setRow (w.heap.size + 1) C61).heap[w.heap.size + 1]? = some (.cells C61 65 (0, 0))) := Lib.hid (setRow_heap _ _ _ _ _ _ KM70.out)
      have HRF76 := Lib.hid (HRF71.out.kx ((KX.refl (fun k => k = w.heap.size + 1) wd68).setRow (.inl rfl) C61) (fun k e => .inl (.inl (.inr (by omega)))))
      generalize wd68.setRow (w.heap.size + 1) C61 = we73 at KA74 KM75 HRF76 hS72 ⊢
      refine wpAnyH_take (i := 18) (v := ?v18r) rfl (by kernel_rfl) (by kernel_rfl) (by kernel_rfl) (fun _ _ _ h => h) (Or.inl ⟨by rfl, ?hy18r⟩) (by assumption) ?rest18r
      case hy18r => (intro W hSw; go_simp; first | done | with_reducible rfl)
      simp only [Act.put, List.getElem_toArray, List.getElem_cons_zero, List.getElem_cons_succ, List.setIfInBounds_toArray, List.set_cons_zero, List.set_cons_succ]
      refine wpAnyH_done (by kernel_rfl) ?_ _
      go_wp2_with fail
      go_meet
      case rel => exact ⟨bR57, C61, rfl, rfl, HSZ56.out.2.1, KA74.out, KM75.out, HZ63.out.1, HZ63.out.2, HRF76.out.weak (fun k hk => .inl hk), hS72⟩
  obtain ⟨bR, C1, rfl, rfl, hbR, kR, kM, hc1, ho1, hr1, hx⟩ := hcut
  have K1 := Lib.hid (hx.heap K0a.out (by omega))
  clear K0a
  have K2 := Lib.hid (hx.heap K2a.out (by omega))
  clear K2a
  have K3 := Lib.hid (hx.heap K3a.out (by omega))
  clear K3a
  have K4 := Lib.hid kM
  clear K1a
  have HB5 := Lib.hid (HB0a.out.trans (hx.below (B := w.heap.size) (fun k hk e => by omega) HB0a.out.size))
  clear HB0a
  have HC1 := Lib.hid (ram06_size hc1)
  have HC1o := Lib.hid (And.intro hc1 ho1)
  have HRR := Lib.hid hr1
  have KRR := Lib.hid kR
  have HBR := Lib.hid (show w.heap.size + 4 ≤ bR by have := HSZ.out; omega)
  clear hx kR kM hc1 ho1 hr1 hbR HSZ
  have hbr4 := HBR.out
  go_wp2_with (first | go_skip | (refine wpList_load_row rfl 52 _ rfl bR rfl 52 (s.p.a.rg.gave : Rg).c (0, 0) _ KRR.out Tryd.underlying52 rfl (ring13_size _) ?_) | (refine wpList_store_mid_to rfl 52 _ _ rfl (w.heap.size) 8 (s.p.a.rg.gave : Rg).c rfl rfl 59 s.c K1.out (by show 8 + 6 ≤ 23; omega) (ring13_size _) (Rg.c_one _) ?_))
  intro wm hx hkk
  rw [put_ra] at hkk
  have HE6 := Lib.hid (HRR.out.kx hx.out (fun k e => .inl (.inr (by omega))))
  clear HRR
  have HE7 := Lib.hid (hx.out.heap KRR.out (by omega))
  clear KRR
  have K8 := Lib.hid (hx.out.heap K4.out (by omega))
  clear K4
  have K9 := Lib.hid (hx.out.heap K2.out (by omega))
  clear K2
  have K10 := Lib.hid (hx.out.heap K3.out (by omega))
  clear K3
  have K11 := Lib.hid hkk
  clear hkk K1
  have HB12 := Lib.hid (HB5.out.trans (hx.out.below (B := w.heap.size) (fun k hk e => by omega) HB5.out.size))
  clear HB5 hx
  clear HE7
  have HRP := Lib.hid (NS.range_p K11.out)
  go_wp2_with (first | go_skip | (refine load_midW rfl 57 _ rfl (w.heap.size) 0 rfl (s.setR false s.p.a.rg.gave).p.c.toList _ HRP.out Tryd.underlying57 rfl (vio14_sizeL _) ?_))
  refine (HU.out _).mono ?_
  rintro e wu ⟨rfl, hb⟩
  have HE13 := Lib.hid (HE6.out.below hb)
  clear HE6
  have K14 := Lib.hid (keepB K11.out hb)
  clear K11
  have K15 := Lib.hid (keepB K8.out hb)
  clear K8
  have K16 := Lib.hid (keepB K9.out hb)
  clear K9
  have K17 := Lib.hid (keepB K10.out hb)
  clear K10
  have HB18 := Lib.hid (HB12.out.trans (hb.mono HB12.out.size))
  clear HB12
  clear hb HRP HU
  go_wp2_with (first | go_skip | (refine wpList_store_mid_to rfl 57 _ _ rfl (w.heap.size) 0 (s.setR false s.p.a.rg.gave).p.used.c rfl rfl 59 (s.setR false s.p.a.rg.gave).c K14.out (by show 0 + 21 ≤ 23; omega) (vio14_size _) (VS.c_one _) ?_))
  intro wv hx hkk
  rw [put_p] at hkk
  have HE19 := Lib.hid (HE13.out.kx hx.out (fun k e => .inl (.inr (by omega))))
  clear HE13
  have K20 := Lib.hid (hx.out.heap K15.out (by omega))
  clear K15
  have K21 := Lib.hid (hx.out.heap K16.out (by omega))
  clear K16
  have K22 := Lib.hid (hx.out.heap K17.out (by omega))
  clear K17
  have K23 := Lib.hid hkk
  clear hkk K14
  have HB24 := Lib.hid (HB18.out.trans (hx.out.below (B := w.heap.size) (fun k hk e => by omega) HB18.out.size))
  clear HB18 hx
  go_upto_region 7 with fail
  have HO25 := Lib.hid (show (({ (s.setR false s.p.a.rg.gave) with p := (s.setR false s.p.a.rg.gave).p.used } : NS).c : Array Value).all (·.oneCell') = true from (NS.c_one _))
  have HO26 := Lib.hid (show (C1 : Array Value).all (·.oneCell') = true from HC1o.out.2)
  refine wp_region_held_drew (S := KX (fun k => k = w.heap.size + 1 + 1 ∨ k = w.heap.size + 1 + 1 + 1) wv) (by kernel_rfl) ((KX.refl (fun k => k = w.heap.size + 1 + 1 ∨ k = w.heap.size + 1 + 1 + 1) wv).drew) (fun hHeld => ?_)
  refine wpAnyH_take (i := 0) rfl (by kernel_rfl) (by kernel_rfl) (by kernel_rfl) (fun _ _ _ h => h) (yieldsIf_load_mid (by rfl) 59 _ rfl (w.heap.size) 0 rfl (({ (s.setR false s.p.a.rg.gave) with p := (s.setR false s.p.a.rg.gave).p.used } : NS).c).toList _ (fun W hSw => range_of_all (hSw.heap K23.out (by omega))) Tryd.underlying59 rfl ?hi0t) (by assumption) ?rest0t
  case hi0t => exact (nic16_size _)
  simp only [Act.put, List.getElem_toArray, List.getElem_cons_zero, List.setIfInBounds_toArray, List.set_cons_zero, List.set_cons_succ]
  refine wpAnyH_take (i := 1) rfl (by kernel_rfl) (by kernel_rfl) (by kernel_rfl) (fun _ _ _ h => h) (yieldsIf_load_mid (by rfl) 65 _ rfl (w.heap.size + 1) 0 rfl (C1).toList _ (fun W hSw => range_of_all (hSw.heap K20.out (by omega))) Tryd.underlying65 rfl ?hi1t) (by assumption) ?rest1t
  case hi1t => exact HC1.out
  simp only [Act.put, List.getElem_toArray, List.getElem_cons_zero, List.getElem_cons_succ, List.setIfInBounds_toArray, List.set_cons_zero, List.set_cons_succ]
  refine wpAnyH_two_stores (i := 2) (j := 3) (w.heap.size + 1 + 1) (w.heap.size + 1 + 1 + 1) (({ (s.setR false s.p.a.rg.gave) with p := (s.setR false s.p.a.rg.gave).p.used } : NS).c) (C1) (NS.zero.c) (#[(.slice none 0 0 : Value), .slice none 0 0, .int .i64 0]) 59 65 rfl rfl (by kernel_rfl) (by kernel_rfl) rfl rfl rfl rfl 59 65 _ _ _ _ rfl rfl rfl rfl rfl rfl K21.out K22.out (nic16_size _) HC1.out rfl (by rw [HC1o.out.1]; rfl) HO25.out HO26.out (by omega) hHeld ?_
  intro w27 hx hk1 hk2
  clear hHeld
  try simp only [List.setIfInBounds_toArray, List.set_cons_zero, List.set_cons_succ]
  refine wpAnyH_done (by kernel_rfl) ?_ _
  have HE28 := Lib.hid (HE19.out.kx hx (fun k e => .inl (.inr (by omega))))
  clear HE19
  have K29 := Lib.hid (hx.heap K23.out (by omega))
  clear K23
  have K30 := Lib.hid (hx.heap K20.out (by omega))
  clear K20
  have K31 := Lib.hid hk1
  clear K21 hk1
  have K32 := Lib.hid hk2
  clear K22 hk2
  have HB33 := Lib.hid (HB24.out.trans (hx.below (B := w.heap.size) (fun k hk e => by omega) HB24.out.size))
  clear HB24 hx
  go_wp2_with fail
  exact bodyPost_ret (v := .tuple #[.agg ({ (s.setR false s.p.a.rg.gave) with p := (s.setR false s.p.a.rg.gave).p.used } : NS).c, .agg C1]) (results_2cell Tryd.results52 _ _ (w.heap.size + 1 + 1) (w.heap.size + 1 + 1 + 1) 59 65 ({ (s.setR false s.p.a.rg.gave) with p := (s.setR false s.p.a.rg.gave).p.used } : NS).c C1 (0, 0) (0, 0) _ _ rfl rfl K31.out K32.out Tryd.underlying59 rfl (nic16_size _) Tryd.underlying65 rfl HC1.out) rfl ⟨_, rfl, HE28.out.weak (fun k hk => .inl hk), HB33.out⟩
set_option maxRecDepth 100000 in
set_option maxHeartbeats 8000000 in
theorem ref16_give1_no {B : Nat} {F : Nat → Prop} {m m' : Mm} (s : NS) (hs : s.p.wf) (hd n : Nat) (hn : n < 2147483648) (rc : Array Value) (hrc : rc.size = 3) (hro : rc.all (·.oneCell') = true) (w : World) (h : RefF w B (.agg rc) m F) (hF : ∀ k, F k → k < w.heap.size) (hB : B ≤ w.heap.size)
    (HG : Hid (∀ (W : World) (G : Nat → Prop), RefF W B (.agg rc) m G → (∀ k, G k → k < W.heap.size) → B ≤ W.heap.size → Calls Tryd.prog 89 #[.agg (s.p.b.rg : Rg).c, .agg rc, .int .i64 hd, .int .u32 (IntKind.u32.wrap (n : Int))] W fun e w' => ∃ v', e = .returned (.tuple #[.agg (Rg.zero : Rg).c, v', .int .i64 22]) ∧ RefF w' B v' m' G ∧ Below W.heap.size W w'))
    (HU : Hid (∀ W, Calls Tryd.prog 51 #[.agg s.p.c.toList.toArray] W fun e w' => e = .returned (.agg s.p.fail.c) ∧ Below W.heap.size W w')) :
    Calls Tryd.prog 52 #[.agg s.c, .agg rc, .int .i64 1, .int .i64 hd, .int .i64 n] w fun e w' => ∃ v', e = .returned (.tuple #[.agg ({ s with p := s.p.fail } : NS).c, v']) ∧ RefF w' B v' m' F ∧ Below w.heap.size w w' := by
  have HI := Lib.hid (ram06_size hrc)
  have HWF := Lib.hid hs
  have hrf : RefF w B (.agg rc) m (fun k => F k ∨ (w.heap.size ≤ k ∧ k < w.heap.size + 4)) := by
    obtain ⟨n1, n2, b1, c1, b2, c2, he, g1, g2, g3, g4, r1, r2⟩ := h
    have l1 := r1.lt
    have l2 := r2.lt
    exact ⟨n1, n2, b1, c1, b2, c2, he, g1, g2, fun hj => hj.elim g3 (by omega), fun hj => hj.elim g4 (by omega), r1, r2⟩
  have HRF := Lib.hid (And.intro hrf (And.intro hF hB))
  have hn0 : (0 : Int) ≤ (n : Int) := by omega
  have hnm : (n : Int) % 4294967296 = (n : Int) := by omega
  have HRC := Lib.hid hrc
  clear hs hn hrc hro h hF hB hrf
  obtain ⟨k0, k1, k2, k3, hb0⟩ := new4 w (.cells s.c 59) (.cells rc 65) (.cells NS.zero.c 59) (.cells #[(.slice none 0 0 : Value), .slice none 0 0, .int .i64 0] 65)
  have K0a := Lib.hid k0
  have K1a := Lib.hid k1
  have K2a := Lib.hid k2
  have K3a := Lib.hid k3
  have HB0a := Lib.hid hb0
  clear k0 k1 k2 k3 hb0
  have HSZ := Lib.hid (show ((((w.alloc (.cells s.c 59)).alloc (.cells rc 65)).alloc (.cells NS.zero.c 59)).alloc (.cells #[(.slice none 0 0 : Value), .slice none 0 0, .int .i64 0] 65)).heap.size = w.heap.size + 4 by simp)
  go_enter Tryd.func52, Tryd.ntmps52
  go_upto_region 1 with fail
  change Code.wp _ _ _ _ ((((w.alloc (.cells s.c 59)).alloc (.cells rc 65)).alloc (.cells NS.zero.c 59)).alloc (.cells #[(.slice none 0 0 : Value), .slice none 0 0, .int .i64 0] 65))
  generalize ((((w.alloc (.cells s.c 59)).alloc (.cells rc 65)).alloc (.cells NS.zero.c 59)).alloc (.cells #[(.slice none 0 0 : Value), .slice none 0 0, .int .i64 0] 65)) = w1 at K0a K1a K2a K3a HB0a HSZ ⊢
  go_cut [12, 13] from 14 to 28 (fun x y W => ∃ (bR : Nat) (C1 : Array Value), x = .pointer (some ⟨bR, 0, none⟩) ∧ y = .int .i64 22 ∧ w1.heap.size ≤ bR ∧ W.heap[bR]? = some (.cells (Rg.zero : Rg).c 52 (0, 0)) ∧ W.heap[w.heap.size + 1]? = some (.cells C1 65 (0, 0)) ∧ C1.size = 3 ∧ C1.all (·.oneCell') = true ∧ RefF W B (.agg C1) m' (fun k => F k ∨ (w.heap.size ≤ k ∧ k < w.heap.size + 4)) ∧ KX (fun k => k = w.heap.size + 1) w1 W)
  case first =>
    have HRF1 := Lib.hid (HRF.out.1.below HB0a.out)
    have HKX1 := Lib.hid ((KX.refl (fun k => k = w.heap.size + 1) w1).drew)
    have HSZ1 := Lib.hid (show w1.drew.heap.size = w.heap.size + 4 from HSZ.out)
    have HRF2 : Hid (RefF w1.drew B (.agg rc) m (fun k => F k ∨ (w.heap.size ≤ k ∧ k < w.heap.size + 4))) := Lib.hid (HRF1.out.below (Below.refl _ _).drew)
    have KM : Hid (w1.drew.heap[w.heap.size + 1]? = some (.cells rc 65 (0, 0))) := K1a
    refine wp_region_held_drew (S := KX (fun k => k = w.heap.size + 1) w1) (by kernel_rfl) ((KX.refl (fun k => k = w.heap.size + 1) w1).drew) (fun hHeld => ?_)
    generalize w1.drew = w2 at HKX1 HSZ1 HRF2 KM hHeld ⊢
    clear HRF1
    refine wpAnyH_take (i := 0) (v := ?v0a) rfl (by kernel_rfl) (by kernel_rfl) (by kernel_rfl) (fun _ _ _ h => h) (Or.inl ⟨by rfl, ?hy0a⟩) (by assumption) ?rest0a
    case hy0a => (intro W hSw; go_simp; first | done | with_reducible rfl)
    simp only [Act.put, List.getElem_toArray, List.getElem_cons_zero, List.setIfInBounds_toArray, List.set_cons_zero, List.set_cons_succ]
    refine wpAnyH_take (i := 1) (v := ?v1a) rfl (by kernel_rfl) (by kernel_rfl) (by kernel_rfl) (fun _ _ _ h => h) (Or.inl ⟨by rfl, ?hy1a⟩) (by assumption) ?rest1a
    case hy1a => (intro W hSw; go_simp; first | done | with_reducible rfl)
    simp only [Act.put, List.getElem_toArray, List.getElem_cons_zero, List.getElem_cons_succ, List.setIfInBounds_toArray, List.set_cons_zero, List.set_cons_succ]
    refine wpAnyH_take (i := 2) (v := ?v2a) rfl (by kernel_rfl) (by kernel_rfl) (by kernel_rfl) (fun _ _ _ h => h) (Or.inl ⟨by rfl, ?hy2a⟩) (by assumption) ?rest2a
    case hy2a => (intro W hSw; go_simp; first | done | with_reducible rfl)
    simp only [Act.put, List.getElem_toArray, List.getElem_cons_zero, List.getElem_cons_succ, List.setIfInBounds_toArray, List.set_cons_zero, List.set_cons_succ]
    refine wpAnyH_take (i := 3) (v := ?v3a) rfl (by kernel_rfl) (by kernel_rfl) (by kernel_rfl) (fun _ _ _ h => h) (Or.inl ⟨by rfl, ?hy3a⟩) (by assumption) ?rest3a
    case hy3a => (intro W hSw; go_simp; first | done | with_reducible rfl)
    simp only [Act.put, List.getElem_toArray, List.getElem_cons_zero, List.getElem_cons_succ, List.setIfInBounds_toArray, List.set_cons_zero, List.set_cons_succ]
    refine wpAnyH_take (i := 4) (v := ?v4a) rfl (by kernel_rfl) (by kernel_rfl) (by kernel_rfl) (fun _ _ _ h => h) (Or.inl ⟨by rfl, ?hy4a⟩) (by assumption) ?rest4a
    case hy4a => (intro W hSw; go_simp; first | done | with_reducible rfl)
    simp only [Act.put, List.getElem_toArray, List.getElem_cons_zero, List.getElem_cons_succ, List.setIfInBounds_toArray, List.set_cons_zero, List.set_cons_succ]
    refine wpAnyH_take (i := 5) rfl (by kernel_rfl) (by kernel_rfl) (by kernel_rfl) (fun _ _ _ h => h) (yieldsIf_load_mid (by rfl) 52 _ rfl (w.heap.size) 15 rfl (s.p.b.rg : Rg).c.toList _ (fun W hSw => NS.range_rb (hSw.heap K0a.out (by omega))) Tryd.underlying52 rfl ?hi5a) (by assumption) ?rest5a
    case hi5a => exact ring13_size _
    simp only [Act.put, List.getElem_toArray, List.getElem_cons_zero, List.getElem_cons_succ, List.setIfInBounds_toArray, List.set_cons_zero, List.set_cons_succ]
    refine wpAnyH_take (i := 7) (v := ?v7a) rfl (by kernel_rfl) (by kernel_rfl) (by kernel_rfl) (fun _ _ _ h => h) (Or.inl ⟨by rfl, ?hy7a⟩) (by assumption) ?rest7a
    case hy7a => (intro W hSw; go_simp; first | done | with_reducible rfl)
    simp only [Act.put, List.getElem_toArray, List.getElem_cons_zero, List.getElem_cons_succ, List.setIfInBounds_toArray, List.set_cons_zero, List.set_cons_succ]
    refine wpAnyH_take (i := 8) (v := ?v8a) rfl (by kernel_rfl) (by kernel_rfl) (by kernel_rfl) (fun _ _ _ h => h) (Or.inl ⟨by rfl, ?hy8a⟩) (by assumption) ?rest8a
    case hy8a => (intro W hSw; go_simp; first | done | with_reducible rfl)
    simp only [Act.put, List.getElem_toArray, List.getElem_cons_zero, List.getElem_cons_succ, List.setIfInBounds_toArray, List.set_cons_zero, List.set_cons_succ]
    refine wpAnyH_take (i := 9) (v := ?v9a) rfl (by kernel_rfl) (by kernel_rfl) (by kernel_rfl) (fun _ _ _ h => h) (Or.inl ⟨by rfl, ?hy9a⟩) (by assumption) ?rest9a
    case hy9a => (intro W hSw; go_simp; first | done | with_reducible rfl)
    simp only [Act.put, List.getElem_toArray, List.getElem_cons_zero, List.getElem_cons_succ, List.setIfInBounds_toArray, List.set_cons_zero, List.set_cons_succ]
    refine wpAnyH_ready (rs := [6, 15]) (by kernel_rfl) (by simp) ?_
    refine AllReadyH.cons (o := _) rfl (fun K hK => ?_) (AllReadyH.cons (o := _) rfl (fun K hK => ?_) AllReadyH.nil)
    · simp only [List.getElem_toArray, List.getElem_cons_zero, List.getElem_cons_succ]
      rw [if_pos (by rfl)]
      refine wp_load_row 65 _ rfl (w.heap.size + 1) rfl 65 rc (0, 0) _ KM.out Tryd.underlying65 rfl HI.out ?_
      refine hK.out _ _ hHeld (fun hS1 => ?_)
      clear hK K
      try simp only [Act.put, List.setIfInBounds_toArray, List.set_cons_zero, List.set_cons_succ]
      refine wpAnyH_ready (rs := [10, 15]) (by kernel_rfl) (by simp) ?_
      refine AllReadyH.cons (o := _) rfl (fun K hK => ?_) (AllReadyH.cons (o := _) rfl (fun K hK => ?_) AllReadyH.nil)
      · simp only [List.getElem_toArray, List.getElem_cons_zero, List.getElem_cons_succ]
        go_simp
        have hlt : ∀ k, (fun k => F k ∨ (w.heap.size ≤ k ∧ k < w.heap.size + 4)) k → k < w2.heap.size := fun k hk => by
          have h1 := (hS1).size
          have h2 := HSZ.out
          rcases hk with hk | hk
          · have := HRF.out.2.1 k hk; omega
          · omega
        refine (HG.out _ _ HRF2.out hlt (by have h1 := (hS1).size; have h2 := HSZ.out; have h3 := HRF.out.2.2; omega)).mono ?_
        rintro e wc3 ⟨v', rfl, hR, hb⟩
        refine hK.out _ _ ((hS1).trans (KX.of_below (X := (fun k => k = w.heap.size + 1)) hb) (fun _ _ h => h)) (fun hS2 => ?_)
        clear hK K hlt
        try simp only [Act.put, List.setIfInBounds_toArray, List.set_cons_zero, List.set_cons_succ]
        obtain ⟨C4, rfl, hvs, hvo⟩ := hR.form
        have HRF5 := Lib.hid hR
        have HZ6 := Lib.hid (And.intro hvs hvo)
        have KM7 := Lib.hid (keepB KM.out hb)
        clear hR hb hvs hvo
        refine wpAnyH_take (i := 11) (v := ?v11p) rfl (by kernel_rfl) (by kernel_rfl) (by kernel_rfl) (fun _ _ _ h => h) (Or.inl ⟨by rfl, ?hy11p⟩) (by assumption) ?rest11p
        case hy11p => (intro W hSw; go_simp; first | done | with_reducible rfl)
        simp only [Act.put, List.getElem_toArray, List.getElem_cons_zero, List.getElem_cons_succ, List.setIfInBounds_toArray, List.set_cons_zero, List.set_cons_succ]
        refine wpAnyH_take (i := 12) (v := ?v12p) rfl (by kernel_rfl) (by kernel_rfl) (by kernel_rfl) (fun _ _ _ h => h) (Or.inl ⟨by rfl, ?hy12p⟩) (by assumption) ?rest12p
        case hy12p => (intro W hSw; go_simp; first | done | with_reducible rfl)
        simp only [Act.put, List.getElem_toArray, List.getElem_cons_zero, List.getElem_cons_succ, List.setIfInBounds_toArray, List.set_cons_zero, List.set_cons_succ]
        refine wpAnyH_take (i := 13) (v := ?v13p) rfl (by kernel_rfl) (by kernel_rfl) (by kernel_rfl) (fun _ _ _ h => h) (Or.inl ⟨by rfl, ?hy13p⟩) (by assumption) ?rest13p
        case hy13p => (intro W hSw; go_simp; first | done | with_reducible rfl)
        simp only [Act.put, List.getElem_toArray, List.getElem_cons_zero, List.getElem_cons_succ, List.setIfInBounds_toArray, List.set_cons_zero, List.set_cons_succ]
        refine wpAnyH_take (i := 14) (v := ?v14p) rfl (by kernel_rfl) (by kernel_rfl) (by kernel_rfl) (fun _ _ _ h => h) (Or.inl ⟨by rfl, ?hy14p⟩) (by assumption) ?rest14p
        case hy14p => (intro W hSw; go_simp; first | done | with_reducible rfl)
        simp only [Act.put, List.getElem_toArray, List.getElem_cons_zero, List.getElem_cons_succ, List.setIfInBounds_toArray, List.set_cons_zero, List.set_cons_succ]
        refine wpAnyH_ready (rs := [15]) (by kernel_rfl) (by simp) ?_
        refine AllReadyH.cons (o := _) rfl (fun K hK => ?_) AllReadyH.nil
        simp only [List.getElem_toArray, List.getElem_cons_zero, List.getElem_cons_succ]
        go_simp
        refine hK.out _ _ ((hS2).alloc _) (fun hS9 => ?_)
        clear hK K
        try simp only [Act.put, List.setIfInBounds_toArray, List.set_cons_zero, List.set_cons_succ]
        have KR11 := Lib.hid (heap_alloc_new wc3 (.cells #[.int .i64 0, .int .u32 0, .int .u32 0, .int .u32 0, .int .u16 0, .int .u16 0] 52))
        have HRF12 : Hid (RefF (wc3.alloc (.cells #[.int .i64 0, .int .u32 0, .int .u32 0, .int .u32 0, .int .u16 0, .int .u16 0] 52)) B (.agg C4) m' (fun k => (fun k => F k ∨ (w.heap.size ≤ k ∧ k < w.heap.size + 4)) k ∨ k = wc3.heap.size)) := Lib.hid ((HRF5.out.new (Nat.le_refl _)).alloc _)
        have KM13 : Hid ((wc3.alloc (.cells #[.int .i64 0, .int .u32 0, .int .u32 0, .int .u32 0, .int .u16 0, .int .u16 0] 52)).heap[w.heap.size + 1]? = some (.cells rc 65 (0, 0))) := Lib.hid (keepB KM7.out ((Below.refl _ _).alloc (Nat.le_refl _) _))
        have HSZ14 : Hid (wc3.heap.size < (wc3.alloc (.cells #[.int .i64 0, .int .u32 0, .int .u32 0, .int .u32 0, .int .u16 0, .int .u16 0] 52)).heap.size ∧ w1.heap.size ≤ wc3.heap.size ∧ w.heap.size + 4 ≤ wc3.heap.size) := Lib.hid (by have h1 := (hS2).size; have h2 := HSZ.out; refine ⟨by simp, h1, by omega⟩)
        generalize wc3.alloc (.cells #[.int .i64 0, .int .u32 0, .int .u32 0, .int .u32 0, .int .u16 0, .int .u16 0] 52) = wa10 at KR11 HRF12 KM13 HSZ14 hS9 ⊢
        generalize wc3.heap.size = bR15 at KR11 HRF12 HSZ14 ⊢
        refine wpAnyH_ready (rs := [16]) (by kernel_rfl) (by simp) ?_
        refine AllReadyH.cons (o := _) rfl (fun K hK => ?_) (AllReadyH.nil)
        simp only [List.getElem_toArray, List.getElem_cons_zero, List.getElem_cons_succ]
        rw [if_pos (by rfl)]
        refine wp_store_row 52 _ _ rfl bR15 (Rg.zero : Rg).c rfl rfl 52 #[.int .i64 0, .int .u32 0, .int .u32 0, .int .u32 0, .int .u16 0, .int .u16 0] KR11.out (ring13_size _) rfl (Rg.c_one _) ?_
        refine hK.out _ _ ((hS9).setRow (.inr HSZ14.out.2.1) _) (fun hS16 => ?_)
        clear hK K
        try simp only [Act.put]
        have KA18 : Hid ((wa10.setRow bR15 (Rg.zero : Rg).c).heap[bR15]? = some (.cells (Rg.zero : Rg).c 52 (0, 0))) := Lib.hid (setRow_heap _ _ _ _ _ _ KR11.out)
        have KM19 : Hid ((wa10.setRow bR15 (Rg.zero : Rg).c).heap[w.heap.size + 1]? = some (.cells rc 65 (0, 0))) := Lib.hid ((heap_row_other (by have := HSZ14.out; omega)).trans KM13.out)
        have HRF20 := Lib.hid (HRF12.out.kx ((KX.refl (fun k => k = bR15) wa10).setRow (.inl rfl) (Rg.zero : Rg).c) (fun k e => .inl (.inr e)))
        generalize wa10.setRow bR15 (Rg.zero : Rg).c = wd17 at KA18 KM19 HRF20 hS16 ⊢
        refine wpAnyH_ready (rs := [17]) (by kernel_rfl) (by simp) ?_
        refine AllReadyH.cons (o := _) rfl (fun K hK => ?_) (AllReadyH.nil)
        simp only [List.getElem_toArray, List.getElem_cons_zero, List.getElem_cons_succ]
        rw [if_pos (by rfl)]
        refine wp_store_row 65 _ _ rfl (w.heap.size + 1) C4 rfl rfl 65 rc KM19.out (ram06_size HZ6.out.1) (by rw [HZ6.out.1]; exact HRC.out) HZ6.out.2 ?_
        refine hK.out _ _ (hS16.setRow (.inl rfl) _) (fun hS21 => ?_)
        clear hK K
        try simp only [Act.put]
        have KA23 : Hid ((wd17.setRow (w.heap.size + 1) C4).heap[bR15]? = some (.cells (Rg.zero : Rg).c 52 (0, 0))) := Lib.hid ((heap_row_other (by have := HSZ14.out; omega)).trans KA18.out)
        have KM24 : Hid ((wd17.setRow (w.heap.size + 1) C4).heap[w.heap.size + 1]? = some (.cells C4 65 (0, 0))) := Lib.hid (setRow_heap _ _ _ _ _ _ KM19.out)
        have HRF25 := Lib.hid (HRF20.out.kx ((KX.refl (fun k => k = w.heap.size + 1) wd17).setRow (.inl rfl) C4) (fun k e => .inl (.inl (.inr (by omega)))))
        generalize wd17.setRow (w.heap.size + 1) C4 = we22 at KA23 KM24 HRF25 hS21 ⊢
        refine wpAnyH_take (i := 18) (v := ?v18p) rfl (by kernel_rfl) (by kernel_rfl) (by kernel_rfl) (fun _ _ _ h => h) (Or.inl ⟨by rfl, ?hy18p⟩) (by assumption) ?rest18p
        case hy18p => (intro W hSw; go_simp; first | done | with_reducible rfl)
        simp only [Act.put, List.getElem_toArray, List.getElem_cons_zero, List.getElem_cons_succ, List.setIfInBounds_toArray, List.set_cons_zero, List.set_cons_succ]
        refine wpAnyH_done (by kernel_rfl) ?_ _
        go_wp2_with fail
        go_meet
        case rel => exact ⟨bR15, C4, rfl, rfl, HSZ14.out.2.1, KA23.out, KM24.out, HZ6.out.1, HZ6.out.2, HRF25.out.weak (fun k hk => .inl hk), hS21⟩
      · simp only [List.getElem_toArray, List.getElem_cons_zero, List.getElem_cons_succ]
        go_simp
        refine hK.out _ _ ((hS1).alloc _) (fun hS26 => ?_)
        clear hK K
        try simp only [Act.put, List.setIfInBounds_toArray, List.set_cons_zero, List.set_cons_succ]
        have KR28 := Lib.hid (heap_alloc_new w2 (.cells #[.int .i64 0, .int .u32 0, .int .u32 0, .int .u32 0, .int .u16 0, .int .u16 0] 52))
        have HRF29 : Hid (RefF (w2.alloc (.cells #[.int .i64 0, .int .u32 0, .int .u32 0, .int .u32 0, .int .u16 0, .int .u16 0] 52)) B (.agg rc) m (fun k => (fun k => F k ∨ (w.heap.size ≤ k ∧ k < w.heap.size + 4)) k ∨ k = w2.heap.size)) := Lib.hid ((HRF2.out.new (Nat.le_refl _)).alloc _)
        have KM30 : Hid ((w2.alloc (.cells #[.int .i64 0, .int .u32 0, .int .u32 0, .int .u32 0, .int .u16 0, .int .u16 0] 52)).heap[w.heap.size + 1]? = some (.cells rc 65 (0, 0))) := Lib.hid (keepB KM.out ((Below.refl _ _).alloc (Nat.le_refl _) _))
        have HSZ31 : Hid (w2.heap.size < (w2.alloc (.cells #[.int .i64 0, .int .u32 0, .int .u32 0, .int .u32 0, .int .u16 0, .int .u16 0] 52)).heap.size ∧ w1.heap.size ≤ w2.heap.size ∧ w.heap.size + 4 ≤ w2.heap.size) := Lib.hid (by have h1 := (hS1).size; have h2 := HSZ.out; refine ⟨by simp, h1, by omega⟩)
        generalize w2.alloc (.cells #[.int .i64 0, .int .u32 0, .int .u32 0, .int .u32 0, .int .u16 0, .int .u16 0] 52) = wa27 at KR28 HRF29 KM30 HSZ31 hS26 ⊢
        generalize w2.heap.size = bR32 at KR28 HRF29 HSZ31 ⊢
        refine wpAnyH_ready (rs := [10]) (by kernel_rfl) (by simp) ?_
        refine AllReadyH.cons (o := _) rfl (fun K hK => ?_) AllReadyH.nil
        simp only [List.getElem_toArray, List.getElem_cons_zero, List.getElem_cons_succ]
        go_simp
        have hlt : ∀ k, (fun k => (fun k => F k ∨ (w.heap.size ≤ k ∧ k < w.heap.size + 4)) k ∨ k = bR32) k → k < wa27.heap.size := fun k hk => by
          have h1 := (hS26).size
          have h2 := HSZ.out
          have h3 := HSZ31.out.1
          rcases hk with (hk | hk) | hk
          · have := HRF.out.2.1 k hk; omega
          · omega
          · omega
        refine (HG.out _ _ HRF29.out hlt (by have h1 := (hS26).size; have h2 := HSZ.out; have h3 := HRF.out.2.2; omega)).mono ?_
        rintro e wc34 ⟨v', rfl, hR, hb⟩
        refine hK.out _ _ ((hS26).trans (KX.of_below (X := (fun k => k = w.heap.size + 1)) hb) (fun _ _ h => h)) (fun hS33 => ?_)
        clear hK K hlt
        try simp only [Act.put, List.setIfInBounds_toArray, List.set_cons_zero, List.set_cons_succ]
        obtain ⟨C35, rfl, hvs, hvo⟩ := hR.form
        have HRF36 := Lib.hid hR
        have HZ37 := Lib.hid (And.intro hvs hvo)
        have KM38 := Lib.hid (keepB KM30.out hb)
        have KR40 := Lib.hid (keepB KR28.out hb)
        clear hR hb hvs hvo
        refine wpAnyH_take (i := 11) (v := ?v11q) rfl (by kernel_rfl) (by kernel_rfl) (by kernel_rfl) (fun _ _ _ h => h) (Or.inl ⟨by rfl, ?hy11q⟩) (by assumption) ?rest11q
        case hy11q => (intro W hSw; go_simp; first | done | with_reducible rfl)
        simp only [Act.put, List.getElem_toArray, List.getElem_cons_zero, List.getElem_cons_succ, List.setIfInBounds_toArray, List.set_cons_zero, List.set_cons_succ]
        refine wpAnyH_take (i := 12) (v := ?v12q) rfl (by kernel_rfl) (by kernel_rfl) (by kernel_rfl) (fun _ _ _ h => h) (Or.inl ⟨by rfl, ?hy12q⟩) (by assumption) ?rest12q
        case hy12q => (intro W hSw; go_simp; first | done | with_reducible rfl)
        simp only [Act.put, List.getElem_toArray, List.getElem_cons_zero, List.getElem_cons_succ, List.setIfInBounds_toArray, List.set_cons_zero, List.set_cons_succ]
        refine wpAnyH_take (i := 13) (v := ?v13q) rfl (by kernel_rfl) (by kernel_rfl) (by kernel_rfl) (fun _ _ _ h => h) (Or.inl ⟨by rfl, ?hy13q⟩) (by assumption) ?rest13q
        case hy13q => (intro W hSw; go_simp; first | done | with_reducible rfl)
        simp only [Act.put, List.getElem_toArray, List.getElem_cons_zero, List.getElem_cons_succ, List.setIfInBounds_toArray, List.set_cons_zero, List.set_cons_succ]
        refine wpAnyH_take (i := 14) (v := ?v14q) rfl (by kernel_rfl) (by kernel_rfl) (by kernel_rfl) (fun _ _ _ h => h) (Or.inl ⟨by rfl, ?hy14q⟩) (by assumption) ?rest14q
        case hy14q => (intro W hSw; go_simp; first | done | with_reducible rfl)
        simp only [Act.put, List.getElem_toArray, List.getElem_cons_zero, List.getElem_cons_succ, List.setIfInBounds_toArray, List.set_cons_zero, List.set_cons_succ]
        refine wpAnyH_ready (rs := [16]) (by kernel_rfl) (by simp) ?_
        refine AllReadyH.cons (o := _) rfl (fun K hK => ?_) (AllReadyH.nil)
        simp only [List.getElem_toArray, List.getElem_cons_zero, List.getElem_cons_succ]
        rw [if_pos (by rfl)]
        refine wp_store_row 52 _ _ rfl bR32 (Rg.zero : Rg).c rfl rfl 52 #[.int .i64 0, .int .u32 0, .int .u32 0, .int .u32 0, .int .u16 0, .int .u16 0] KR40.out (ring13_size _) rfl (Rg.c_one _) ?_
        refine hK.out _ _ ((hS33).setRow (.inr HSZ31.out.2.1) _) (fun hS41 => ?_)
        clear hK K
        try simp only [Act.put]
        have KA43 : Hid ((wc34.setRow bR32 (Rg.zero : Rg).c).heap[bR32]? = some (.cells (Rg.zero : Rg).c 52 (0, 0))) := Lib.hid (setRow_heap _ _ _ _ _ _ KR40.out)
        have KM44 : Hid ((wc34.setRow bR32 (Rg.zero : Rg).c).heap[w.heap.size + 1]? = some (.cells rc 65 (0, 0))) := Lib.hid ((heap_row_other (by have := HSZ31.out; omega)).trans KM38.out)
        have HRF45 := Lib.hid (HRF36.out.kx ((KX.refl (fun k => k = bR32) wc34).setRow (.inl rfl) (Rg.zero : Rg).c) (fun k e => .inl (.inr e)))
        generalize wc34.setRow bR32 (Rg.zero : Rg).c = wd42 at KA43 KM44 HRF45 hS41 ⊢
        refine wpAnyH_ready (rs := [17]) (by kernel_rfl) (by simp) ?_
        refine AllReadyH.cons (o := _) rfl (fun K hK => ?_) (AllReadyH.nil)
        simp only [List.getElem_toArray, List.getElem_cons_zero, List.getElem_cons_succ]
        rw [if_pos (by rfl)]
        refine wp_store_row 65 _ _ rfl (w.heap.size + 1) C35 rfl rfl 65 rc KM44.out (ram06_size HZ37.out.1) (by rw [HZ37.out.1]; exact HRC.out) HZ37.out.2 ?_
        refine hK.out _ _ (hS41.setRow (.inl rfl) _) (fun hS46 => ?_)
        clear hK K
        try simp only [Act.put]
        have KA48 : Hid ((wd42.setRow (w.heap.size + 1) C35).heap[bR32]? = some (.cells (Rg.zero : Rg).c 52 (0, 0))) := Lib.hid ((heap_row_other (by have := HSZ31.out; omega)).trans KA43.out)
        have KM49 : Hid ((wd42.setRow (w.heap.size + 1) C35).heap[w.heap.size + 1]? = some (.cells C35 65 (0, 0))) := Lib.hid (setRow_heap _ _ _ _ _ _ KM44.out)
        have HRF50 := Lib.hid (HRF45.out.kx ((KX.refl (fun k => k = w.heap.size + 1) wd42).setRow (.inl rfl) C35) (fun k e => .inl (.inl (.inr (by omega)))))
        generalize wd42.setRow (w.heap.size + 1) C35 = we47 at KA48 KM49 HRF50 hS46 ⊢
        refine wpAnyH_take (i := 18) (v := ?v18q) rfl (by kernel_rfl) (by kernel_rfl) (by kernel_rfl) (fun _ _ _ h => h) (Or.inl ⟨by rfl, ?hy18q⟩) (by assumption) ?rest18q
        case hy18q => (intro W hSw; go_simp; first | done | with_reducible rfl)
        simp only [Act.put, List.getElem_toArray, List.getElem_cons_zero, List.getElem_cons_succ, List.setIfInBounds_toArray, List.set_cons_zero, List.set_cons_succ]
        refine wpAnyH_done (by kernel_rfl) ?_ _
        go_wp2_with fail
        go_meet
        case rel => exact ⟨bR32, C35, rfl, rfl, HSZ31.out.2.1, KA48.out, KM49.out, HZ37.out.1, HZ37.out.2, HRF50.out.weak (fun k hk => .inl hk), hS46⟩
    · simp only [List.getElem_toArray, List.getElem_cons_zero, List.getElem_cons_succ]
      go_simp
      refine hK.out _ _ ((hHeld).alloc _) (fun hS51 => ?_)
      clear hK K
      try simp only [Act.put, List.setIfInBounds_toArray, List.set_cons_zero, List.set_cons_succ]
      have KR53 := Lib.hid (heap_alloc_new w2 (.cells #[.int .i64 0, .int .u32 0, .int .u32 0, .int .u32 0, .int .u16 0, .int .u16 0] 52))
      have HRF54 : Hid (RefF (w2.alloc (.cells #[.int .i64 0, .int .u32 0, .int .u32 0, .int .u32 0, .int .u16 0, .int .u16 0] 52)) B (.agg rc) m (fun k => (fun k => F k ∨ (w.heap.size ≤ k ∧ k < w.heap.size + 4)) k ∨ k = w2.heap.size)) := Lib.hid ((HRF2.out.new (Nat.le_refl _)).alloc _)
      have KM55 : Hid ((w2.alloc (.cells #[.int .i64 0, .int .u32 0, .int .u32 0, .int .u32 0, .int .u16 0, .int .u16 0] 52)).heap[w.heap.size + 1]? = some (.cells rc 65 (0, 0))) := Lib.hid (keepB KM.out ((Below.refl _ _).alloc (Nat.le_refl _) _))
      have HSZ56 : Hid (w2.heap.size < (w2.alloc (.cells #[.int .i64 0, .int .u32 0, .int .u32 0, .int .u32 0, .int .u16 0, .int .u16 0] 52)).heap.size ∧ w1.heap.size ≤ w2.heap.size ∧ w.heap.size + 4 ≤ w2.heap.size) := Lib.hid (by have h1 := (hHeld).size; have h2 := HSZ.out; refine ⟨by simp, h1, by omega⟩)
      generalize w2.alloc (.cells #[.int .i64 0, .int .u32 0, .int .u32 0, .int .u32 0, .int .u16 0, .int .u16 0] 52) = wa52 at KR53 HRF54 KM55 HSZ56 hS51 ⊢
      generalize w2.heap.size = bR57 at KR53 HRF54 HSZ56 ⊢
      refine wpAnyH_ready (rs := [6]) (by kernel_rfl) (by simp) ?_
      refine AllReadyH.cons (o := _) rfl (fun K hK => ?_) AllReadyH.nil
      simp only [List.getElem_toArray, List.getElem_cons_zero, List.getElem_cons_succ]
      rw [if_pos (by rfl)]
      refine wp_load_row 65 _ rfl (w.heap.size + 1) rfl 65 rc (0, 0) _ KM55.out Tryd.underlying65 rfl HI.out ?_
      refine hK.out _ _ hS51 (fun hS58 => ?_)
      clear hK K
      try simp only [Act.put, List.setIfInBounds_toArray, List.set_cons_zero, List.set_cons_succ]
      refine wpAnyH_ready (rs := [10]) (by kernel_rfl) (by simp) ?_
      refine AllReadyH.cons (o := _) rfl (fun K hK => ?_) AllReadyH.nil
      simp only [List.getElem_toArray, List.getElem_cons_zero, List.getElem_cons_succ]
      go_simp
      have hlt : ∀ k, (fun k => (fun k => F k ∨ (w.heap.size ≤ k ∧ k < w.heap.size + 4)) k ∨ k = bR57) k → k < wa52.heap.size := fun k hk => by
        have h1 := (hS58).size
        have h2 := HSZ.out
        have h3 := HSZ56.out.1
        rcases hk with (hk | hk) | hk
        · have := HRF.out.2.1 k hk; omega
        · omega
        · omega
      refine (HG.out _ _ HRF54.out hlt (by have h1 := (hS58).size; have h2 := HSZ.out; have h3 := HRF.out.2.2; omega)).mono ?_
      rintro e wc60 ⟨v', rfl, hR, hb⟩
      refine hK.out _ _ ((hS58).trans (KX.of_below (X := (fun k => k = w.heap.size + 1)) hb) (fun _ _ h => h)) (fun hS59 => ?_)
      clear hK K hlt
      try simp only [Act.put, List.setIfInBounds_toArray, List.set_cons_zero, List.set_cons_succ]
      obtain ⟨C61, rfl, hvs, hvo⟩ := hR.form
      have HRF62 := Lib.hid hR
      have HZ63 := Lib.hid (And.intro hvs hvo)
      have KM64 := Lib.hid (keepB KM55.out hb)
      have KR66 := Lib.hid (keepB KR53.out hb)
      clear hR hb hvs hvo
      refine wpAnyH_take (i := 11) (v := ?v11r) rfl (by kernel_rfl) (by kernel_rfl) (by kernel_rfl) (fun _ _ _ h => h) (Or.inl ⟨by rfl, ?hy11r⟩) (by assumption) ?rest11r
      case hy11r => (intro W hSw; go_simp; first | done | with_reducible rfl)
      simp only [Act.put, List.getElem_toArray, List.getElem_cons_zero, List.getElem_cons_succ, List.setIfInBounds_toArray, List.set_cons_zero, List.set_cons_succ]
      refine wpAnyH_take (i := 12) (v := ?v12r) rfl (by kernel_rfl) (by kernel_rfl) (by kernel_rfl) (fun _ _ _ h => h) (Or.inl ⟨by rfl, ?hy12r⟩) (by assumption) ?rest12r
      case hy12r => (intro W hSw; go_simp; first | done | with_reducible rfl)
      simp only [Act.put, List.getElem_toArray, List.getElem_cons_zero, List.getElem_cons_succ, List.setIfInBounds_toArray, List.set_cons_zero, List.set_cons_succ]
      refine wpAnyH_take (i := 13) (v := ?v13r) rfl (by kernel_rfl) (by kernel_rfl) (by kernel_rfl) (fun _ _ _ h => h) (Or.inl ⟨by rfl, ?hy13r⟩) (by assumption) ?rest13r
      case hy13r => (intro W hSw; go_simp; first | done | with_reducible rfl)
      simp only [Act.put, List.getElem_toArray, List.getElem_cons_zero, List.getElem_cons_succ, List.setIfInBounds_toArray, List.set_cons_zero, List.set_cons_succ]
      refine wpAnyH_take (i := 14) (v := ?v14r) rfl (by kernel_rfl) (by kernel_rfl) (by kernel_rfl) (fun _ _ _ h => h) (Or.inl ⟨by rfl, ?hy14r⟩) (by assumption) ?rest14r
      case hy14r => (intro W hSw; go_simp; first | done | with_reducible rfl)
      simp only [Act.put, List.getElem_toArray, List.getElem_cons_zero, List.getElem_cons_succ, List.setIfInBounds_toArray, List.set_cons_zero, List.set_cons_succ]
      refine wpAnyH_ready (rs := [16]) (by kernel_rfl) (by simp) ?_
      refine AllReadyH.cons (o := _) rfl (fun K hK => ?_) (AllReadyH.nil)
      simp only [List.getElem_toArray, List.getElem_cons_zero, List.getElem_cons_succ]
      rw [if_pos (by rfl)]
      refine wp_store_row 52 _ _ rfl bR57 (Rg.zero : Rg).c rfl rfl 52 #[.int .i64 0, .int .u32 0, .int .u32 0, .int .u32 0, .int .u16 0, .int .u16 0] KR66.out (ring13_size _) rfl (Rg.c_one _) ?_
      refine hK.out _ _ ((hS59).setRow (.inr HSZ56.out.2.1) _) (fun hS67 => ?_)
      clear hK K
      try simp only [Act.put]
      have KA69 : Hid ((wc60.setRow bR57 (Rg.zero : Rg).c).heap[bR57]? = some (.cells (Rg.zero : Rg).c 52 (0, 0))) := Lib.hid (setRow_heap _ _ _ _ _ _ KR66.out)
      have KM70 : Hid ((wc60.setRow bR57 (Rg.zero : Rg).c).heap[w.heap.size + 1]? = some (.cells rc 65 (0, 0))) := Lib.hid ((heap_row_other (by have := HSZ56.out; omega)).trans KM64.out)
      have HRF71 := Lib.hid (HRF62.out.kx ((KX.refl (fun k => k = bR57) wc60).setRow (.inl rfl) (Rg.zero : Rg).c) (fun k e => .inl (.inr e)))
      generalize wc60.setRow bR57 (Rg.zero : Rg).c = wd68 at KA69 KM70 HRF71 hS67 ⊢
      refine wpAnyH_ready (rs := [17]) (by kernel_rfl) (by simp) ?_
      refine AllReadyH.cons (o := _) rfl (fun K hK => ?_) (AllReadyH.nil)
      simp only [List.getElem_toArray, List.getElem_cons_zero, List.getElem_cons_succ]
      rw [if_pos (by rfl)]
      refine wp_store_row 65 _ _ rfl (w.heap.size + 1) C61 rfl rfl 65 rc KM70.out (ram06_size HZ63.out.1) (by rw [HZ63.out.1]; exact HRC.out) HZ63.out.2 ?_
      refine hK.out _ _ (hS67.setRow (.inl rfl) _) (fun hS72 => ?_)
      clear hK K
      try simp only [Act.put]
      have KA74 : Hid ((wd68.setRow (w.heap.size + 1) C61).heap[bR57]? = some (.cells (Rg.zero : Rg).c 52 (0, 0))) := Lib.hid ((heap_row_other (by have := HSZ56.out; omega)).trans KA69.out)
      have KM75 : Hid ((wd68.setRow (w.heap.size + 1) C61).heap[w.heap.size + 1]? = some (.cells C61 65 (0, 0))) := Lib.hid (setRow_heap _ _ _ _ _ _ KM70.out)
      have HRF76 := Lib.hid (HRF71.out.kx ((KX.refl (fun k => k = w.heap.size + 1) wd68).setRow (.inl rfl) C61) (fun k e => .inl (.inl (.inr (by omega)))))
      generalize wd68.setRow (w.heap.size + 1) C61 = we73 at KA74 KM75 HRF76 hS72 ⊢
      refine wpAnyH_take (i := 18) (v := ?v18r) rfl (by kernel_rfl) (by kernel_rfl) (by kernel_rfl) (fun _ _ _ h => h) (Or.inl ⟨by rfl, ?hy18r⟩) (by assumption) ?rest18r
      case hy18r => (intro W hSw; go_simp; first | done | with_reducible rfl)
      simp only [Act.put, List.getElem_toArray, List.getElem_cons_zero, List.getElem_cons_succ, List.setIfInBounds_toArray, List.set_cons_zero, List.set_cons_succ]
      refine wpAnyH_done (by kernel_rfl) ?_ _
      go_wp2_with fail
      go_meet
      case rel => exact ⟨bR57, C61, rfl, rfl, HSZ56.out.2.1, KA74.out, KM75.out, HZ63.out.1, HZ63.out.2, HRF76.out.weak (fun k hk => .inl hk), hS72⟩
  obtain ⟨bR, C1, rfl, rfl, hbR, kR, kM, hc1, ho1, hr1, hx⟩ := hcut
  have K1 := Lib.hid (hx.heap K0a.out (by omega))
  clear K0a
  have K2 := Lib.hid (hx.heap K2a.out (by omega))
  clear K2a
  have K3 := Lib.hid (hx.heap K3a.out (by omega))
  clear K3a
  have K4 := Lib.hid kM
  clear K1a
  have HB5 := Lib.hid (HB0a.out.trans (hx.below (B := w.heap.size) (fun k hk e => by omega) HB0a.out.size))
  clear HB0a
  have HC1 := Lib.hid (ram06_size hc1)
  have HC1o := Lib.hid (And.intro hc1 ho1)
  have HRR := Lib.hid hr1
  have KRR := Lib.hid kR
  have HBR := Lib.hid (show w.heap.size + 4 ≤ bR by have := HSZ.out; omega)
  clear hx kR kM hc1 ho1 hr1 hbR HSZ
  clear KRR
  have HRP := Lib.hid (NS.range_p K1.out)
  go_wp2_with (first | go_skip | (refine load_midW rfl 57 _ rfl (w.heap.size) 0 rfl s.p.c.toList _ HRP.out Tryd.underlying57 rfl (vio14_sizeL _) ?_))
  refine (HU.out _).mono ?_
  rintro e wu ⟨rfl, hb⟩
  have HE6 := Lib.hid (HRR.out.below hb)
  clear HRR
  have K7 := Lib.hid (keepB K1.out hb)
  clear K1
  have K8 := Lib.hid (keepB K4.out hb)
  clear K4
  have K9 := Lib.hid (keepB K2.out hb)
  clear K2
  have K10 := Lib.hid (keepB K3.out hb)
  clear K3
  have HB11 := Lib.hid (HB5.out.trans (hb.mono HB5.out.size))
  clear HB5
  clear hb HRP HU
  go_wp2_with (first | go_skip | (refine wpList_store_mid_to rfl 57 _ _ rfl (w.heap.size) 0 s.p.fail.c rfl rfl 59 s.c K7.out (by show 0 + 21 ≤ 23; omega) (vio14_size _) (VS.c_one _) ?_))
  intro wv hx hkk
  rw [put_p] at hkk
  have HE12 := Lib.hid (HE6.out.kx hx.out (fun k e => .inl (.inr (by omega))))
  clear HE6
  have K13 := Lib.hid (hx.out.heap K8.out (by omega))
  clear K8
  have K14 := Lib.hid (hx.out.heap K9.out (by omega))
  clear K9
  have K15 := Lib.hid (hx.out.heap K10.out (by omega))
  clear K10
  have K16 := Lib.hid hkk
  clear hkk K7
  have HB17 := Lib.hid (HB11.out.trans (hx.out.below (B := w.heap.size) (fun k hk e => by omega) HB11.out.size))
  clear HB11 hx
  go_upto_region 4 with fail
  have HO18 := Lib.hid (show (({ s with p := s.p.fail } : NS).c : Array Value).all (·.oneCell') = true from (NS.c_one _))
  have HO19 := Lib.hid (show (C1 : Array Value).all (·.oneCell') = true from HC1o.out.2)
  refine wp_region_held_drew (S := KX (fun k => k = w.heap.size + 1 + 1 ∨ k = w.heap.size + 1 + 1 + 1) wv) (by kernel_rfl) ((KX.refl (fun k => k = w.heap.size + 1 + 1 ∨ k = w.heap.size + 1 + 1 + 1) wv).drew) (fun hHeld => ?_)
  refine wpAnyH_take (i := 0) rfl (by kernel_rfl) (by kernel_rfl) (by kernel_rfl) (fun _ _ _ h => h) (yieldsIf_load_mid (by rfl) 59 _ rfl (w.heap.size) 0 rfl (({ s with p := s.p.fail } : NS).c).toList _ (fun W hSw => range_of_all (hSw.heap K16.out (by omega))) Tryd.underlying59 rfl ?hi0t) (by assumption) ?rest0t
  case hi0t => exact (nic16_size s)
  simp only [Act.put, List.getElem_toArray, List.getElem_cons_zero, List.setIfInBounds_toArray, List.set_cons_zero, List.set_cons_succ]
  refine wpAnyH_take (i := 1) rfl (by kernel_rfl) (by kernel_rfl) (by kernel_rfl) (fun _ _ _ h => h) (yieldsIf_load_mid (by rfl) 65 _ rfl (w.heap.size + 1) 0 rfl (C1).toList _ (fun W hSw => range_of_all (hSw.heap K13.out (by omega))) Tryd.underlying65 rfl ?hi1t) (by assumption) ?rest1t
  case hi1t => exact HC1.out
  simp only [Act.put, List.getElem_toArray, List.getElem_cons_zero, List.getElem_cons_succ, List.setIfInBounds_toArray, List.set_cons_zero, List.set_cons_succ]
  refine wpAnyH_two_stores (i := 2) (j := 3) (w.heap.size + 1 + 1) (w.heap.size + 1 + 1 + 1) (({ s with p := s.p.fail } : NS).c) (C1) (NS.zero.c) (#[(.slice none 0 0 : Value), .slice none 0 0, .int .i64 0]) 59 65 rfl rfl (by kernel_rfl) (by kernel_rfl) rfl rfl rfl rfl 59 65 _ _ _ _ rfl rfl rfl rfl rfl rfl K14.out K15.out (nic16_size _) HC1.out rfl (by rw [HC1o.out.1]; rfl) HO18.out HO19.out (by omega) hHeld ?_
  intro w20 hx hk1 hk2
  clear hHeld
  try simp only [List.setIfInBounds_toArray, List.set_cons_zero, List.set_cons_succ]
  refine wpAnyH_done (by kernel_rfl) ?_ _
  have HE21 := Lib.hid (HE12.out.kx hx (fun k e => .inl (.inr (by omega))))
  clear HE12
  have K22 := Lib.hid (hx.heap K16.out (by omega))
  clear K16
  have K23 := Lib.hid (hx.heap K13.out (by omega))
  clear K13
  have K24 := Lib.hid hk1
  clear K14 hk1
  have K25 := Lib.hid hk2
  clear K15 hk2
  have HB26 := Lib.hid (HB17.out.trans (hx.below (B := w.heap.size) (fun k hk e => by omega) HB17.out.size))
  clear HB17 hx
  go_wp2_with fail
  exact bodyPost_ret (v := .tuple #[.agg ({ s with p := s.p.fail } : NS).c, .agg C1]) (results_2cell Tryd.results52 _ _ (w.heap.size + 1 + 1) (w.heap.size + 1 + 1 + 1) 59 65 ({ s with p := s.p.fail } : NS).c C1 (0, 0) (0, 0) _ _ rfl rfl K24.out K25.out Tryd.underlying59 rfl (nic16_size _) Tryd.underlying65 rfl HC1.out) rfl ⟨_, rfl, HE21.out.weak (fun k hk => .inl hk), HB26.out⟩
set_option maxRecDepth 100000 in
set_option maxHeartbeats 8000000 in
theorem ref16_give1_ok {B : Nat} {F : Nat → Prop} {m m' : Mm} (s : NS) (hs : s.p.wf) (hd n : Nat) (hn : n < 2147483648) (rc : Array Value) (hrc : rc.size = 3) (hro : rc.all (·.oneCell') = true) (w : World) (h : RefF w B (.agg rc) m F) (hF : ∀ k, F k → k < w.heap.size) (hB : B ≤ w.heap.size)
    (HG : Hid (∀ (W : World) (G : Nat → Prop), RefF W B (.agg rc) m G → (∀ k, G k → k < W.heap.size) → B ≤ W.heap.size → Calls Tryd.prog 89 #[.agg (s.p.b.rg : Rg).c, .agg rc, .int .i64 hd, .int .u32 (IntKind.u32.wrap (n : Int))] W fun e w' => ∃ v', e = .returned (.tuple #[.agg (s.p.b.rg.gave : Rg).c, v', .int .i64 0]) ∧ RefF w' B v' m' G ∧ Below W.heap.size W w'))
    (HU : Hid (∀ W, Calls Tryd.prog 90 #[.agg (s.setR true s.p.b.rg.gave).p.c.toList.toArray] W fun e w' => e = .returned (.agg (s.setR true s.p.b.rg.gave).p.used.c) ∧ Below W.heap.size W w')) :
    Calls Tryd.prog 52 #[.agg s.c, .agg rc, .int .i64 1, .int .i64 hd, .int .i64 n] w fun e w' => ∃ v', e = .returned (.tuple #[.agg ({ (s.setR true s.p.b.rg.gave) with p := (s.setR true s.p.b.rg.gave).p.used } : NS).c, v']) ∧ RefF w' B v' m' F ∧ Below w.heap.size w w' := by
  have HI := Lib.hid (ram06_size hrc)
  have HWF := Lib.hid hs
  have hrf : RefF w B (.agg rc) m (fun k => F k ∨ (w.heap.size ≤ k ∧ k < w.heap.size + 4)) := by
    obtain ⟨n1, n2, b1, c1, b2, c2, he, g1, g2, g3, g4, r1, r2⟩ := h
    have l1 := r1.lt
    have l2 := r2.lt
    exact ⟨n1, n2, b1, c1, b2, c2, he, g1, g2, fun hj => hj.elim g3 (by omega), fun hj => hj.elim g4 (by omega), r1, r2⟩
  have HRF := Lib.hid (And.intro hrf (And.intro hF hB))
  have hn0 : (0 : Int) ≤ (n : Int) := by omega
  have hnm : (n : Int) % 4294967296 = (n : Int) := by omega
  have HRC := Lib.hid hrc
  clear hs hn hrc hro h hF hB hrf
  obtain ⟨k0, k1, k2, k3, hb0⟩ := new4 w (.cells s.c 59) (.cells rc 65) (.cells NS.zero.c 59) (.cells #[(.slice none 0 0 : Value), .slice none 0 0, .int .i64 0] 65)
  have K0a := Lib.hid k0
  have K1a := Lib.hid k1
  have K2a := Lib.hid k2
  have K3a := Lib.hid k3
  have HB0a := Lib.hid hb0
  clear k0 k1 k2 k3 hb0
  have HSZ := Lib.hid (show ((((w.alloc (.cells s.c 59)).alloc (.cells rc 65)).alloc (.cells NS.zero.c 59)).alloc (.cells #[(.slice none 0 0 : Value), .slice none 0 0, .int .i64 0] 65)).heap.size = w.heap.size + 4 by simp)
  go_enter Tryd.func52, Tryd.ntmps52
  go_upto_region 1 with fail
  change Code.wp _ _ _ _ ((((w.alloc (.cells s.c 59)).alloc (.cells rc 65)).alloc (.cells NS.zero.c 59)).alloc (.cells #[(.slice none 0 0 : Value), .slice none 0 0, .int .i64 0] 65))
  generalize ((((w.alloc (.cells s.c 59)).alloc (.cells rc 65)).alloc (.cells NS.zero.c 59)).alloc (.cells #[(.slice none 0 0 : Value), .slice none 0 0, .int .i64 0] 65)) = w1 at K0a K1a K2a K3a HB0a HSZ ⊢
  go_cut [12, 13] from 14 to 28 (fun x y W => ∃ (bR : Nat) (C1 : Array Value), x = .pointer (some ⟨bR, 0, none⟩) ∧ y = .int .i64 0 ∧ w1.heap.size ≤ bR ∧ W.heap[bR]? = some (.cells (s.p.b.rg.gave : Rg).c 52 (0, 0)) ∧ W.heap[w.heap.size + 1]? = some (.cells C1 65 (0, 0)) ∧ C1.size = 3 ∧ C1.all (·.oneCell') = true ∧ RefF W B (.agg C1) m' (fun k => F k ∨ (w.heap.size ≤ k ∧ k < w.heap.size + 4)) ∧ KX (fun k => k = w.heap.size + 1) w1 W)
  case first =>
    have HRF1 := Lib.hid (HRF.out.1.below HB0a.out)
    have HKX1 := Lib.hid ((KX.refl (fun k => k = w.heap.size + 1) w1).drew)
    have HSZ1 := Lib.hid (show w1.drew.heap.size = w.heap.size + 4 from HSZ.out)
    have HRF2 : Hid (RefF w1.drew B (.agg rc) m (fun k => F k ∨ (w.heap.size ≤ k ∧ k < w.heap.size + 4))) := Lib.hid (HRF1.out.below (Below.refl _ _).drew)
    have KM : Hid (w1.drew.heap[w.heap.size + 1]? = some (.cells rc 65 (0, 0))) := K1a
    refine wp_region_held_drew (S := KX (fun k => k = w.heap.size + 1) w1) (by kernel_rfl) ((KX.refl (fun k => k = w.heap.size + 1) w1).drew) (fun hHeld => ?_)
    generalize w1.drew = w2 at HKX1 HSZ1 HRF2 KM hHeld ⊢
    clear HRF1
    refine wpAnyH_take (i := 0) (v := ?v0a) rfl (by kernel_rfl) (by kernel_rfl) (by kernel_rfl) (fun _ _ _ h => h) (Or.inl ⟨by rfl, ?hy0a⟩) (by assumption) ?rest0a
    case hy0a => (intro W hSw; go_simp; first | done | with_reducible rfl)
    simp only [Act.put, List.getElem_toArray, List.getElem_cons_zero, List.setIfInBounds_toArray, List.set_cons_zero, List.set_cons_succ]
    refine wpAnyH_take (i := 1) (v := ?v1a) rfl (by kernel_rfl) (by kernel_rfl) (by kernel_rfl) (fun _ _ _ h => h) (Or.inl ⟨by rfl, ?hy1a⟩) (by assumption) ?rest1a
    case hy1a => (intro W hSw; go_simp; first | done | with_reducible rfl)
    simp only [Act.put, List.getElem_toArray, List.getElem_cons_zero, List.getElem_cons_succ, List.setIfInBounds_toArray, List.set_cons_zero, List.set_cons_succ]
    refine wpAnyH_take (i := 2) (v := ?v2a) rfl (by kernel_rfl) (by kernel_rfl) (by kernel_rfl) (fun _ _ _ h => h) (Or.inl ⟨by rfl, ?hy2a⟩) (by assumption) ?rest2a
    case hy2a => (intro W hSw; go_simp; first | done | with_reducible rfl)
    simp only [Act.put, List.getElem_toArray, List.getElem_cons_zero, List.getElem_cons_succ, List.setIfInBounds_toArray, List.set_cons_zero, List.set_cons_succ]
    refine wpAnyH_take (i := 3) (v := ?v3a) rfl (by kernel_rfl) (by kernel_rfl) (by kernel_rfl) (fun _ _ _ h => h) (Or.inl ⟨by rfl, ?hy3a⟩) (by assumption) ?rest3a
    case hy3a => (intro W hSw; go_simp; first | done | with_reducible rfl)
    simp only [Act.put, List.getElem_toArray, List.getElem_cons_zero, List.getElem_cons_succ, List.setIfInBounds_toArray, List.set_cons_zero, List.set_cons_succ]
    refine wpAnyH_take (i := 4) (v := ?v4a) rfl (by kernel_rfl) (by kernel_rfl) (by kernel_rfl) (fun _ _ _ h => h) (Or.inl ⟨by rfl, ?hy4a⟩) (by assumption) ?rest4a
    case hy4a => (intro W hSw; go_simp; first | done | with_reducible rfl)
    simp only [Act.put, List.getElem_toArray, List.getElem_cons_zero, List.getElem_cons_succ, List.setIfInBounds_toArray, List.set_cons_zero, List.set_cons_succ]
    refine wpAnyH_take (i := 5) rfl (by kernel_rfl) (by kernel_rfl) (by kernel_rfl) (fun _ _ _ h => h) (yieldsIf_load_mid (by rfl) 52 _ rfl (w.heap.size) 15 rfl (s.p.b.rg : Rg).c.toList _ (fun W hSw => NS.range_rb (hSw.heap K0a.out (by omega))) Tryd.underlying52 rfl ?hi5a) (by assumption) ?rest5a
    case hi5a => exact ring13_size _
    simp only [Act.put, List.getElem_toArray, List.getElem_cons_zero, List.getElem_cons_succ, List.setIfInBounds_toArray, List.set_cons_zero, List.set_cons_succ]
    refine wpAnyH_take (i := 7) (v := ?v7a) rfl (by kernel_rfl) (by kernel_rfl) (by kernel_rfl) (fun _ _ _ h => h) (Or.inl ⟨by rfl, ?hy7a⟩) (by assumption) ?rest7a
    case hy7a => (intro W hSw; go_simp; first | done | with_reducible rfl)
    simp only [Act.put, List.getElem_toArray, List.getElem_cons_zero, List.getElem_cons_succ, List.setIfInBounds_toArray, List.set_cons_zero, List.set_cons_succ]
    refine wpAnyH_take (i := 8) (v := ?v8a) rfl (by kernel_rfl) (by kernel_rfl) (by kernel_rfl) (fun _ _ _ h => h) (Or.inl ⟨by rfl, ?hy8a⟩) (by assumption) ?rest8a
    case hy8a => (intro W hSw; go_simp; first | done | with_reducible rfl)
    simp only [Act.put, List.getElem_toArray, List.getElem_cons_zero, List.getElem_cons_succ, List.setIfInBounds_toArray, List.set_cons_zero, List.set_cons_succ]
    refine wpAnyH_take (i := 9) (v := ?v9a) rfl (by kernel_rfl) (by kernel_rfl) (by kernel_rfl) (fun _ _ _ h => h) (Or.inl ⟨by rfl, ?hy9a⟩) (by assumption) ?rest9a
    case hy9a => (intro W hSw; go_simp; first | done | with_reducible rfl)
    simp only [Act.put, List.getElem_toArray, List.getElem_cons_zero, List.getElem_cons_succ, List.setIfInBounds_toArray, List.set_cons_zero, List.set_cons_succ]
    refine wpAnyH_ready (rs := [6, 15]) (by kernel_rfl) (by simp) ?_
    refine AllReadyH.cons (o := _) rfl (fun K hK => ?_) (AllReadyH.cons (o := _) rfl (fun K hK => ?_) AllReadyH.nil)
    · simp only [List.getElem_toArray, List.getElem_cons_zero, List.getElem_cons_succ]
      rw [if_pos (by rfl)]
      refine wp_load_row 65 _ rfl (w.heap.size + 1) rfl 65 rc (0, 0) _ KM.out Tryd.underlying65 rfl HI.out ?_
      refine hK.out _ _ hHeld (fun hS1 => ?_)
      clear hK K
      try simp only [Act.put, List.setIfInBounds_toArray, List.set_cons_zero, List.set_cons_succ]
      refine wpAnyH_ready (rs := [10, 15]) (by kernel_rfl) (by simp) ?_
      refine AllReadyH.cons (o := _) rfl (fun K hK => ?_) (AllReadyH.cons (o := _) rfl (fun K hK => ?_) AllReadyH.nil)
      · simp only [List.getElem_toArray, List.getElem_cons_zero, List.getElem_cons_succ]
        go_simp
        have hlt : ∀ k, (fun k => F k ∨ (w.heap.size ≤ k ∧ k < w.heap.size + 4)) k → k < w2.heap.size := fun k hk => by
          have h1 := (hS1).size
          have h2 := HSZ.out
          rcases hk with hk | hk
          · have := HRF.out.2.1 k hk; omega
          · omega
        refine (HG.out _ _ HRF2.out hlt (by have h1 := (hS1).size; have h2 := HSZ.out; have h3 := HRF.out.2.2; omega)).mono ?_
        rintro e wc3 ⟨v', rfl, hR, hb⟩
        refine hK.out _ _ ((hS1).trans (KX.of_below (X := (fun k => k = w.heap.size + 1)) hb) (fun _ _ h => h)) (fun hS2 => ?_)
        clear hK K hlt
        try simp only [Act.put, List.setIfInBounds_toArray, List.set_cons_zero, List.set_cons_succ]
        obtain ⟨C4, rfl, hvs, hvo⟩ := hR.form
        have HRF5 := Lib.hid hR
        have HZ6 := Lib.hid (And.intro hvs hvo)
        have KM7 := Lib.hid (keepB KM.out hb)
        clear hR hb hvs hvo
        refine wpAnyH_take (i := 11) (v := ?v11p) rfl (by kernel_rfl) (by kernel_rfl) (by kernel_rfl) (fun _ _ _ h => h) (Or.inl ⟨by rfl, ?hy11p⟩) (by assumption) ?rest11p
        case hy11p => (intro W hSw; go_simp; first | done | with_reducible rfl)
        simp only [Act.put, List.getElem_toArray, List.getElem_cons_zero, List.getElem_cons_succ, List.setIfInBounds_toArray, List.set_cons_zero, List.set_cons_succ]
        refine wpAnyH_take (i := 12) (v := ?v12p) rfl (by kernel_rfl) (by kernel_rfl) (by kernel_rfl) (fun _ _ _ h => h) (Or.inl ⟨by rfl, ?hy12p⟩) (by assumption) ?rest12p
        case hy12p => (intro W hSw; go_simp; first | done | with_reducible rfl)
        simp only [Act.put, List.getElem_toArray, List.getElem_cons_zero, List.getElem_cons_succ, List.setIfInBounds_toArray, List.set_cons_zero, List.set_cons_succ]
        refine wpAnyH_take (i := 13) (v := ?v13p) rfl (by kernel_rfl) (by kernel_rfl) (by kernel_rfl) (fun _ _ _ h => h) (Or.inl ⟨by rfl, ?hy13p⟩) (by assumption) ?rest13p
        case hy13p => (intro W hSw; go_simp; first | done | with_reducible rfl)
        simp only [Act.put, List.getElem_toArray, List.getElem_cons_zero, List.getElem_cons_succ, List.setIfInBounds_toArray, List.set_cons_zero, List.set_cons_succ]
        refine wpAnyH_take (i := 14) (v := ?v14p) rfl (by kernel_rfl) (by kernel_rfl) (by kernel_rfl) (fun _ _ _ h => h) (Or.inl ⟨by rfl, ?hy14p⟩) (by assumption) ?rest14p
        case hy14p => (intro W hSw; go_simp; first | done | with_reducible rfl)
        simp only [Act.put, List.getElem_toArray, List.getElem_cons_zero, List.getElem_cons_succ, List.setIfInBounds_toArray, List.set_cons_zero, List.set_cons_succ]
        refine wpAnyH_ready (rs := [15]) (by kernel_rfl) (by simp) ?_
        refine AllReadyH.cons (o := _) rfl (fun K hK => ?_) AllReadyH.nil
        simp only [List.getElem_toArray, List.getElem_cons_zero, List.getElem_cons_succ]
        go_simp
        refine hK.out _ _ ((hS2).alloc _) (fun hS9 => ?_)
        clear hK K
        try simp only [Act.put, List.setIfInBounds_toArray, List.set_cons_zero, List.set_cons_succ]
        have KR11 := Lib.hid (heap_alloc_new wc3 (.cells #[.int .i64 0, .int .u32 0, .int .u32 0, .int .u32 0, .int .u16 0, .int .u16 0] 52))
        have HRF12 : Hid (RefF (wc3.alloc (.cells #[.int .i64 0, .int .u32 0, .int .u32 0, .int .u32 0, .int .u16 0, .int .u16 0] 52)) B (.agg C4) m' (fun k => (fun k => F k ∨ (w.heap.size ≤ k ∧ k < w.heap.size + 4)) k ∨ k = wc3.heap.size)) := Lib.hid ((HRF5.out.new (Nat.le_refl _)).alloc _)
        have KM13 : Hid ((wc3.alloc (.cells #[.int .i64 0, .int .u32 0, .int .u32 0, .int .u32 0, .int .u16 0, .int .u16 0] 52)).heap[w.heap.size + 1]? = some (.cells rc 65 (0, 0))) := Lib.hid (keepB KM7.out ((Below.refl _ _).alloc (Nat.le_refl _) _))
        have HSZ14 : Hid (wc3.heap.size < (wc3.alloc (.cells #[.int .i64 0, .int .u32 0, .int .u32 0, .int .u32 0, .int .u16 0, .int .u16 0] 52)).heap.size ∧ w1.heap.size ≤ wc3.heap.size ∧ w.heap.size + 4 ≤ wc3.heap.size) := Lib.hid (by have h1 := (hS2).size; have h2 := HSZ.out; refine ⟨by simp, h1, by omega⟩)
        generalize wc3.alloc (.cells #[.int .i64 0, .int .u32 0, .int .u32 0, .int .u32 0, .int .u16 0, .int .u16 0] 52) = wa10 at KR11 HRF12 KM13 HSZ14 hS9 ⊢
        generalize wc3.heap.size = bR15 at KR11 HRF12 HSZ14 ⊢
        refine wpAnyH_ready (rs := [16]) (by kernel_rfl) (by simp) ?_
        refine AllReadyH.cons (o := _) rfl (fun K hK => ?_) (AllReadyH.nil)
        simp only [List.getElem_toArray, List.getElem_cons_zero, List.getElem_cons_succ]
        rw [if_pos (by rfl)]
        refine wp_store_row 52 _ _ rfl bR15 (s.p.b.rg.gave : Rg).c rfl rfl 52 #[.int .i64 0, .int .u32 0, .int .u32 0, .int .u32 0, .int .u16 0, .int .u16 0] KR11.out (ring13_size _) rfl (Rg.c_one _) ?_
        refine hK.out _ _ ((hS9).setRow (.inr HSZ14.out.2.1) _) (fun hS16 => ?_)
        clear hK K
        try simp only [Act.put]
        have KA18 : Hid ((wa10.setRow bR15 (s.p.b.rg.gave : Rg).c).heap[bR15]? = some (.cells (s.p.b.rg.gave : Rg).c 52 (0, 0))) := Lib.hid (setRow_heap _ _ _ _ _ _ KR11.out)
        have KM19 : Hid ((wa10.setRow bR15 (s.p.b.rg.gave : Rg).c).heap[w.heap.size + 1]? = some (.cells rc 65 (0, 0))) := Lib.hid ((heap_row_other (by have := HSZ14.out; omega)).trans KM13.out)
        have HRF20 := Lib.hid (HRF12.out.kx ((KX.refl (fun k => k = bR15) wa10).setRow (.inl rfl) (s.p.b.rg.gave : Rg).c) (fun k e => .inl (.inr e)))
        generalize wa10.setRow bR15 (s.p.b.rg.gave : Rg).c = wd17 at KA18 KM19 HRF20 hS16 ⊢
        refine wpAnyH_ready (rs := [17]) (by kernel_rfl) (by simp) ?_
        refine AllReadyH.cons (o := _) rfl (fun K hK => ?_) (AllReadyH.nil)
        simp only [List.getElem_toArray, List.getElem_cons_zero, List.getElem_cons_succ]
        rw [if_pos (by rfl)]
        refine wp_store_row 65 _ _ rfl (w.heap.size + 1) C4 rfl rfl 65 rc KM19.out (ram06_size HZ6.out.1) (by rw [HZ6.out.1]; exact HRC.out) HZ6.out.2 ?_
        refine hK.out _ _ (hS16.setRow (.inl rfl) _) (fun hS21 => ?_)
        clear hK K
        try simp only [Act.put]
        have KA23 : Hid ((wd17.setRow (w.heap.size + 1) C4).heap[bR15]? = some (.cells (s.p.b.rg.gave : Rg).c 52 (0, 0))) := Lib.hid ((heap_row_other (by have := HSZ14.out; omega)).trans KA18.out)
        have KM24 : Hid ((wd17.setRow (w.heap.size + 1) C4).heap[w.heap.size + 1]? = some (.cells C4 65 (0, 0))) := Lib.hid (setRow_heap _ _ _ _ _ _ KM19.out)
        have HRF25 := Lib.hid (HRF20.out.kx ((KX.refl (fun k => k = w.heap.size + 1) wd17).setRow (.inl rfl) C4) (fun k e => .inl (.inl (.inr (by omega)))))
        generalize wd17.setRow (w.heap.size + 1) C4 = we22 at KA23 KM24 HRF25 hS21 ⊢
        refine wpAnyH_take (i := 18) (v := ?v18p) rfl (by kernel_rfl) (by kernel_rfl) (by kernel_rfl) (fun _ _ _ h => h) (Or.inl ⟨by rfl, ?hy18p⟩) (by assumption) ?rest18p
        case hy18p => (intro W hSw; go_simp; first | done | with_reducible rfl)
        simp only [Act.put, List.getElem_toArray, List.getElem_cons_zero, List.getElem_cons_succ, List.setIfInBounds_toArray, List.set_cons_zero, List.set_cons_succ]
        refine wpAnyH_done (by kernel_rfl) ?_ _
        go_wp2_with fail
        go_meet
        case rel => exact ⟨bR15, C4, rfl, rfl, HSZ14.out.2.1, KA23.out, KM24.out, HZ6.out.1, HZ6.out.2, HRF25.out.weak (fun k hk => .inl hk), hS21⟩
      · simp only [List.getElem_toArray, List.getElem_cons_zero, List.getElem_cons_succ]
        go_simp
        refine hK.out _ _ ((hS1).alloc _) (fun hS26 => ?_)
        clear hK K
        try simp only [Act.put, List.setIfInBounds_toArray, List.set_cons_zero, List.set_cons_succ]
        have KR28 := Lib.hid (heap_alloc_new w2 (.cells #[.int .i64 0, .int .u32 0, .int .u32 0, .int .u32 0, .int .u16 0, .int .u16 0] 52))
        have HRF29 : Hid (RefF (w2.alloc (.cells #[.int .i64 0, .int .u32 0, .int .u32 0, .int .u32 0, .int .u16 0, .int .u16 0] 52)) B (.agg rc) m (fun k => (fun k => F k ∨ (w.heap.size ≤ k ∧ k < w.heap.size + 4)) k ∨ k = w2.heap.size)) := Lib.hid ((HRF2.out.new (Nat.le_refl _)).alloc _)
        have KM30 : Hid ((w2.alloc (.cells #[.int .i64 0, .int .u32 0, .int .u32 0, .int .u32 0, .int .u16 0, .int .u16 0] 52)).heap[w.heap.size + 1]? = some (.cells rc 65 (0, 0))) := Lib.hid (keepB KM.out ((Below.refl _ _).alloc (Nat.le_refl _) _))
        have HSZ31 : Hid (w2.heap.size < (w2.alloc (.cells #[.int .i64 0, .int .u32 0, .int .u32 0, .int .u32 0, .int .u16 0, .int .u16 0] 52)).heap.size ∧ w1.heap.size ≤ w2.heap.size ∧ w.heap.size + 4 ≤ w2.heap.size) := Lib.hid (by have h1 := (hS1).size; have h2 := HSZ.out; refine ⟨by simp, h1, by omega⟩)
        generalize w2.alloc (.cells #[.int .i64 0, .int .u32 0, .int .u32 0, .int .u32 0, .int .u16 0, .int .u16 0] 52) = wa27 at KR28 HRF29 KM30 HSZ31 hS26 ⊢
        generalize w2.heap.size = bR32 at KR28 HRF29 HSZ31 ⊢
        refine wpAnyH_ready (rs := [10]) (by kernel_rfl) (by simp) ?_
        refine AllReadyH.cons (o := _) rfl (fun K hK => ?_) AllReadyH.nil
        simp only [List.getElem_toArray, List.getElem_cons_zero, List.getElem_cons_succ]
        go_simp
        have hlt : ∀ k, (fun k => (fun k => F k ∨ (w.heap.size ≤ k ∧ k < w.heap.size + 4)) k ∨ k = bR32) k → k < wa27.heap.size := fun k hk => by
          have h1 := (hS26).size
          have h2 := HSZ.out
          have h3 := HSZ31.out.1
          rcases hk with (hk | hk) | hk
          · have := HRF.out.2.1 k hk; omega
          · omega
          · omega
        refine (HG.out _ _ HRF29.out hlt (by have h1 := (hS26).size; have h2 := HSZ.out; have h3 := HRF.out.2.2; omega)).mono ?_
        rintro e wc34 ⟨v', rfl, hR, hb⟩
        refine hK.out _ _ ((hS26).trans (KX.of_below (X := (fun k => k = w.heap.size + 1)) hb) (fun _ _ h => h)) (fun hS33 => ?_)
        clear hK K hlt
        try simp only [Act.put, List.setIfInBounds_toArray, List.set_cons_zero, List.set_cons_succ]
        obtain ⟨C35, rfl, hvs, hvo⟩ := hR.form
        have HRF36 := Lib.hid hR
        have HZ37 := Lib.hid (And.intro hvs hvo)
        have KM38 := Lib.hid (keepB KM30.out hb)
        have KR40 := Lib.hid (keepB KR28.out hb)
        clear hR hb hvs hvo
        refine wpAnyH_take (i := 11) (v := ?v11q) rfl (by kernel_rfl) (by kernel_rfl) (by kernel_rfl) (fun _ _ _ h => h) (Or.inl ⟨by rfl, ?hy11q⟩) (by assumption) ?rest11q
        case hy11q => (intro W hSw; go_simp; first | done | with_reducible rfl)
        simp only [Act.put, List.getElem_toArray, List.getElem_cons_zero, List.getElem_cons_succ, List.setIfInBounds_toArray, List.set_cons_zero, List.set_cons_succ]
        refine wpAnyH_take (i := 12) (v := ?v12q) rfl (by kernel_rfl) (by kernel_rfl) (by kernel_rfl) (fun _ _ _ h => h) (Or.inl ⟨by rfl, ?hy12q⟩) (by assumption) ?rest12q
        case hy12q => (intro W hSw; go_simp; first | done | with_reducible rfl)
        simp only [Act.put, List.getElem_toArray, List.getElem_cons_zero, List.getElem_cons_succ, List.setIfInBounds_toArray, List.set_cons_zero, List.set_cons_succ]
        refine wpAnyH_take (i := 13) (v := ?v13q) rfl (by kernel_rfl) (by kernel_rfl) (by kernel_rfl) (fun _ _ _ h => h) (Or.inl ⟨by rfl, ?hy13q⟩) (by assumption) ?rest13q
        case hy13q => (intro W hSw; go_simp; first | done | with_reducible rfl)
        simp only [Act.put, List.getElem_toArray, List.getElem_cons_zero, List.getElem_cons_succ, List.setIfInBounds_toArray, List.set_cons_zero, List.set_cons_succ]
        refine wpAnyH_take (i := 14) (v := ?v14q) rfl (by kernel_rfl) (by kernel_rfl) (by kernel_rfl) (fun _ _ _ h => h) (Or.inl ⟨by rfl, ?hy14q⟩) (by assumption) ?rest14q
        case hy14q => (intro W hSw; go_simp; first | done | with_reducible rfl)
        simp only [Act.put, List.getElem_toArray, List.getElem_cons_zero, List.getElem_cons_succ, List.setIfInBounds_toArray, List.set_cons_zero, List.set_cons_succ]
        refine wpAnyH_ready (rs := [16]) (by kernel_rfl) (by simp) ?_
        refine AllReadyH.cons (o := _) rfl (fun K hK => ?_) (AllReadyH.nil)
        simp only [List.getElem_toArray, List.getElem_cons_zero, List.getElem_cons_succ]
        rw [if_pos (by rfl)]
        refine wp_store_row 52 _ _ rfl bR32 (s.p.b.rg.gave : Rg).c rfl rfl 52 #[.int .i64 0, .int .u32 0, .int .u32 0, .int .u32 0, .int .u16 0, .int .u16 0] KR40.out (ring13_size _) rfl (Rg.c_one _) ?_
        refine hK.out _ _ ((hS33).setRow (.inr HSZ31.out.2.1) _) (fun hS41 => ?_)
        clear hK K
        try simp only [Act.put]
        have KA43 : Hid ((wc34.setRow bR32 (s.p.b.rg.gave : Rg).c).heap[bR32]? = some (.cells (s.p.b.rg.gave : Rg).c 52 (0, 0))) := Lib.hid (setRow_heap _ _ _ _ _ _ KR40.out)
        have KM44 : Hid ((wc34.setRow bR32 (s.p.b.rg.gave : Rg).c).heap[w.heap.size + 1]? = some (.cells rc 65 (0, 0))) := Lib.hid ((heap_row_other (by have := HSZ31.out; omega)).trans KM38.out)
        have HRF45 := Lib.hid (HRF36.out.kx ((KX.refl (fun k => k = bR32) wc34).setRow (.inl rfl) (s.p.b.rg.gave : Rg).c) (fun k e => .inl (.inr e)))
        generalize wc34.setRow bR32 (s.p.b.rg.gave : Rg).c = wd42 at KA43 KM44 HRF45 hS41 ⊢
        refine wpAnyH_ready (rs := [17]) (by kernel_rfl) (by simp) ?_
        refine AllReadyH.cons (o := _) rfl (fun K hK => ?_) (AllReadyH.nil)
        simp only [List.getElem_toArray, List.getElem_cons_zero, List.getElem_cons_succ]
        rw [if_pos (by rfl)]
        refine wp_store_row 65 _ _ rfl (w.heap.size + 1) C35 rfl rfl 65 rc KM44.out (ram06_size HZ37.out.1) (by rw [HZ37.out.1]; exact HRC.out) HZ37.out.2 ?_
        refine hK.out _ _ (hS41.setRow (.inl rfl) _) (fun hS46 => ?_)
        clear hK K
        try simp only [Act.put]
        have KA48 : Hid ((wd42.setRow (w.heap.size + 1) C35).heap[bR32]? = some (.cells (s.p.b.rg.gave : Rg).c 52 (0, 0))) := Lib.hid ((heap_row_other (by have := HSZ31.out; omega)).trans KA43.out)
        have KM49 : Hid ((wd42.setRow (w.heap.size + 1) C35).heap[w.heap.size + 1]? = some (.cells C35 65 (0, 0))) := Lib.hid (setRow_heap _ _ _ _ _ _ KM44.out)
        have HRF50 := Lib.hid (HRF45.out.kx ((KX.refl (fun k => k = w.heap.size + 1) wd42).setRow (.inl rfl) C35) (fun k e => .inl (.inl (.inr (by omega)))))
        generalize wd42.setRow (w.heap.size + 1) C35 = we47 at KA48 KM49 HRF50 hS46 ⊢
        refine wpAnyH_take (i := 18) (v := ?v18q) rfl (by kernel_rfl) (by kernel_rfl) (by kernel_rfl) (fun _ _ _ h => h) (Or.inl ⟨by rfl, ?hy18q⟩) (by assumption) ?rest18q
        case hy18q => (intro W hSw; go_simp; first | done | with_reducible rfl)
        simp only [Act.put, List.getElem_toArray, List.getElem_cons_zero, List.getElem_cons_succ, List.setIfInBounds_toArray, List.set_cons_zero, List.set_cons_succ]
        refine wpAnyH_done (by kernel_rfl) ?_ _
        go_wp2_with fail
        go_meet
        case rel => exact ⟨bR32, C35, rfl, rfl, HSZ31.out.2.1, KA48.out, KM49.out, HZ37.out.1, HZ37.out.2, HRF50.out.weak (fun k hk => .inl hk), hS46⟩
    · simp only [List.getElem_toArray, List.getElem_cons_zero, List.getElem_cons_succ]
      go_simp
      refine hK.out _ _ ((hHeld).alloc _) (fun hS51 => ?_)
      clear hK K
      try simp only [Act.put, List.setIfInBounds_toArray, List.set_cons_zero, List.set_cons_succ]
      have KR53 := Lib.hid (heap_alloc_new w2 (.cells #[.int .i64 0, .int .u32 0, .int .u32 0, .int .u32 0, .int .u16 0, .int .u16 0] 52))
      have HRF54 : Hid (RefF (w2.alloc (.cells #[.int .i64 0, .int .u32 0, .int .u32 0, .int .u32 0, .int .u16 0, .int .u16 0] 52)) B (.agg rc) m (fun k => (fun k => F k ∨ (w.heap.size ≤ k ∧ k < w.heap.size + 4)) k ∨ k = w2.heap.size)) := Lib.hid ((HRF2.out.new (Nat.le_refl _)).alloc _)
      have KM55 : Hid ((w2.alloc (.cells #[.int .i64 0, .int .u32 0, .int .u32 0, .int .u32 0, .int .u16 0, .int .u16 0] 52)).heap[w.heap.size + 1]? = some (.cells rc 65 (0, 0))) := Lib.hid (keepB KM.out ((Below.refl _ _).alloc (Nat.le_refl _) _))
      have HSZ56 : Hid (w2.heap.size < (w2.alloc (.cells #[.int .i64 0, .int .u32 0, .int .u32 0, .int .u32 0, .int .u16 0, .int .u16 0] 52)).heap.size ∧ w1.heap.size ≤ w2.heap.size ∧ w.heap.size + 4 ≤ w2.heap.size) := Lib.hid (by have h1 := (hHeld).size; have h2 := HSZ.out; refine ⟨by simp, h1, by omega⟩)
      generalize w2.alloc (.cells #[.int .i64 0, .int .u32 0, .int .u32 0, .int .u32 0, .int .u16 0, .int .u16 0] 52) = wa52 at KR53 HRF54 KM55 HSZ56 hS51 ⊢
      generalize w2.heap.size = bR57 at KR53 HRF54 HSZ56 ⊢
      refine wpAnyH_ready (rs := [6]) (by kernel_rfl) (by simp) ?_
      refine AllReadyH.cons (o := _) rfl (fun K hK => ?_) AllReadyH.nil
      simp only [List.getElem_toArray, List.getElem_cons_zero, List.getElem_cons_succ]
      rw [if_pos (by rfl)]
      refine wp_load_row 65 _ rfl (w.heap.size + 1) rfl 65 rc (0, 0) _ KM55.out Tryd.underlying65 rfl HI.out ?_
      refine hK.out _ _ hS51 (fun hS58 => ?_)
      clear hK K
      try simp only [Act.put, List.setIfInBounds_toArray, List.set_cons_zero, List.set_cons_succ]
      refine wpAnyH_ready (rs := [10]) (by kernel_rfl) (by simp) ?_
      refine AllReadyH.cons (o := _) rfl (fun K hK => ?_) AllReadyH.nil
      simp only [List.getElem_toArray, List.getElem_cons_zero, List.getElem_cons_succ]
      go_simp
      have hlt : ∀ k, (fun k => (fun k => F k ∨ (w.heap.size ≤ k ∧ k < w.heap.size + 4)) k ∨ k = bR57) k → k < wa52.heap.size := fun k hk => by
        have h1 := (hS58).size
        have h2 := HSZ.out
        have h3 := HSZ56.out.1
        rcases hk with (hk | hk) | hk
        · have := HRF.out.2.1 k hk; omega
        · omega
        · omega
      refine (HG.out _ _ HRF54.out hlt (by have h1 := (hS58).size; have h2 := HSZ.out; have h3 := HRF.out.2.2; omega)).mono ?_
      rintro e wc60 ⟨v', rfl, hR, hb⟩
      refine hK.out _ _ ((hS58).trans (KX.of_below (X := (fun k => k = w.heap.size + 1)) hb) (fun _ _ h => h)) (fun hS59 => ?_)
      clear hK K hlt
      try simp only [Act.put, List.setIfInBounds_toArray, List.set_cons_zero, List.set_cons_succ]
      obtain ⟨C61, rfl, hvs, hvo⟩ := hR.form
      have HRF62 := Lib.hid hR
      have HZ63 := Lib.hid (And.intro hvs hvo)
      have KM64 := Lib.hid (keepB KM55.out hb)
      have KR66 := Lib.hid (keepB KR53.out hb)
      clear hR hb hvs hvo
      refine wpAnyH_take (i := 11) (v := ?v11r) rfl (by kernel_rfl) (by kernel_rfl) (by kernel_rfl) (fun _ _ _ h => h) (Or.inl ⟨by rfl, ?hy11r⟩) (by assumption) ?rest11r
      case hy11r => (intro W hSw; go_simp; first | done | with_reducible rfl)
      simp only [Act.put, List.getElem_toArray, List.getElem_cons_zero, List.getElem_cons_succ, List.setIfInBounds_toArray, List.set_cons_zero, List.set_cons_succ]
      refine wpAnyH_take (i := 12) (v := ?v12r) rfl (by kernel_rfl) (by kernel_rfl) (by kernel_rfl) (fun _ _ _ h => h) (Or.inl ⟨by rfl, ?hy12r⟩) (by assumption) ?rest12r
      case hy12r => (intro W hSw; go_simp; first | done | with_reducible rfl)
      simp only [Act.put, List.getElem_toArray, List.getElem_cons_zero, List.getElem_cons_succ, List.setIfInBounds_toArray, List.set_cons_zero, List.set_cons_succ]
      refine wpAnyH_take (i := 13) (v := ?v13r) rfl (by kernel_rfl) (by kernel_rfl) (by kernel_rfl) (fun _ _ _ h => h) (Or.inl ⟨by rfl, ?hy13r⟩) (by assumption) ?rest13r
      case hy13r => (intro W hSw; go_simp; first | done | with_reducible rfl)
      simp only [Act.put, List.getElem_toArray, List.getElem_cons_zero, List.getElem_cons_succ, List.setIfInBounds_toArray, List.set_cons_zero, List.set_cons_succ]
      refine wpAnyH_take (i := 14) (v := ?v14r) rfl (by kernel_rfl) (by kernel_rfl) (by kernel_rfl) (fun _ _ _ h => h) (Or.inl ⟨by rfl, ?hy14r⟩) (by assumption) ?rest14r
      case hy14r => (intro W hSw; go_simp; first | done | with_reducible rfl)
      simp only [Act.put, List.getElem_toArray, List.getElem_cons_zero, List.getElem_cons_succ, List.setIfInBounds_toArray, List.set_cons_zero, List.set_cons_succ]
      refine wpAnyH_ready (rs := [16]) (by kernel_rfl) (by simp) ?_
      refine AllReadyH.cons (o := _) rfl (fun K hK => ?_) (AllReadyH.nil)
      simp only [List.getElem_toArray, List.getElem_cons_zero, List.getElem_cons_succ]
      rw [if_pos (by rfl)]
      refine wp_store_row 52 _ _ rfl bR57 (s.p.b.rg.gave : Rg).c rfl rfl 52 #[.int .i64 0, .int .u32 0, .int .u32 0, .int .u32 0, .int .u16 0, .int .u16 0] KR66.out (ring13_size _) rfl (Rg.c_one _) ?_
      refine hK.out _ _ ((hS59).setRow (.inr HSZ56.out.2.1) _) (fun hS67 => ?_)
      clear hK K
      try simp only [Act.put]
      have KA69 : Hid ((wc60.setRow bR57 (s.p.b.rg.gave : Rg).c).heap[bR57]? = some (.cells (s.p.b.rg.gave : Rg).c 52 (0, 0))) := Lib.hid (setRow_heap _ _ _ _ _ _ KR66.out)
      have KM70 : Hid ((wc60.setRow bR57 (s.p.b.rg.gave : Rg).c).heap[w.heap.size + 1]? = some (.cells rc 65 (0, 0))) := Lib.hid ((heap_row_other (by have := HSZ56.out; omega)).trans KM64.out)
      have HRF71 := Lib.hid (HRF62.out.kx ((KX.refl (fun k => k = bR57) wc60).setRow (.inl rfl) (s.p.b.rg.gave : Rg).c) (fun k e => .inl (.inr e)))
      generalize wc60.setRow bR57 (s.p.b.rg.gave : Rg).c = wd68 at KA69 KM70 HRF71 hS67 ⊢
      refine wpAnyH_ready (rs := [17]) (by kernel_rfl) (by simp) ?_
      refine AllReadyH.cons (o := _) rfl (fun K hK => ?_) (AllReadyH.nil)
      simp only [List.getElem_toArray, List.getElem_cons_zero, List.getElem_cons_succ]
      rw [if_pos (by rfl)]
      refine wp_store_row 65 _ _ rfl (w.heap.size + 1) C61 rfl rfl 65 rc KM70.out (ram06_size HZ63.out.1) (by rw [HZ63.out.1]; exact HRC.out) HZ63.out.2 ?_
      refine hK.out _ _ (hS67.setRow (.inl rfl) _) (fun hS72 => ?_)
      clear hK K
      try simp only [Act.put]
      have KA74 : Hid ((wd68.setRow (w.heap.size + 1) C61).heap[bR57]? = some (.cells (s.p.b.rg.gave : Rg).c 52 (0, 0))) := Lib.hid ((heap_row_other (by have := HSZ56.out; omega)).trans KA69.out)
      have KM75 : Hid ((wd68.setRow (w.heap.size + 1) C61).heap[w.heap.size + 1]? = some (.cells C61 65 (0, 0))) := Lib.hid (setRow_heap _ _ _ _ _ _ KM70.out)
      have HRF76 := Lib.hid (HRF71.out.kx ((KX.refl (fun k => k = w.heap.size + 1) wd68).setRow (.inl rfl) C61) (fun k e => .inl (.inl (.inr (by omega)))))
      generalize wd68.setRow (w.heap.size + 1) C61 = we73 at KA74 KM75 HRF76 hS72 ⊢
      refine wpAnyH_take (i := 18) (v := ?v18r) rfl (by kernel_rfl) (by kernel_rfl) (by kernel_rfl) (fun _ _ _ h => h) (Or.inl ⟨by rfl, ?hy18r⟩) (by assumption) ?rest18r
      case hy18r => (intro W hSw; go_simp; first | done | with_reducible rfl)
      simp only [Act.put, List.getElem_toArray, List.getElem_cons_zero, List.getElem_cons_succ, List.setIfInBounds_toArray, List.set_cons_zero, List.set_cons_succ]
      refine wpAnyH_done (by kernel_rfl) ?_ _
      go_wp2_with fail
      go_meet
      case rel => exact ⟨bR57, C61, rfl, rfl, HSZ56.out.2.1, KA74.out, KM75.out, HZ63.out.1, HZ63.out.2, HRF76.out.weak (fun k hk => .inl hk), hS72⟩
  obtain ⟨bR, C1, rfl, rfl, hbR, kR, kM, hc1, ho1, hr1, hx⟩ := hcut
  have K1 := Lib.hid (hx.heap K0a.out (by omega))
  clear K0a
  have K2 := Lib.hid (hx.heap K2a.out (by omega))
  clear K2a
  have K3 := Lib.hid (hx.heap K3a.out (by omega))
  clear K3a
  have K4 := Lib.hid kM
  clear K1a
  have HB5 := Lib.hid (HB0a.out.trans (hx.below (B := w.heap.size) (fun k hk e => by omega) HB0a.out.size))
  clear HB0a
  have HC1 := Lib.hid (ram06_size hc1)
  have HC1o := Lib.hid (And.intro hc1 ho1)
  have HRR := Lib.hid hr1
  have KRR := Lib.hid kR
  have HBR := Lib.hid (show w.heap.size + 4 ≤ bR by have := HSZ.out; omega)
  clear hx kR kM hc1 ho1 hr1 hbR HSZ
  have hbr4 := HBR.out
  go_wp2_with (first | go_skip | (refine wpList_load_row rfl 52 _ rfl bR rfl 52 (s.p.b.rg.gave : Rg).c (0, 0) _ KRR.out Tryd.underlying52 rfl (ring13_size _) ?_) | (refine wpList_store_mid_to rfl 52 _ _ rfl (w.heap.size) 15 (s.p.b.rg.gave : Rg).c rfl rfl 59 s.c K1.out (by show 15 + 6 ≤ 23; omega) (ring13_size _) (Rg.c_one _) ?_))
  intro wm hx hkk
  rw [put_rb] at hkk
  have HE6 := Lib.hid (HRR.out.kx hx.out (fun k e => .inl (.inr (by omega))))
  clear HRR
  have HE7 := Lib.hid (hx.out.heap KRR.out (by omega))
  clear KRR
  have K8 := Lib.hid (hx.out.heap K4.out (by omega))
  clear K4
  have K9 := Lib.hid (hx.out.heap K2.out (by omega))
  clear K2
  have K10 := Lib.hid (hx.out.heap K3.out (by omega))
  clear K3
  have K11 := Lib.hid hkk
  clear hkk K1
  have HB12 := Lib.hid (HB5.out.trans (hx.out.below (B := w.heap.size) (fun k hk e => by omega) HB5.out.size))
  clear HB5 hx
  clear HE7
  have HRP := Lib.hid (NS.range_p K11.out)
  go_wp2_with (first | go_skip | (refine load_midW rfl 57 _ rfl (w.heap.size) 0 rfl (s.setR true s.p.b.rg.gave).p.c.toList _ HRP.out Tryd.underlying57 rfl (vio14_sizeL _) ?_))
  refine (HU.out _).mono ?_
  rintro e wu ⟨rfl, hb⟩
  have HE13 := Lib.hid (HE6.out.below hb)
  clear HE6
  have K14 := Lib.hid (keepB K11.out hb)
  clear K11
  have K15 := Lib.hid (keepB K8.out hb)
  clear K8
  have K16 := Lib.hid (keepB K9.out hb)
  clear K9
  have K17 := Lib.hid (keepB K10.out hb)
  clear K10
  have HB18 := Lib.hid (HB12.out.trans (hb.mono HB12.out.size))
  clear HB12
  clear hb HRP HU
  go_wp2_with (first | go_skip | (refine wpList_store_mid_to rfl 57 _ _ rfl (w.heap.size) 0 (s.setR true s.p.b.rg.gave).p.used.c rfl rfl 59 (s.setR true s.p.b.rg.gave).c K14.out (by show 0 + 21 ≤ 23; omega) (vio14_size _) (VS.c_one _) ?_))
  intro wv hx hkk
  rw [put_p] at hkk
  have HE19 := Lib.hid (HE13.out.kx hx.out (fun k e => .inl (.inr (by omega))))
  clear HE13
  have K20 := Lib.hid (hx.out.heap K15.out (by omega))
  clear K15
  have K21 := Lib.hid (hx.out.heap K16.out (by omega))
  clear K16
  have K22 := Lib.hid (hx.out.heap K17.out (by omega))
  clear K17
  have K23 := Lib.hid hkk
  clear hkk K14
  have HB24 := Lib.hid (HB18.out.trans (hx.out.below (B := w.heap.size) (fun k hk e => by omega) HB18.out.size))
  clear HB18 hx
  go_upto_region 7 with fail
  have HO25 := Lib.hid (show (({ (s.setR true s.p.b.rg.gave) with p := (s.setR true s.p.b.rg.gave).p.used } : NS).c : Array Value).all (·.oneCell') = true from (NS.c_one _))
  have HO26 := Lib.hid (show (C1 : Array Value).all (·.oneCell') = true from HC1o.out.2)
  refine wp_region_held_drew (S := KX (fun k => k = w.heap.size + 1 + 1 ∨ k = w.heap.size + 1 + 1 + 1) wv) (by kernel_rfl) ((KX.refl (fun k => k = w.heap.size + 1 + 1 ∨ k = w.heap.size + 1 + 1 + 1) wv).drew) (fun hHeld => ?_)
  refine wpAnyH_take (i := 0) rfl (by kernel_rfl) (by kernel_rfl) (by kernel_rfl) (fun _ _ _ h => h) (yieldsIf_load_mid (by rfl) 59 _ rfl (w.heap.size) 0 rfl (({ (s.setR true s.p.b.rg.gave) with p := (s.setR true s.p.b.rg.gave).p.used } : NS).c).toList _ (fun W hSw => range_of_all (hSw.heap K23.out (by omega))) Tryd.underlying59 rfl ?hi0t) (by assumption) ?rest0t
  case hi0t => exact (nic16_size _)
  simp only [Act.put, List.getElem_toArray, List.getElem_cons_zero, List.setIfInBounds_toArray, List.set_cons_zero, List.set_cons_succ]
  refine wpAnyH_take (i := 1) rfl (by kernel_rfl) (by kernel_rfl) (by kernel_rfl) (fun _ _ _ h => h) (yieldsIf_load_mid (by rfl) 65 _ rfl (w.heap.size + 1) 0 rfl (C1).toList _ (fun W hSw => range_of_all (hSw.heap K20.out (by omega))) Tryd.underlying65 rfl ?hi1t) (by assumption) ?rest1t
  case hi1t => exact HC1.out
  simp only [Act.put, List.getElem_toArray, List.getElem_cons_zero, List.getElem_cons_succ, List.setIfInBounds_toArray, List.set_cons_zero, List.set_cons_succ]
  refine wpAnyH_two_stores (i := 2) (j := 3) (w.heap.size + 1 + 1) (w.heap.size + 1 + 1 + 1) (({ (s.setR true s.p.b.rg.gave) with p := (s.setR true s.p.b.rg.gave).p.used } : NS).c) (C1) (NS.zero.c) (#[(.slice none 0 0 : Value), .slice none 0 0, .int .i64 0]) 59 65 rfl rfl (by kernel_rfl) (by kernel_rfl) rfl rfl rfl rfl 59 65 _ _ _ _ rfl rfl rfl rfl rfl rfl K21.out K22.out (nic16_size _) HC1.out rfl (by rw [HC1o.out.1]; rfl) HO25.out HO26.out (by omega) hHeld ?_
  intro w27 hx hk1 hk2
  clear hHeld
  try simp only [List.setIfInBounds_toArray, List.set_cons_zero, List.set_cons_succ]
  refine wpAnyH_done (by kernel_rfl) ?_ _
  have HE28 := Lib.hid (HE19.out.kx hx (fun k e => .inl (.inr (by omega))))
  clear HE19
  have K29 := Lib.hid (hx.heap K23.out (by omega))
  clear K23
  have K30 := Lib.hid (hx.heap K20.out (by omega))
  clear K20
  have K31 := Lib.hid hk1
  clear K21 hk1
  have K32 := Lib.hid hk2
  clear K22 hk2
  have HB33 := Lib.hid (HB24.out.trans (hx.below (B := w.heap.size) (fun k hk e => by omega) HB24.out.size))
  clear HB24 hx
  go_wp2_with fail
  exact bodyPost_ret (v := .tuple #[.agg ({ (s.setR true s.p.b.rg.gave) with p := (s.setR true s.p.b.rg.gave).p.used } : NS).c, .agg C1]) (results_2cell Tryd.results52 _ _ (w.heap.size + 1 + 1) (w.heap.size + 1 + 1 + 1) 59 65 ({ (s.setR true s.p.b.rg.gave) with p := (s.setR true s.p.b.rg.gave).p.used } : NS).c C1 (0, 0) (0, 0) _ _ rfl rfl K31.out K32.out Tryd.underlying59 rfl (nic16_size _) Tryd.underlying65 rfl HC1.out) rfl ⟨_, rfl, HE28.out.weak (fun k hk => .inl hk), HB33.out⟩
/-- A chain given back by the document's net device, in the document's memory. -/
theorem ref16_give {B : Nat} {F : Nat → Prop} {v : Value} {m : Mm} {w : World} (s : NS) (one : Bool) (hs : s.p.wf) (hd n : Nat) (hok : (s.q one).rg.okP) (hdl : (hd : Int) < (s.q one).rg.size) (hn : n < 2147483648) (h : RefF w B v m F) (hF : ∀ k, F k → k < w.heap.size) (hB : B ≤ w.heap.size) :
    Calls Tryd.prog 52 #[.agg s.c, v, .int .i64 (qN one : Nat), .int .i64 hd, .int .i64 n] w fun e w' => ∃ v', e = .returned (.tuple #[.agg (s.gave one (rgive (s.q one).rg m hd n).1).c, v']) ∧ RefF w' B v' (rgive (s.q one).rg m hd n).2 F ∧ Below w.heap.size w w' := by
  obtain ⟨rc, rfl, hrc, hro⟩ := h.form
  have hq : (s.q one).wf := by cases one; exact hs.ha; exact hs.hb
  have hwn : IntKind.u32.wrap (n : Int) = (n : Int) := by rw [IntKind.wrap_u32]; omega
  have HG : ∀ (W : World) (G : Nat → Prop), RefF W B (.agg rc) m G → (∀ k, G k → k < W.heap.size) → B ≤ W.heap.size → Calls Tryd.prog 89 #[.agg (s.q one).rg.c, .agg rc, .int .i64 hd, .int .u32 (IntKind.u32.wrap (n : Int))] W fun e w' => ∃ v', e = .returned (.tuple #[.agg (if (rgive (s.q one).rg m hd n).1 = true then (s.q one).rg.gave.c else Rg.zero.c), v', .int .i64 ((if (rgive (s.q one).rg m hd n).1 = true then 0 else 22 : Nat) : Int)]) ∧ RefF w' B v' (rgive (s.q one).rg m hd n).2 G ∧ Below W.heap.size W w' := fun W G x y z => by
    rw [hwn]
    exact ref13_Give _ (VQ.rg_wf hq) hok hd n (by omega) hdl x y z
  cases hg : (rgive (s.q one).rg m hd n).1
  · rw [hg] at HG
    have HU : ∀ W, Calls Tryd.prog 51 #[.agg s.p.c.toList.toArray] W fun e w' => e = .returned (.agg s.p.fail.c) ∧ Below W.heap.size W w' := fun W => by
      rw [Array.toArray_toList]
      exact ref14_Fail s.p hs.hst hs.hirq W
    cases one
    · exact ref16_give0_no s hs hd n hn rc hrc hro w h hF hB (Lib.hid HG) (Lib.hid HU)
    · exact ref16_give1_no s hs hd n hn rc hrc hro w h hF hB (Lib.hid HG) (Lib.hid HU)
  · rw [hg] at HG
    have HU : ∀ W, Calls Tryd.prog 90 #[.agg (s.setR one (s.q one).rg.gave).p.c.toList.toArray] W fun e w' => e = .returned (.agg (s.setR one (s.q one).rg.gave).p.used.c) ∧ Below W.heap.size W w' := fun W => by
      rw [Array.toArray_toList]
      refine ref14_Used _ ?_ W
      cases one <;> exact hs.hirq
    cases one
    · exact ref16_give0_ok s hs hd n hn rc hrc hro w h hF hB (Lib.hid HG) (Lib.hid HU)
    · exact ref16_give1_ok s hs hd n hn rc hrc hro w h hF hB (Lib.hid HG) (Lib.hid HU)
end Go.Proofs.YtcmbnkmbaghkdaaDoor
