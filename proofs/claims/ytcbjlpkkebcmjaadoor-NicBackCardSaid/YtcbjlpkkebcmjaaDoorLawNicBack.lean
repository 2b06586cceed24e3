/-
pinnacelaw16.NicBack, walked: it answers true.
Condition: the table of regions of package bus reads as its text lays it.
-/
import Derived.Test.YtcbjlpkkebcmjaaDoorNicBackLaw
import Derived.Test.YtcbjlpkkebcmjaaDoorSure16
import Derived.Test.YtcbjlpkkebcmjaaDoorLawKitB
import Derived.Test.YtcbjlpkkebcmjaaDoorOpenFrames
namespace Go.Proofs.YtcbjlpkkebcmjaaDoor
open Go.RowKit
set_option linter.unusedVariables false

theorem nb_cut (x : Int) (n : Nat) (hn : n ≤ 1000) : ∃ c : Nat, c ≤ 12 + n ∧ (IntKind.u64.wrap x).tmod (12 + (n : Int) + 1) % 4294967296 = (c : Int) := by
  have hw : 0 ≤ IntKind.u64.wrap x := by rw [IntKind.wrap_u64]; omega
  generalize IntKind.u64.wrap x = y at hw
  rw [Int.tmod_eq_emod_of_nonneg hw]
  have h3 := Int.emod_nonneg y (show 12 + (n : Int) + 1 ≠ 0 by omega)
  have h4 := Int.emod_lt_of_pos y (show 0 < 12 + (n : Int) + 1 by omega)
  generalize y % (12 + (n : Int) + 1) = z at h3 h4
  exact ⟨z.toNat, by omega, by omega⟩
theorem nb_pairs (c e : Nat) (hc : c < 4294967296) (he : e < 4294967296) : ∀ (k : Nat) (x : Nat × Nat), (nbW c e)[k]? = some x → x.1 < 4294967296 ∧ x.2 < 4294967296 := fun k x hk => by
  match k, hk with
  | 0, hk => obtain rfl : (0, 2147487744) = x := by simpa [nbW] using hk
             exact ⟨by decide, by decide⟩
  | 1, hk => obtain rfl : (8, c) = x := by simpa [nbW] using hk
             exact ⟨by show 8 < _; decide, hc⟩
  | 2, hk => obtain rfl : (12, 65539) = x := by simpa [nbW] using hk
             exact ⟨by decide, by decide⟩
  | 3, hk => obtain rfl : (16, 2147489792) = x := by simpa [nbW] using hk
             exact ⟨by decide, by decide⟩
  | 4, hk => obtain rfl : (24, e) = x := by simpa [nbW] using hk
             exact ⟨by show 24 < _; decide, he⟩
  | 5, hk => obtain rfl : (28, 2) = x := by simpa [nbW] using hk
             exact ⟨by decide, by decide⟩
  | 6, hk => obtain rfl : (256, 65536) = x := by simpa [nbW] using hk
             exact ⟨by decide, by decide⟩
  | k + 7, hk => simp [nbW] at hk
theorem irq_cell {W : World} {b : Nat} {s : NS} (h : W.heap[b]? = some (.cells s.c 87 (0, 0))) (hi : s.p.irq = 1) : W.cell? ⟨b, 4, none⟩ = some (.int .u32 1) := (cell_of_row _ _ 4 _ _ _ h).trans (by show some (Value.int .u32 (s.p.irq : Int)) = _; rw [hi]; rfl)
theorem BytesLie.free {w W : World} {ao : Option Addr} {l : List UInt8} (h : BytesLie w ao l) (hb : Below w.heap.size w W) : BytesAt W ao l (fun _ => False) := fun hne => by
  obtain ⟨b, o, rfl, hb2, hc⟩ := h hne
  exact ⟨b, o, rfl, Nat.lt_of_lt_of_le hb2 hb.size, id, fun j x hj => hc W hb j x hj⟩
/-- What the last row of NicBack reads. -/
structure BackS (W : World) (p : Option Addr) (fr : List UInt8) (q b o : Nat) (cp : Nat) (bt : Nat) (s : NS) : Prop where
  fb : BytesAt W p fr (fun _ => False)
  cq : W.cell? ⟨q, 0, none⟩ = some (.slice (some ⟨b, o, none⟩) fr.length cp)
  fb2 : BytesAt W (some ⟨b, o, none⟩) fr (fun _ => False)
  ci : W.cell? ⟨bt, 4, none⟩ = some (.int .u32 1)
set_option maxRecDepth 100000 in
set_option maxHeartbeats 16000000 in
theorem law_NicBack (p : Option Addr) (fr : List UInt8) (fc : Nat) (ct : Int) (w : World) (HBL : BytesLie w p fr) (hfc : fr.length ≤ fc) (hfm : fc ≤ maxLen) (hr : RegAt w) :
    Calls Tryd.prog 7 #[.slice p fr.length fc, .int .i64 ct] w fun e w' => e = .returned (.bool true) ∧ Below w.heap.size w w' := by
  have HRG := Lib.hid hr
  have HB := Lib.hid HBL
  have HFC := Lib.hid hfc
  have hnm : (fr.length : Int) ≤ 9223372036854775807 := by simp only [maxLen] at hfm; omega
  obtain ⟨n, hn⟩ : ∃ n, n = fr.length := ⟨_, rfl⟩
  rw [← hn] at hnm ⊢
  have HN := Lib.hid hn
  have hn0 : (0 : Int) ≤ (n : Int) := by omega
  have HSU := Lib.hid (fun W (hb : Below w.heap.size w W) => sure16_ok W (HRG.out.below hb))
  clear hr HBL hfc hfm hn
  by_cases hlo : 1 ≤ n
  · by_cases hhi : n ≤ 1000
    · obtain ⟨c, hcl, hce⟩ := nb_cut ct n hhi
      have h1' : (1 : Int) ≤ (n : Int) := by omega
      have h2' : (n : Int) ≤ 1000 := by omega
      obtain ⟨N, hN⟩ : ∃ N : Nat, N = 12 + n := ⟨_, rfl⟩
      obtain ⟨e, he⟩ : ∃ e : Nat, e = N - c := ⟨_, rfl⟩
      have HCE : Hid (c + e = 12 + fr.length ∧ 1 ≤ fr.length ∧ fr.length ≤ 1000) := Lib.hid (by rw [← HN.out]; omega)
      have HN2 := Lib.hid hN
      have HE2 := Lib.hid he
      have HCL := Lib.hid hcl
      have HCT := Lib.hid hce
      clear hlo hhi hcl hce hN he
      go_enter Tryd.func7, Tryd.ntmps7
      go_upto_region 5 with fail
      rw [HCT.out, show 12 + (n : Int) = (N : Int) by have := HN2.out; omega]
      have hsub : (N : Int) - (c : Int) = (e : Int) := by have := HE2.out; have := HN2.out; have := HCL.out; omega
      have hc0 : (0 : Int) ≤ (c : Int) := by omega
      have hcN : (c : Int) ≤ (N : Int) := by have := HN2.out; have := HCL.out; omega
      have hN3 : (N : Int) ≤ 1012 := by have := HN2.out; omega
      have he0 : (0 : Int) ≤ (e : Int) := by omega
      have K0 := Lib.hid (heap_alloc_new w (.cells #[.int .u32 0, .int .u32 2147487744, .int .u32 8, .int .u32 (c : Int), .int .u32 12, .int .u32 65539, .int .u32 16, .int .u32 2147489792, .int .u32 24, .int .u32 (e : Int), .int .u32 28, .int .u32 2, .int .u32 256, .int .u32 65536] 49))
      have HB0 := Lib.hid ((Below.refl w.heap.size w).alloc (Nat.le_refl _) (.cells #[.int .u32 0, .int .u32 2147487744, .int .u32 8, .int .u32 (c : Int), .int .u32 12, .int .u32 65539, .int .u32 16, .int .u32 2147489792, .int .u32 24, .int .u32 (e : Int), .int .u32 28, .int .u32 2, .int .u32 256, .int .u32 65536] 49))
      go_wp2_with fail
      clear hsub
      generalize w.alloc (.cells #[.int .u32 0, .int .u32 2147487744, .int .u32 8, .int .u32 (c : Int), .int .u32 12, .int .u32 65539, .int .u32 16, .int .u32 2147489792, .int .u32 24, .int .u32 (e : Int), .int .u32 28, .int .u32 2, .int .u32 256, .int .u32 65536] 49) = w1 at K0 HB0 ⊢
      have HBO := Lib.hid (both_ok (some ⟨w.heap.size, 0, none⟩) (nbW c e) 7 w1 (pairs_of_row (b := w.heap.size) (l := nbW c e) (t := 49) K0.out (nb_pairs c e (by have := HCL.out; omega) (by have := HE2.out; omega))) (by simp [nbW, maxLen]))
      refine (HBO.out).mono ?_
      rintro e' w2 ⟨g, F2, v, rfl, h1, h2⟩
      have L2 : Hid (LawMem w w2 g (layL (nbW c e)) F2) := Lib.hid (h1.back HB0.out)
      obtain ⟨C, rfl, hCs, hC1⟩ := h2.form
      have HCS := Lib.hid (And.intro hCs hC1)
      clear h1 h2 hCs hC1 HBO K0 HB0
      have K2 := Lib.hid (heap_alloc_new w2 (.cells #[.slice none 0 0, .slice none 0 0, .int .i64 0] 83))
      have L2a := Lib.hid (L2.out.below ((Below.refl w2.heap.size w2).alloc (Nat.le_refl _) (.cells #[.slice none 0 0, .slice none 0 0, .int .i64 0] 83)))
      have HX2 := Lib.hid (And.intro L2.out.fr.size (show ¬ F2 w2.heap.size from fun hf => absurd (L2.out.ram.lt _ hf) (Nat.lt_irrefl _)))
      go_wp2_with (refine wpList_store_to rfl 83 _ _ rfl w2.heap.size C rfl rfl 83 #[.slice none 0 0, .slice none 0 0, .int .i64 0] K2.out (by rw [HCS.out.1]; kernel_rfl) (by rw [HCS.out.1]; rfl) HCS.out.2 ?_)
      intro w3 hx hk
      have L3 := Lib.hid (L2a.out.own hx.out HX2.out.1 HX2.out.2)
      clear hx hk K2 L2a HX2 L2
      go_wp2_with fail
      refine (live16_0 _).mono ?_
      rintro e' w4 ⟨rfl, hb⟩
      have L4 := Lib.hid (L3.out.below hb)
      clear hb L3
      obtain ⟨s1, m1, et, hirq, hch, hcut⟩ := nb_take fr c e HCE.out.2.1 HCE.out.2.2 HCE.out.1
      have HTK : Hid (Calls Tryd.prog 51 #[.agg (liveS false).c, .pointer (some ⟨g, 0, none⟩), .slice p n fc] w4 fun e w' => ∃ F2', e = .returned (.tuple #[.agg s1.c, .bool true, .nilIface]) ∧ RamIs w' g m1 F2' ∧ MemStep F2 F2' w4 w') := Lib.hid (by
        have := nic_Take (liveS false) (liveS_wf false) (by decide) p fr fc L4.out.ram (L4.out.regs HRG.out).1 (L4.out.regs HRG.out).2 (HB.out.atL L4.out) HFC.out
        rw [et, ← HN.out] at this
        exact this)
      have HI1 := Lib.hid hirq
      have HCH := Lib.hid (And.intro hch hcut)
      clear et hirq hch hcut
      go_wp2_with fail
      refine (HTK.out).mono ?_
      rintro e' w5 ⟨F5, rfl, h1, h2⟩
      have L5 := Lib.hid (L4.out.step h1 h2)
      clear h1 h2 HTK L4
      have K5 := Lib.hid (heap_alloc_new w5 (.cells #[.int .u32 0, .int .u32 0, .int .u32 0, .int .u32 0, .int .u32 0, .int .u32 0, .int .u32 0, .bool false, .int .i64 0, .int .u32 0, .int .u32 0, .int .u32 0, .int .u16 0, .int .u16 0, .bool false, .int .i64 0, .int .u32 0, .int .u32 0, .int .u32 0, .int .u16 0, .int .u16 0, .bool false, .int .u32 0] 87))
      have L5a := Lib.hid (L5.out.below ((Below.refl w5.heap.size w5).alloc (Nat.le_refl _) (.cells #[.int .u32 0, .int .u32 0, .int .u32 0, .int .u32 0, .int .u32 0, .int .u32 0, .int .u32 0, .bool false, .int .i64 0, .int .u32 0, .int .u32 0, .int .u32 0, .int .u16 0, .int .u16 0, .bool false, .int .i64 0, .int .u32 0, .int .u32 0, .int .u32 0, .int .u16 0, .int .u16 0, .bool false, .int .u32 0] 87)))
      have HX5 := Lib.hid (And.intro L5.out.fr.size (show ¬ F5 w5.heap.size from fun hf => absurd (L5.out.ram.lt _ hf) (Nat.lt_irrefl _)))
      have HO1 := Lib.hid s1.c_one
      clear L5
      go_wp2_with (refine wpList_store_to rfl 87 _ _ rfl w5.heap.size s1.c rfl rfl 87 NS.zero.c K5.out (nic_size _) rfl HO1.out ?_)
      intro w6 hx hk
      have L6 := Lib.hid (L5a.out.own hx.out HX5.out.1 HX5.out.2)
      have c4 := irq_cell hk HI1.out
      clear hx hk K5 L5a HX5 HI1
      have HN1 : Hid (m1.n = 2) := Lib.hid HCH.out.1.n
      have HST := Lib.hid (store_at L6.out.ram 12 4 65537 12 4 65537 rfl rfl rfl (by omega) (.inr (.inr rfl)) (by rw [HN1.out]; omega) (by omega))
      go_wp2_with fail
      refine (HST.out).mono ?_
      rintro e' w7 ⟨F7, rfl, h1, h2⟩
      have L7 := Lib.hid (L6.out.step h1 h2)
      clear h1 h2 HST L6 c4
      have HST := Lib.hid (store_at L7.out.ram 28 4 0 28 4 0 rfl rfl rfl (by omega) (.inr (.inr rfl)) (by rw [store_nG, HN1.out]; omega) (by omega))
      go_wp2_with fail
      refine (HST.out).mono ?_
      rintro e' w8 ⟨F8, rfl, h1, h2⟩
      have L8 := Lib.hid (L7.out.step h1 h2)
      clear h1 h2 HST L7
      go_wp2_with fail
      refine (live16_1 _).mono ?_
      rintro e' w9 ⟨rfl, hb⟩
      have L9 := Lib.hid (L8.out.below hb)
      clear hb L8
      obtain ⟨s2, m3, es, hirq⟩ := nb_send HCH.out.1 HCE.out.2.1 HCE.out.2.2 HCE.out.1 HCH.out.2
      have HSN : Hid (Calls Tryd.prog 36 #[.agg (liveS true).c, .pointer (some ⟨g, 0, none⟩)] w9 (SendPost w9 g F8 (s2, m3, [fr]))) := Lib.hid (by
        have := nic_Send (liveS true) (liveS_wf true) L9.out.ram (L9.out.regs HRG.out).1 (L9.out.regs HRG.out).2
        rw [es] at this
        exact this)
      have HI2 := Lib.hid hirq
      clear es hirq
      go_wp2_with fail
      refine (HSN.out).mono ?_
      rintro e' w10 ⟨fv, vs, F10, rfl, h1, h2, h3, h4, h5, h6⟩
      have L10 := Lib.hid (L9.out.step h1 h2)
      have hv1 : vs.length = 1 := by rw [← h4]; rfl
      obtain ⟨fg, cv, rfl, hfg, hcl⟩ : ∃ fg cv, fv = .slice (some ⟨fg, 0, none⟩) 1 cv ∧ fg < w10.heap.size ∧ w10.cell? ⟨fg, 0, none⟩ = vs[0]? := by
        rcases h3.2 with ⟨rfl, he⟩ | ⟨q, cap, cur, rfl, hg, hh, hc, _⟩
        · omega
        · exact ⟨q, cap, by rw [hv1], lt_heap hh, h3.cellAt 0 (by omega)⟩
      obtain ⟨b, o, cp, hq1, hq2, hq3, hq4, hq5⟩ := h6 0 fr rfl
      rw [hq1] at hcl
      have HSS : Hid (BytesAt w10 p fr (fun _ => False) ∧ fg < w10.heap.size ∧ w10.cell? ⟨fg, 0, none⟩ = some (.slice (some ⟨b, o, none⟩) fr.length cp) ∧ BytesAt w10 (some ⟨b, o, none⟩) fr (fun _ => False)) := Lib.hid ⟨HB.out.free L10.out.fr, hfg, hcl, fun _ => ⟨b, o, rfl, hq3, id, fun j y hj => hq5 j y hj⟩⟩
      clear h1 h2 h3 h4 h5 h6 hq1 hq2 hq3 hq4 hq5 hfg hcl HSN L9 hv1
      have K10 := Lib.hid (heap_alloc_new w10 (.cells #[.int .u32 0, .int .u32 0, .int .u32 0, .int .u32 0, .int .u32 0, .int .u32 0, .int .u32 0, .bool false, .int .i64 0, .int .u32 0, .int .u32 0, .int .u32 0, .int .u16 0, .int .u16 0, .bool false, .int .i64 0, .int .u32 0, .int .u32 0, .int .u32 0, .int .u16 0, .int .u16 0, .bool false, .int .u32 0] 87))
      have HBA := Lib.hid ((Below.refl w10.heap.size w10).alloc (Nat.le_refl _) (.cells #[.int .u32 0, .int .u32 0, .int .u32 0, .int .u32 0, .int .u32 0, .int .u32 0, .int .u32 0, .bool false, .int .i64 0, .int .u32 0, .int .u32 0, .int .u32 0, .int .u16 0, .int .u16 0, .bool false, .int .i64 0, .int .u32 0, .int .u32 0, .int .u32 0, .int .u16 0, .int .u16 0, .bool false, .int .u32 0] 87))
      have HO2 := Lib.hid s2.c_one
      have HLT := Lib.hid HSS.out.2.1
      go_wp2_with (refine wpList_store_to rfl 87 _ _ rfl w10.heap.size s2.c rfl rfl 87 NS.zero.c K10.out (nic_size _) rfl HO2.out ?_)
      intro w11 hx hk
      have HB11 : Hid (Below w10.heap.size w10 w11) := Lib.hid (HBA.out.trans (hx.out.below (fun k hk e => by omega) (by simp)))
      have c4 := irq_cell hk HI2.out
      have HS11 : Hid (∀ W, Below w11.heap.size w11 W → BackS W p fr fg b o cp w10.heap.size s2) := Lib.hid (fun W hb => ⟨HB.out.free (L10.out.fr.trans ((HB11.out.trans (hb.mono HB11.out.size)).mono L10.out.fr.size)), ((HB11.out.trans (hb.mono HB11.out.size)).cell (p := ⟨fg, 0, none⟩) HSS.out.2.1).trans HSS.out.2.2.1, (fun hne => by
        obtain ⟨b', o', g1, g2, g3, g4⟩ := HSS.out.2.2.2 hne
        exact ⟨b', o', g1, Nat.lt_of_lt_of_le g2 (HB11.out.trans (hb.mono HB11.out.size)).size, g3, fun j x hj => ((HB11.out.trans (hb.mono HB11.out.size)).cell (p := ⟨b', o' + j, none⟩) g2).trans (g4 j x hj)⟩), (hb.cell (p := ⟨w10.heap.size, 4, none⟩) (lt_heap hk)).trans c4⟩)
      have HF11 : Hid (Below w.heap.size w w11) := Lib.hid (L10.out.fr.trans (HB11.out.mono L10.out.fr.size))
      have HSU11 := Lib.hid (HSU.out w11.drew HF11.out.drew)
      clear hx hk c4 K10 HBA L10 HB11 HSS HSU HLT
      generalize w10.heap.size = bt at HS11 ⊢
      go_wp2_with fail
      refine wp_region_held_drew (S := fun W => BackS W p fr fg b o cp bt s2) (by kernel_rfl) (HS11.out _ (Below.refl _ _).drew) (fun hH0 => ?_)
      refine wpAnyH_take (i := 0) (v := ?v0) rfl (by kernel_rfl) (by kernel_rfl) (by kernel_rfl) (fun _ _ _ h => h) (Or.inl ⟨by rfl, ?hy0⟩) (by assumption) ?rest0
      case hy0 => (intro W hSw; go_simp; first | done | with_reducible rfl)
      simp only [Act.put, List.getElem_toArray, List.getElem_cons_zero, List.setIfInBounds_toArray, List.set_cons_zero, List.set_cons_succ]
      refine wpAnyH_take (i := 1) (v := ?v1) rfl (by kernel_rfl) (by kernel_rfl) (by kernel_rfl) (fun _ _ _ h => h) (Or.inl ⟨by rfl, ?hy1⟩) (by assumption) ?rest1
      case hy1 => (intro W hSw; go_simp; first | done | with_reducible rfl)
      simp only [Act.put, List.getElem_toArray, List.getElem_cons_zero, List.getElem_cons_succ, List.setIfInBounds_toArray, List.set_cons_zero, List.set_cons_succ]
      refine wpAnyH_take (i := 2) (v := ?v2) rfl (by kernel_rfl) (by kernel_rfl) (by kernel_rfl) (fun _ _ _ h => h) (Or.inl ⟨by rfl, ?hy2⟩) (by assumption) ?rest2
      case hy2 => (intro W hSw; go_simp; first | done | with_reducible rfl)
      simp only [Act.put, List.getElem_toArray, List.getElem_cons_zero, List.getElem_cons_succ, List.setIfInBounds_toArray, List.set_cons_zero, List.set_cons_succ]
      refine wpAnyH_take (i := 3) (v := ?v3) rfl (by kernel_rfl) (by kernel_rfl) (by kernel_rfl) (fun _ _ _ h => h) (Or.inl ⟨by rfl, ?hy3⟩) (by assumption) ?rest3
      case hy3 => (intro W hSw; go_simp; first | done | with_reducible rfl)
      simp only [Act.put, List.getElem_toArray, List.getElem_cons_zero, List.getElem_cons_succ, List.setIfInBounds_toArray, List.set_cons_zero, List.set_cons_succ]
      refine wpAnyH_take (i := 4) (v := ?v4) rfl (by kernel_rfl) (by kernel_rfl) (by kernel_rfl) (fun _ _ _ h => h) (Or.inl ⟨by rfl, ?hy4⟩) (by assumption) ?rest4
      case hy4 => (intro W hSw; go_simp; first | done | with_reducible rfl)
      simp only [Act.put, List.getElem_toArray, List.getElem_cons_zero, List.getElem_cons_succ, List.setIfInBounds_toArray, List.set_cons_zero, List.set_cons_succ]
      refine wpAnyH_take (i := 5) (v := ?v5) rfl (by kernel_rfl) (by kernel_rfl) (by kernel_rfl) (fun _ _ _ h => h) (Or.inl ⟨by rfl, ?hy5⟩) (by assumption) ?rest5
      case hy5 => (intro W hSw; go_simp; first | done | with_reducible rfl)
      simp only [Act.put, List.getElem_toArray, List.getElem_cons_zero, List.getElem_cons_succ, List.setIfInBounds_toArray, List.set_cons_zero, List.set_cons_succ]
      refine wpAnyH_take (i := 6) (v := ?v6) rfl (by kernel_rfl) (by kernel_rfl) (by kernel_rfl) (fun _ _ _ h => h) (Or.inl ⟨by rfl, ?hy6⟩) (by assumption) ?rest6
      case hy6 => (intro W hSw; have hc := hSw.cq; go_simp; first | done | with_reducible rfl)
      simp only [Act.put, List.getElem_toArray, List.getElem_cons_zero, List.getElem_cons_succ, List.setIfInBounds_toArray, List.set_cons_zero, List.set_cons_succ]
      refine wpAnyH_take (i := 7) (v := ?v7) rfl (by kernel_rfl) (by kernel_rfl) (by kernel_rfl) (fun _ _ _ h => h) (Or.inl ⟨by rfl, ?hy7⟩) (by assumption) ?rest7
      case hy7 => (intro W hSw; have hstr := str_of_bytes (cap := cp) hSw.fb2; go_simp; first | done | with_reducible rfl)
      simp only [Act.put, List.getElem_toArray, List.getElem_cons_zero, List.getElem_cons_succ, List.setIfInBounds_toArray, List.set_cons_zero, List.set_cons_succ]
      refine wpAnyH_take (i := 8) (v := ?v8) rfl (by kernel_rfl) (by kernel_rfl) (by kernel_rfl) (fun _ _ _ h => h) (Or.inl ⟨by rfl, ?hy8⟩) (by assumption) ?rest8
      case hy8 => (intro W hSw; go_simp; first | done | with_reducible rfl)
      simp only [Act.put, List.getElem_toArray, List.getElem_cons_zero, List.getElem_cons_succ, List.setIfInBounds_toArray, List.set_cons_zero, List.set_cons_succ]
      refine wpAnyH_take (i := 9) (v := ?v9) rfl (by kernel_rfl) (by kernel_rfl) (by kernel_rfl) (fun _ _ _ h => h) (Or.inl ⟨by rfl, ?hy9⟩) (by assumption) ?rest9
      case hy9 => (intro W hSw; have hstr := str_of_bytes (cap := fc) hSw.fb; rw [← HN.out] at hstr; go_simp; first | done | with_reducible rfl)
      simp only [Act.put, List.getElem_toArray, List.getElem_cons_zero, List.getElem_cons_succ, List.setIfInBounds_toArray, List.set_cons_zero, List.set_cons_succ]
      refine wpAnyH_take (i := 10) (v := ?v10) rfl (by kernel_rfl) (by kernel_rfl) (by kernel_rfl) (fun _ _ _ h => h) (Or.inl ⟨by rfl, ?hy10⟩) (by assumption) ?rest10
      case hy10 => (intro W hSw; go_simp; first | done | with_reducible rfl)
      simp only [Act.put, List.getElem_toArray, List.getElem_cons_zero, List.getElem_cons_succ, List.setIfInBounds_toArray, List.set_cons_zero, List.set_cons_succ]
      refine wpAnyH_take (i := 11) (v := ?v11) rfl (by kernel_rfl) (by kernel_rfl) (by kernel_rfl) (fun _ _ _ h => h) (Or.inl ⟨by rfl, ?hy11⟩) (by assumption) ?rest11
      case hy11 => (intro W hSw; go_simp; first | done | with_reducible rfl)
      simp only [Act.put, List.getElem_toArray, List.getElem_cons_zero, List.getElem_cons_succ, List.setIfInBounds_toArray, List.set_cons_zero, List.set_cons_succ]
      refine wpAnyH_take (i := 12) (v := ?v12) rfl (by kernel_rfl) (by kernel_rfl) (by kernel_rfl) (fun _ _ _ h => h) (Or.inl ⟨by rfl, ?hy12⟩) (by assumption) ?rest12
      case hy12 => (intro W hSw; go_simp; first | done | with_reducible rfl)
      simp only [Act.put, List.getElem_toArray, List.getElem_cons_zero, List.getElem_cons_succ, List.setIfInBounds_toArray, List.set_cons_zero, List.set_cons_succ]
      refine wpAnyH_take (i := 13) (v := ?v13) rfl (by kernel_rfl) (by kernel_rfl) (by kernel_rfl) (fun _ _ _ h => h) (Or.inl ⟨by rfl, ?hy13⟩) (by assumption) ?rest13
      case hy13 => (intro W hSw; go_simp; first | done | with_reducible rfl)
      simp only [Act.put, List.getElem_toArray, List.getElem_cons_zero, List.getElem_cons_succ, List.setIfInBounds_toArray, List.set_cons_zero, List.set_cons_succ]
      refine wpAnyH_take (i := 14) (v := ?v14) rfl (by kernel_rfl) (by kernel_rfl) (by kernel_rfl) (fun _ _ _ h => h) (Or.inl ⟨by rfl, ?hy14⟩) (by assumption) ?rest14
      case hy14 => (intro W hSw; go_simp; first | done | with_reducible rfl)
      simp only [Act.put, List.getElem_toArray, List.getElem_cons_zero, List.getElem_cons_succ, List.setIfInBounds_toArray, List.set_cons_zero, List.set_cons_succ]
      refine wpAnyH_take (i := 15) (v := ?v15) rfl (by kernel_rfl) (by kernel_rfl) (by kernel_rfl) (fun _ _ _ h => h) (Or.inl ⟨by rfl, ?hy15⟩) (by assumption) ?rest15
      case hy15 => (intro W hSw; have hc := hSw.ci; go_simp; first | done | with_reducible rfl)
      simp only [Act.put, List.getElem_toArray, List.getElem_cons_zero, List.getElem_cons_succ, List.setIfInBounds_toArray, List.set_cons_zero, List.set_cons_succ]
      refine wpAnyH_take (i := 16) (v := ?v16) rfl (by kernel_rfl) (by kernel_rfl) (by kernel_rfl) (fun _ _ _ h => h) (Or.inl ⟨by rfl, ?hy16⟩) (by assumption) ?rest16
      case hy16 => (intro W hSw; go_simp; first | done | with_reducible rfl)
      simp only [Act.put, List.getElem_toArray, List.getElem_cons_zero, List.getElem_cons_succ, List.setIfInBounds_toArray, List.set_cons_zero, List.set_cons_succ]
      refine wpAnyH_take (i := 17) (v := ?v17) rfl (by kernel_rfl) (by kernel_rfl) (by kernel_rfl) (fun _ _ _ h => h) (Or.inl ⟨by rfl, ?hy17⟩) (by assumption) ?rest17
      case hy17 => (intro W hSw; go_simp; first | done | with_reducible rfl)
      simp only [Act.put, List.getElem_toArray, List.getElem_cons_zero, List.getElem_cons_succ, List.setIfInBounds_toArray, List.set_cons_zero, List.set_cons_succ]
      refine wpAnyH_take (i := 18) (v := ?v18) rfl (by kernel_rfl) (by kernel_rfl) (by kernel_rfl) (fun _ _ _ h => h) (Or.inl ⟨by rfl, ?hy18⟩) (by assumption) ?rest18
      case hy18 => (intro W hSw; go_simp; first | done | with_reducible rfl)
      simp only [Act.put, List.getElem_toArray, List.getElem_cons_zero, List.getElem_cons_succ, List.setIfInBounds_toArray, List.set_cons_zero, List.set_cons_succ]
      refine wpAnyH_ready (rs := [19]) (by kernel_rfl) (by simp) ?_
      refine AllReadyH.cons (o := _) rfl (fun K hK => ?_) (AllReadyH.nil)
      simp only [List.getElem_toArray, List.getElem_cons_zero, List.getElem_cons_succ]
      try rw [if_pos (by rfl)]
      go_simp
      refine (HSU11.out).mono ?_
      rintro e' w12 ⟨rfl, hb⟩
      refine hK.out _ _ (HS11.out _ ((Below.refl w11.heap.size w11).drew.trans (hb.mono (Nat.le_refl _)))) (fun hH1 => ?_)
      clear hK K hH0
      try simp only [Act.put, List.setIfInBounds_toArray, List.set_cons_zero, List.set_cons_succ]
      refine wpAnyH_take (i := 20) (v := ?v20) rfl (by kernel_rfl) (by kernel_rfl) (by kernel_rfl) (fun _ _ _ h => h) (Or.inl ⟨by rfl, ?hy20⟩) (by assumption) ?rest20
      case hy20 => (intro W hSw; go_simp; first | done | with_reducible rfl)
      simp only [Act.put, List.getElem_toArray, List.getElem_cons_zero, List.getElem_cons_succ, List.setIfInBounds_toArray, List.set_cons_zero, List.set_cons_succ]
      refine wpAnyH_take (i := 21) (v := ?v21) rfl (by kernel_rfl) (by kernel_rfl) (by kernel_rfl) (fun _ _ _ h => h) (Or.inl ⟨by rfl, ?hy21⟩) (by assumption) ?rest21
      case hy21 => (intro W hSw; go_simp; first | done | with_reducible rfl)
      simp only [Act.put, List.getElem_toArray, List.getElem_cons_zero, List.getElem_cons_succ, List.setIfInBounds_toArray, List.set_cons_zero, List.set_cons_succ]
      refine wpAnyH_done (by kernel_rfl) ?_ _
      clear hH1
      have HFR := Lib.hid (HF11.out.drew.trans (hb.mono HF11.out.size))
      go_wp2_with fail
      go_ret
      exact ⟨rfl, HFR.out⟩
    · have h1' : (1000 : Int) < (n : Int) := by omega
      go_enter Tryd.func7, Tryd.ntmps7
      go_wp2_with fail
      refine (HSU.out w (Below.refl _ _)).mono ?_
      rintro e w8 ⟨rfl, hb⟩
      go_wp2_with fail
      go_ret
      exact ⟨rfl, hb⟩
  · have h1' : (n : Int) < 1 := by omega
    go_enter Tryd.func7, Tryd.ntmps7
    go_wp2_with fail
    refine (HSU.out w (Below.refl _ _)).mono ?_
    rintro e w8 ⟨rfl, hb⟩
    go_wp2_with fail
    go_ret
    exact ⟨rfl, hb⟩
end Go.Proofs.YtcbjlpkkebcmjaaDoor
