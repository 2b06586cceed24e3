/-
nic.Take, walked: any frame that comes to any state, in any memory.
Condition: the table of regions of package bus reads as its text lays it.
-/
import Derived.Test.YtcbjlpkkebcmjaaDoorNicLose
import Derived.Test.YtcbjlpkkebcmjaaDoorRingScat
namespace Go.Proofs.YtcbjlpkkebcmjaaDoor
open Go.RowKit
set_option linter.unusedVariables false

/-- The head of a frame that comes. -/
def nicHead : List UInt8 := [0, 0, 0, 0, 0, 0, 0, 0, 0, 0, 1, 0]
/-- A frame that comes: the state, the memory, whether there was room, the error. -/
def ntake (s : NS) (m : Mm) (fr : List UInt8) : NS × Mm × Bool × Nat :=
  if fr.length < 1 ∨ 1514 < fr.length then (NS.zero, m, false, 2) else
  if ¬ s.works false then (s.lose, m, false, 0) else
  match rnext s.p.a.rg m with
  | none => (({ s with p := s.p.fail } : NS).lose, m, false, 0)
  | some none => (s.lose, m, false, 0)
  | some (some hd) =>
    match rwalk s.p.a.de s.p.a.size.toNat m hd with
    | none => (({ s with p := s.p.fail } : NS).lose, m, false, 0)
    | some l =>
      if roomW l < 12 + fr.length then (((s.setR false s.p.a.rg.took).gave false (rgive s.p.a.rg.took m hd 0).1).lose, (rgive s.p.a.rg.took m hd 0).2, false, 0)
      else ((s.setR false s.p.a.rg.took).gave false (rgive s.p.a.rg.took (rscat m l (nicHead ++ fr)) hd (12 + fr.length)).1, (rgive s.p.a.rg.took (rscat m l (nicHead ++ fr)) hd (12 + fr.length)).2, true, 0)
def TakePost (w : World) (g : Nat) (F : Nat → Prop) (R : NS × Mm × Bool × Nat) (e : Ending) (w' : World) : Prop :=
  ∃ F2, e = .returned (.tuple #[.agg R.1.c, .bool R.2.2.1, errV R.2.2.2]) ∧ RamIs w' g R.2.1 F2 ∧ MemStep F F2 w w' 
set_option maxRecDepth 100000 in
set_option maxHeartbeats 8000000 in
theorem nic_Take_short {g : Nat} {m : Mm} {F : Nat → Prop} {w : World} (s : NS) (hs : s.p.wf) (hlst : s.lost < 4294967296) (bo : Option Addr) (fr : List UInt8) (bc : Nat) (h : RamIs w g m F) (hr : RegAt w) (hrf : ¬ F 0) (hb : BytesAt w bo fr F) (hcap : fr.length ≤ bc) (ho : fr.length < 1) :
    Calls Tryd.prog 51 #[.agg s.c, .pointer (some ⟨g, 0, none⟩), .slice bo fr.length bc] w (TakePost w g F (NS.zero, m, false, 2)) := by
  have HLST := Lib.hid hlst
  have HWF := Lib.hid hs
  have HREG := Lib.hid (And.intro hr hrf)
  have HBY := Lib.hid hb
  have HCP := Lib.hid hcap
  obtain ⟨k0, k1, hb0⟩ := two_new w (.cells s.c 87) (.cells NS.zero.c 87)
  have HS0 : Hid (SendSt w ((w.alloc (.cells s.c 87)).alloc (.cells NS.zero.c 87)) g w.heap.size m F F s (.slice none 0 0) [] []) := Lib.hid
    ⟨h.below hb0, MemStep.of_below hb0, k0, k1, ⟨fun hf => absurd (h.lt _ hf) (Nat.lt_irrefl _), fun hf => by have := h.lt _ hf; omega⟩, World.ownsRow_nil _ _ _ _, fun b hb => by simp [Value.ownBlock] at hb, rfl, fun k x hk => by simp at hk, Nat.le_refl _⟩
  obtain ⟨n, hn⟩ : ∃ n, n = fr.length := ⟨_, rfl⟩
  have HN := Lib.hid hn
  rw [← hn]
  have hn1 : (n : Int) < 1 := by omega
  have HZO := Lib.hid (NS.c_one NS.zero)
  clear hs hlst h hr hrf hb hcap ho hn k0 k1 hb0
  go_enter Tryd.func51, Tryd.ntmps51
  go_upto_region 1 with fail
  change Code.wp _ _ _ _ ((w.alloc (.cells s.c 87)).alloc (.cells NS.zero.c 87))
  generalize ((w.alloc (.cells s.c 87)).alloc (.cells NS.zero.c 87)) = w1 at HS0 ⊢
  go_upto_region 4 with fail
  go_wp2_with (first | go_skip | (refine wpList_store_to rfl 87 _ _ rfl (w.heap.size + 1) NS.zero.c rfl rfl 87 NS.zero.c HS0.out.zrow (nic_size _) rfl HZO.out ?_))
  intro wz hx hk
  have HFN := Lib.hid (HS0.out.fin hx.out)
  have HKZ := Lib.hid hk
  clear hx hk
  go_wp2_with fail
  exact bodyPost_ret (v := .tuple #[.agg (NS.zero : NS).c, .bool false, (.iface 140 (.int .i64 2))]) (results_cell_tmp2 Tryd.results51 _ _ (w.heap.size + 1) 87 (NS.zero : NS).c (0, 0) _ rfl HKZ.out Tryd.underlying87 rfl (nic_size _)) rfl ⟨_, rfl, HFN.out.1, HFN.out.2.1⟩
set_option maxRecDepth 100000 in
set_option maxHeartbeats 8000000 in
theorem nic_Take_long {g : Nat} {m : Mm} {F : Nat → Prop} {w : World} (s : NS) (hs : s.p.wf) (hlst : s.lost < 4294967296) (bo : Option Addr) (fr : List UInt8) (bc : Nat) (h : RamIs w g m F) (hr : RegAt w) (hrf : ¬ F 0) (hb : BytesAt w bo fr F) (hcap : fr.length ≤ bc) (ho : 1514 < fr.length) :
    Calls Tryd.prog 51 #[.agg s.c, .pointer (some ⟨g, 0, none⟩), .slice bo fr.length bc] w (TakePost w g F (NS.zero, m, false, 2)) := by
  have HLST := Lib.hid hlst
  have HWF := Lib.hid hs
  have HREG := Lib.hid (And.intro hr hrf)
  have HBY := Lib.hid hb
  have HCP := Lib.hid hcap
  obtain ⟨k0, k1, hb0⟩ := two_new w (.cells s.c 87) (.cells NS.zero.c 87)
  have HS0 : Hid (SendSt w ((w.alloc (.cells s.c 87)).alloc (.cells NS.zero.c 87)) g w.heap.size m F F s (.slice none 0 0) [] []) := Lib.hid
    ⟨h.below hb0, MemStep.of_below hb0, k0, k1, ⟨fun hf => absurd (h.lt _ hf) (Nat.lt_irrefl _), fun hf => by have := h.lt _ hf; omega⟩, World.ownsRow_nil _ _ _ _, fun b hb => by simp [Value.ownBlock] at hb, rfl, fun k x hk => by simp at hk, Nat.le_refl _⟩
  obtain ⟨n, hn⟩ : ∃ n, n = fr.length := ⟨_, rfl⟩
  have HN := Lib.hid hn
  rw [← hn]
  have hn0 : ¬ (n : Int) < 1 := by omega
  have hn1 : (1514 : Int) < (n : Int) := by omega
  have HZO := Lib.hid (NS.c_one NS.zero)
  clear hs hlst h hr hrf hb hcap ho hn k0 k1 hb0
  go_enter Tryd.func51, Tryd.ntmps51
  go_upto_region 1 with fail
  change Code.wp _ _ _ _ ((w.alloc (.cells s.c 87)).alloc (.cells NS.zero.c 87))
  generalize ((w.alloc (.cells s.c 87)).alloc (.cells NS.zero.c 87)) = w1 at HS0 ⊢
  go_upto_region 4 with fail
  go_wp2_with (first | go_skip | (refine wpList_store_to rfl 87 _ _ rfl (w.heap.size + 1) NS.zero.c rfl rfl 87 NS.zero.c HS0.out.zrow (nic_size _) rfl HZO.out ?_))
  intro wz hx hk
  have HFN := Lib.hid (HS0.out.fin hx.out)
  have HKZ := Lib.hid hk
  clear hx hk
  go_wp2_with fail
  exact bodyPost_ret (v := .tuple #[.agg (NS.zero : NS).c, .bool false, (.iface 140 (.int .i64 2))]) (results_cell_tmp2 Tryd.results51 _ _ (w.heap.size + 1) 87 (NS.zero : NS).c (0, 0) _ rfl HKZ.out Tryd.underlying87 rfl (nic_size _)) rfl ⟨_, rfl, HFN.out.1, HFN.out.2.1⟩
set_option maxRecDepth 100000 in
set_option maxHeartbeats 8000000 in
theorem nic_Take_idle {g : Nat} {m : Mm} {F : Nat → Prop} {w : World} (s : NS) (hs : s.p.wf) (hlst : s.lost < 4294967296) (bo : Option Addr) (fr : List UInt8) (bc : Nat) (h : RamIs w g m F) (hr : RegAt w) (hrf : ¬ F 0) (hb : BytesAt w bo fr F) (hcap : fr.length ≤ bc) (h1 : 1 ≤ fr.length) (h2 : fr.length ≤ 1514) (hw : ¬ s.works false) :
    Calls Tryd.prog 51 #[.agg s.c, .pointer (some ⟨g, 0, none⟩), .slice bo fr.length bc] w (TakePost w g F (s.lose, m, false, 0)) := by
  have HLST := Lib.hid hlst
  have HWF := Lib.hid hs
  have HREG := Lib.hid (And.intro hr hrf)
  have HBY := Lib.hid hb
  have HCP := Lib.hid hcap
  obtain ⟨k0, k1, hb0⟩ := two_new w (.cells s.c 87) (.cells NS.zero.c 87)
  have HS0 : Hid (SendSt w ((w.alloc (.cells s.c 87)).alloc (.cells NS.zero.c 87)) g w.heap.size m F F s (.slice none 0 0) [] []) := Lib.hid
    ⟨h.below hb0, MemStep.of_below hb0, k0, k1, ⟨fun hf => absurd (h.lt _ hf) (Nat.lt_irrefl _), fun hf => by have := h.lt _ hf; omega⟩, World.ownsRow_nil _ _ _ _, fun b hb => by simp [Value.ownBlock] at hb, rfl, fun k x hk => by simp at hk, Nat.le_refl _⟩
  obtain ⟨n, hn⟩ : ∃ n, n = fr.length := ⟨_, rfl⟩
  have HN := Lib.hid hn
  rw [← hn]
  have hn0 : ¬ (n : Int) < 1 := by omega
  have hn1 : ¬ (1514 : Int) < (n : Int) := by omega
  have HWK := Lib.hid (fun W => nic_works s false hs.hst g W)
  rw [decide_eq_false hw] at HWK
  clear hs hlst h hr hrf hb hcap h1 h2 hw hn k0 k1 hb0
  go_enter Tryd.func51, Tryd.ntmps51
  go_upto_region 1 with fail
  change Code.wp _ _ _ _ ((w.alloc (.cells s.c 87)).alloc (.cells NS.zero.c 87))
  generalize ((w.alloc (.cells s.c 87)).alloc (.cells NS.zero.c 87)) = w1 at HS0 ⊢
  go_wp2_with (first | go_skip | (refine wpList_load_row rfl 87 _ rfl w.heap.size rfl 87 s.c (0, 0) _ HS0.out.row Tryd.underlying87 rfl (nic_size _) ?_))
  refine (HWK.out _).mono ?_
  rintro e w2 ⟨rfl, hb⟩
  have HS2 := Lib.hid (HS0.out.below hb)
  clear hb HS0 HWK
  have HLO := Lib.hid (fun W => nic_lose (s) (HLST.out) W)
  have HSO := Lib.hid (NS.c_one (s : NS).lose)
  go_wp2_with (first | go_skip | (refine wpList_load_row rfl 87 _ rfl w.heap.size rfl 87 (s : NS).c (0, 0) _ HS2.out.row Tryd.underlying87 rfl (nic_size _) ?_))
  refine (HLO.out _).mono ?_
  rintro e w21 ⟨rfl, hb⟩
  have HS21 := Lib.hid (HS2.out.below hb)
  clear hb HLO HS2
  go_wp2_with (first | go_skip | (refine wpList_store_to rfl 87 _ _ rfl (w.heap.size + 1) (s : NS).lose.c rfl rfl 87 NS.zero.c HS21.out.zrow (nic_size _) rfl HSO.out ?_))
  intro wz hx hk
  have HFN := Lib.hid (HS21.out.fin hx.out)
  have HKZ := Lib.hid hk
  clear hx hk
  go_wp2_with fail
  exact bodyPost_ret (v := .tuple #[.agg ((s : NS).lose : NS).c, .bool false, .nilIface]) (results_cell_tmp2 Tryd.results51 _ _ (w.heap.size + 1) 87 ((s : NS).lose : NS).c (0, 0) _ rfl HKZ.out Tryd.underlying87 rfl (nic_size _)) rfl ⟨_, rfl, HFN.out.1, HFN.out.2.1⟩
set_option maxRecDepth 100000 in
set_option maxHeartbeats 8000000 in
theorem nic_Take_err {g : Nat} {m : Mm} {F : Nat → Prop} {w : World} (s : NS) (hs : s.p.wf) (hlst : s.lost < 4294967296) (bo : Option Addr) (fr : List UInt8) (bc : Nat) (h : RamIs w g m F) (hr : RegAt w) (hrf : ¬ F 0) (hb : BytesAt w bo fr F) (hcap : fr.length ≤ bc) (h1 : 1 ≤ fr.length) (h2 : fr.length ≤ 1514) (hw : s.works false) (hx : rnext s.p.a.rg m = none) :
    Calls Tryd.prog 51 #[.agg s.c, .pointer (some ⟨g, 0, none⟩), .slice bo fr.length bc] w (TakePost w g F (({ s with p := s.p.fail } : NS).lose, m, false, 0)) := by
  have HLST := Lib.hid hlst
  have HWF := Lib.hid hs
  have HREG := Lib.hid (And.intro hr hrf)
  have HBY := Lib.hid hb
  have HCP := Lib.hid hcap
  obtain ⟨k0, k1, hb0⟩ := two_new w (.cells s.c 87) (.cells NS.zero.c 87)
  have HS0 : Hid (SendSt w ((w.alloc (.cells s.c 87)).alloc (.cells NS.zero.c 87)) g w.heap.size m F F s (.slice none 0 0) [] []) := Lib.hid
    ⟨h.below hb0, MemStep.of_below hb0, k0, k1, ⟨fun hf => absurd (h.lt _ hf) (Nat.lt_irrefl _), fun hf => by have := h.lt _ hf; omega⟩, World.ownsRow_nil _ _ _ _, fun b hb => by simp [Value.ownBlock] at hb, rfl, fun k x hk => by simp at hk, Nat.le_refl _⟩
  obtain ⟨n, hn⟩ : ∃ n, n = fr.length := ⟨_, rfl⟩
  have HN := Lib.hid hn
  rw [← hn]
  have hn0 : ¬ (n : Int) < 1 := by omega
  have hn1 : ¬ (1514 : Int) < (n : Int) := by omega
  have HWK := Lib.hid (fun W => nic_works s false hs.hst g W)
  rw [decide_eq_true hw] at HWK
  clear hs hlst h hr hrf hb hcap h1 h2 hw hn k0 k1 hb0
  go_enter Tryd.func51, Tryd.ntmps51
  go_upto_region 1 with fail
  change Code.wp _ _ _ _ ((w.alloc (.cells s.c 87)).alloc (.cells NS.zero.c 87))
  generalize ((w.alloc (.cells s.c 87)).alloc (.cells NS.zero.c 87)) = w1 at HS0 ⊢
  go_wp2_with (first | go_skip | (refine wpList_load_row rfl 87 _ rfl w.heap.size rfl 87 s.c (0, 0) _ HS0.out.row Tryd.underlying87 rfl (nic_size _) ?_))
  refine (HWK.out _).mono ?_
  rintro e w2 ⟨rfl, hb⟩
  have HS := Lib.hid (HS0.out.below hb)
  clear hb HS0 HWK
  have HREG1 := Lib.hid (reg_step HREG.out.1 HS.out.st HREG.out.2)
  have HCH : Hid (Calls Tryd.prog 82 #[.agg s.c, .int .i64 0, .pointer (some ⟨g, 0, none⟩)] w2 (ChainPost w2 g m F (chainR s.p.a.rg m).1 (chainR s.p.a.rg m).2.1 (chainR s.p.a.rg m).2.2.1 (chainR s.p.a.rg m).2.2.2.1 (chainR s.p.a.rg m).2.2.2.2)) := Lib.hid (nic_chain s false HWF.out.ha HS.out.ram HREG1.out.1 HREG1.out.2)
  unfold chainR at HCH
  rw [hx] at HCH
  have HX := Lib.hid hx
  clear hx
  simp only at HCH
  have HB2L := Lib.hid (lt_heap HS.out.row)
  have hv : errV (errR s.p.a.rg) = .iface 140 (.int .i64 (errR s.p.a.rg : Nat)) := errV_val (by unfold errR; split <;> omega)
  rw [hv] at HCH
  clear hv
  generalize errR s.p.a.rg = er at HCH
  go_wp2_with (first | go_skip | (refine wpList_load_row rfl 87 _ rfl w.heap.size rfl 87 s.c (0, 0) _ HS.out.row Tryd.underlying87 rfl (nic_size _) ?_))
  refine (HCH.out).mono ?_
  rintro e w3 ⟨v, F1, rfl, h1, h2, h3, h4⟩
  have HS3 := Lib.hid (HS.out.mem h1 h2)
  have H34 := Lib.hid (And.intro h3 h4)
  have KN := Lib.hid (heap_alloc_new w3 (.cells #[.int .i64 0, .int .u32 0, .int .u32 0, .int .u32 0, .int .u16 0, .int .u16 0] 58))
  have HBN := Lib.hid ((Below.refl w3.heap.size w3).alloc (Nat.le_refl _) (.cells #[.int .i64 0, .int .u32 0, .int .u32 0, .int .u32 0, .int .u16 0, .int .u16 0] 58))
  have HNF := Lib.hid (show ¬ F1 w3.heap.size from fun hf => absurd (h1.lt _ hf) (Nat.lt_irrefl _))
  clear h1 h2 h3 h4 HCH HS
  go_wp2_with (first | go_skip | (refine wpList_store_to rfl 58 _ _ rfl w3.heap.size (Rg.zero : Rg).c rfl rfl 58 #[.int .i64 0, .int .u32 0, .int .u32 0, .int .u32 0, .int .u16 0, .int .u16 0] KN.out (ring_size _) rfl (Rg.c_one _) ?_))
  intro w4 hx hk
  have HB4 : Hid (Below w3.heap.size w3 w4) := Lib.hid (HBN.out.trans (hx.out.below (fun k hk e => by omega) (by simp)))
  have HS4 := Lib.hid (HS3.out.below HB4.out)
  have K7 := Lib.hid hk
  clear hx hk KN HBN HS3
  have HRP := Lib.hid (NS.range_p HS4.out.row)
  have HFA : Hid (∀ W, Calls Tryd.prog 30 #[.agg s.p.c.toList.toArray] W fun e w' => e = .returned (.agg s.p.fail.c) ∧ Below W.heap.size W w') := Lib.hid (fun W => by rw [Array.toArray_toList]; exact vs_Fail s.p HWF.out.hst HWF.out.hirq W)
  go_wp2_with (first | go_skip | (refine load_midW rfl 63 _ rfl w.heap.size 0 rfl s.p.c.toList _ HRP.out Tryd.underlying63 rfl (vio_sizeL _) ?_))
  refine (HFA.out _).mono ?_
  rintro e w11 ⟨rfl, hb⟩
  have HS11 := Lib.hid (HS4.out.below hb)
  clear hb HRP HFA HS4
  go_wp2_with (first | go_skip | (refine wpList_store_mid_to rfl 63 _ _ rfl w.heap.size 0 s.p.fail.c rfl rfl 87 s.c HS11.out.row (by show 0 + 21 ≤ 23; omega) (vio_size _) (VS.c_one _) ?_))
  intro w12 hx hk
  rw [put_p] at hk
  have HS12 := Lib.hid (HS11.out.put hx.out hk)
  clear hx hk HS11
  have HLO := Lib.hid (fun W => nic_lose ({ s with p := s.p.fail }) (HLST.out) W)
  have HSO := Lib.hid (NS.c_one ({ s with p := s.p.fail } : NS).lose)
  go_wp2_with (first | go_skip | (refine wpList_load_row rfl 87 _ rfl w.heap.size rfl 87 ({ s with p := s.p.fail } : NS).c (0, 0) _ HS12.out.row Tryd.underlying87 rfl (nic_size _) ?_))
  refine (HLO.out _).mono ?_
  rintro e w21 ⟨rfl, hb⟩
  have HS21 := Lib.hid (HS12.out.below hb)
  clear hb HLO HS12
  go_wp2_with (first | go_skip | (refine wpList_store_to rfl 87 _ _ rfl (w.heap.size + 1) ({ s with p := s.p.fail } : NS).lose.c rfl rfl 87 NS.zero.c HS21.out.zrow (nic_size _) rfl HSO.out ?_))
  intro wz hx hk
  have HFN := Lib.hid (HS21.out.fin hx.out)
  have HKZ := Lib.hid hk
  clear hx hk
  go_wp2_with fail
  exact bodyPost_ret (v := .tuple #[.agg (({ s with p := s.p.fail } : NS).lose : NS).c, .bool false, .nilIface]) (results_cell_tmp2 Tryd.results51 _ _ (w.heap.size + 1) 87 (({ s with p := s.p.fail } : NS).lose : NS).c (0, 0) _ rfl HKZ.out Tryd.underlying87 rfl (nic_size _)) rfl ⟨_, rfl, HFN.out.1, HFN.out.2.1⟩
set_option maxRecDepth 100000 in
set_option maxHeartbeats 8000000 in
theorem nic_Take_none {g : Nat} {m : Mm} {F : Nat → Prop} {w : World} (s : NS) (hs : s.p.wf) (hlst : s.lost < 4294967296) (bo : Option Addr) (fr : List UInt8) (bc : Nat) (h : RamIs w g m F) (hr : RegAt w) (hrf : ¬ F 0) (hb : BytesAt w bo fr F) (hcap : fr.length ≤ bc) (h1 : 1 ≤ fr.length) (h2 : fr.length ≤ 1514) (hw : s.works false) (hx : rnext s.p.a.rg m = some none) :
    Calls Tryd.prog 51 #[.agg s.c, .pointer (some ⟨g, 0, none⟩), .slice bo fr.length bc] w (TakePost w g F (s.lose, m, false, 0)) := by
  have HLST := Lib.hid hlst
  have HWF := Lib.hid hs
  have HREG := Lib.hid (And.intro hr hrf)
  have HBY := Lib.hid hb
  have HCP := Lib.hid hcap
  obtain ⟨k0, k1, hb0⟩ := two_new w (.cells s.c 87) (.cells NS.zero.c 87)
  have HS0 : Hid (SendSt w ((w.alloc (.cells s.c 87)).alloc (.cells NS.zero.c 87)) g w.heap.size m F F s (.slice none 0 0) [] []) := Lib.hid
    ⟨h.below hb0, MemStep.of_below hb0, k0, k1, ⟨fun hf => absurd (h.lt _ hf) (Nat.lt_irrefl _), fun hf => by have := h.lt _ hf; omega⟩, World.ownsRow_nil _ _ _ _, fun b hb => by simp [Value.ownBlock] at hb, rfl, fun k x hk => by simp at hk, Nat.le_refl _⟩
  obtain ⟨n, hn⟩ : ∃ n, n = fr.length := ⟨_, rfl⟩
  have HN := Lib.hid hn
  rw [← hn]
  have hn0 : ¬ (n : Int) < 1 := by omega
  have hn1 : ¬ (1514 : Int) < (n : Int) := by omega
  have HWK := Lib.hid (fun W => nic_works s false hs.hst g W)
  rw [decide_eq_true hw] at HWK
  clear hs hlst h hr hrf hb hcap h1 h2 hw hn k0 k1 hb0
  go_enter Tryd.func51, Tryd.ntmps51
  go_upto_region 1 with fail
  change Code.wp _ _ _ _ ((w.alloc (.cells s.c 87)).alloc (.cells NS.zero.c 87))
  generalize ((w.alloc (.cells s.c 87)).alloc (.cells NS.zero.c 87)) = w1 at HS0 ⊢
  go_wp2_with (first | go_skip | (refine wpList_load_row rfl 87 _ rfl w.heap.size rfl 87 s.c (0, 0) _ HS0.out.row Tryd.underlying87 rfl (nic_size _) ?_))
  refine (HWK.out _).mono ?_
  rintro e w2 ⟨rfl, hb⟩
  have HS := Lib.hid (HS0.out.below hb)
  clear hb HS0 HWK
  have HREG1 := Lib.hid (reg_step HREG.out.1 HS.out.st HREG.out.2)
  have HCH : Hid (Calls Tryd.prog 82 #[.agg s.c, .int .i64 0, .pointer (some ⟨g, 0, none⟩)] w2 (ChainPost w2 g m F (chainR s.p.a.rg m).1 (chainR s.p.a.rg m).2.1 (chainR s.p.a.rg m).2.2.1 (chainR s.p.a.rg m).2.2.2.1 (chainR s.p.a.rg m).2.2.2.2)) := Lib.hid (nic_chain s false HWF.out.ha HS.out.ram HREG1.out.1 HREG1.out.2)
  unfold chainR at HCH
  rw [hx] at HCH
  have HX := Lib.hid hx
  clear hx
  simp only at HCH
  have HB2L := Lib.hid (lt_heap HS.out.row)
  go_wp2_with (first | go_skip | (refine wpList_load_row rfl 87 _ rfl w.heap.size rfl 87 s.c (0, 0) _ HS.out.row Tryd.underlying87 rfl (nic_size _) ?_))
  refine (HCH.out).mono ?_
  rintro e w3 ⟨v, F1, rfl, h1, h2, h3, h4⟩
  have HS3 := Lib.hid (HS.out.mem h1 h2)
  have H34 := Lib.hid (And.intro h3 h4)
  have KN := Lib.hid (heap_alloc_new w3 (.cells #[.int .i64 0, .int .u32 0, .int .u32 0, .int .u32 0, .int .u16 0, .int .u16 0] 58))
  have HBN := Lib.hid ((Below.refl w3.heap.size w3).alloc (Nat.le_refl _) (.cells #[.int .i64 0, .int .u32 0, .int .u32 0, .int .u32 0, .int .u16 0, .int .u16 0] 58))
  have HNF := Lib.hid (show ¬ F1 w3.heap.size from fun hf => absurd (h1.lt _ hf) (Nat.lt_irrefl _))
  clear h1 h2 h3 h4 HCH HS
  go_wp2_with (first | go_skip | (refine wpList_store_to rfl 58 _ _ rfl w3.heap.size (s.p.a.rg : Rg).c rfl rfl 58 #[.int .i64 0, .int .u32 0, .int .u32 0, .int .u32 0, .int .u16 0, .int .u16 0] KN.out (ring_size _) rfl (Rg.c_one _) ?_))
  intro w4 hx hk
  have HB4 : Hid (Below w3.heap.size w3 w4) := Lib.hid (HBN.out.trans (hx.out.below (fun k hk e => by omega) (by simp)))
  have HS4 := Lib.hid (HS3.out.below HB4.out)
  have K7 := Lib.hid hk
  clear hx hk KN HBN HS3
  have HLO := Lib.hid (fun W => nic_lose (s) (HLST.out) W)
  have HSO := Lib.hid (NS.c_one (s : NS).lose)
  go_wp2_with (first | go_skip | (refine wpList_load_row rfl 87 _ rfl w.heap.size rfl 87 (s : NS).c (0, 0) _ HS4.out.row Tryd.underlying87 rfl (nic_size _) ?_))
  refine (HLO.out _).mono ?_
  rintro e w21 ⟨rfl, hb⟩
  have HS21 := Lib.hid (HS4.out.below hb)
  clear hb HLO HS4
  go_wp2_with (first | go_skip | (refine wpList_store_to rfl 87 _ _ rfl (w.heap.size + 1) (s : NS).lose.c rfl rfl 87 NS.zero.c HS21.out.zrow (nic_size _) rfl HSO.out ?_))
  intro wz hx hk
  have HFN := Lib.hid (HS21.out.fin hx.out)
  have HKZ := Lib.hid hk
  clear hx hk
  go_wp2_with fail
  exact bodyPost_ret (v := .tuple #[.agg ((s : NS).lose : NS).c, .bool false, .nilIface]) (results_cell_tmp2 Tryd.results51 _ _ (w.heap.size + 1) 87 ((s : NS).lose : NS).c (0, 0) _ rfl HKZ.out Tryd.underlying87 rfl (nic_size _)) rfl ⟨_, rfl, HFN.out.1, HFN.out.2.1⟩
set_option maxRecDepth 100000 in
set_option maxHeartbeats 8000000 in
theorem nic_Take_nowalk {g : Nat} {m : Mm} {F : Nat → Prop} {w : World} (s : NS) (hs : s.p.wf) (hlst : s.lost < 4294967296) (bo : Option Addr) (fr : List UInt8) (bc : Nat) (h : RamIs w g m F) (hr : RegAt w) (hrf : ¬ F 0) (hb : BytesAt w bo fr F) (hcap : fr.length ≤ bc) (h1 : 1 ≤ fr.length) (h2 : fr.length ≤ 1514) (hw : s.works false) {hd : Nat} (hx : rnext s.p.a.rg m = some (some hd)) (hw2 : rwalk s.p.a.rg.de s.p.a.rg.size.toNat m hd = none) :
    Calls Tryd.prog 51 #[.agg s.c, .pointer (some ⟨g, 0, none⟩), .slice bo fr.length bc] w (TakePost w g F (({ s with p := s.p.fail } : NS).lose, m, false, 0)) := by
  have HLST := Lib.hid hlst
  have HWF := Lib.hid hs
  have HREG := Lib.hid (And.intro hr hrf)
  have HBY := Lib.hid hb
  have HCP := Lib.hid hcap
  obtain ⟨k0, k1, hb0⟩ := two_new w (.cells s.c 87) (.cells NS.zero.c 87)
  have HS0 : Hid (SendSt w ((w.alloc (.cells s.c 87)).alloc (.cells NS.zero.c 87)) g w.heap.size m F F s (.slice none 0 0) [] []) := Lib.hid
    ⟨h.below hb0, MemStep.of_below hb0, k0, k1, ⟨fun hf => absurd (h.lt _ hf) (Nat.lt_irrefl _), fun hf => by have := h.lt _ hf; omega⟩, World.ownsRow_nil _ _ _ _, fun b hb => by simp [Value.ownBlock] at hb, rfl, fun k x hk => by simp at hk, Nat.le_refl _⟩
  obtain ⟨n, hn⟩ : ∃ n, n = fr.length := ⟨_, rfl⟩
  have HN := Lib.hid hn
  rw [← hn]
  have hn0 : ¬ (n : Int) < 1 := by omega
  have hn1 : ¬ (1514 : Int) < (n : Int) := by omega
  have HWK := Lib.hid (fun W => nic_works s false hs.hst g W)
  rw [decide_eq_true hw] at HWK
  clear hs hlst h hr hrf hb hcap h1 h2 hw hn k0 k1 hb0
  go_enter Tryd.func51, Tryd.ntmps51
  go_upto_region 1 with fail
  change Code.wp _ _ _ _ ((w.alloc (.cells s.c 87)).alloc (.cells NS.zero.c 87))
  generalize ((w.alloc (.cells s.c 87)).alloc (.cells NS.zero.c 87)) = w1 at HS0 ⊢
  go_wp2_with (first | go_skip | (refine wpList_load_row rfl 87 _ rfl w.heap.size rfl 87 s.c (0, 0) _ HS0.out.row Tryd.underlying87 rfl (nic_size _) ?_))
  refine (HWK.out _).mono ?_
  rintro e w2 ⟨rfl, hb⟩
  have HS := Lib.hid (HS0.out.below hb)
  clear hb HS0 HWK
  have HREG1 := Lib.hid (reg_step HREG.out.1 HS.out.st HREG.out.2)
  have HCH : Hid (Calls Tryd.prog 82 #[.agg s.c, .int .i64 0, .pointer (some ⟨g, 0, none⟩)] w2 (ChainPost w2 g m F (chainR s.p.a.rg m).1 (chainR s.p.a.rg m).2.1 (chainR s.p.a.rg m).2.2.1 (chainR s.p.a.rg m).2.2.2.1 (chainR s.p.a.rg m).2.2.2.2)) := Lib.hid (nic_chain s false HWF.out.ha HS.out.ram HREG1.out.1 HREG1.out.2)
  unfold chainR at HCH
  rw [hx] at HCH
  have HX := Lib.hid hx
  clear hx
  simp only at HCH
  have HB2L := Lib.hid (lt_heap HS.out.row)
  rw [hw2] at HCH
  clear hw2
  rw [show errV (if (none : Option (List Sg)).isSome then 0 else 22) = .iface 140 (.int .i64 22) from rfl] at HCH
  go_wp2_with (first | go_skip | (refine wpList_load_row rfl 87 _ rfl w.heap.size rfl 87 s.c (0, 0) _ HS.out.row Tryd.underlying87 rfl (nic_size _) ?_))
  refine (HCH.out).mono ?_
  rintro e w3 ⟨v, F1, rfl, h1, h2, h3, h4⟩
  have HS3 := Lib.hid (HS.out.mem h1 h2)
  have H34 := Lib.hid (And.intro h3 h4)
  have KN := Lib.hid (heap_alloc_new w3 (.cells #[.int .i64 0, .int .u32 0, .int .u32 0, .int .u32 0, .int .u16 0, .int .u16 0] 58))
  have HBN := Lib.hid ((Below.refl w3.heap.size w3).alloc (Nat.le_refl _) (.cells #[.int .i64 0, .int .u32 0, .int .u32 0, .int .u32 0, .int .u16 0, .int .u16 0] 58))
  have HNF := Lib.hid (show ¬ F1 w3.heap.size from fun hf => absurd (h1.lt _ hf) (Nat.lt_irrefl _))
  clear h1 h2 h3 h4 HCH HS
  go_wp2_with (first | go_skip | (refine wpList_store_to rfl 58 _ _ rfl w3.heap.size (s.p.a.rg.took : Rg).c rfl rfl 58 #[.int .i64 0, .int .u32 0, .int .u32 0, .int .u32 0, .int .u16 0, .int .u16 0] KN.out (ring_size _) rfl (Rg.c_one _) ?_))
  intro w4 hx hk
  have HB4 : Hid (Below w3.heap.size w3 w4) := Lib.hid (HBN.out.trans (hx.out.below (fun k hk e => by omega) (by simp)))
  have HS4 := Lib.hid (HS3.out.below HB4.out)
  have K7 := Lib.hid hk
  clear hx hk KN HBN HS3
  have HRP := Lib.hid (NS.range_p HS4.out.row)
  have HFA : Hid (∀ W, Calls Tryd.prog 30 #[.agg s.p.c.toList.toArray] W fun e w' => e = .returned (.agg s.p.fail.c) ∧ Below W.heap.size W w') := Lib.hid (fun W => by rw [Array.toArray_toList]; exact vs_Fail s.p HWF.out.hst HWF.out.hirq W)
  go_wp2_with (first | go_skip | (refine load_midW rfl 63 _ rfl w.heap.size 0 rfl s.p.c.toList _ HRP.out Tryd.underlying63 rfl (vio_sizeL _) ?_))
  refine (HFA.out _).mono ?_
  rintro e w11 ⟨rfl, hb⟩
  have HS11 := Lib.hid (HS4.out.below hb)
  clear hb HRP HFA HS4
  go_wp2_with (first | go_skip | (refine wpList_store_mid_to rfl 63 _ _ rfl w.heap.size 0 s.p.fail.c rfl rfl 87 s.c HS11.out.row (by show 0 + 21 ≤ 23; omega) (vio_size _) (VS.c_one _) ?_))
  intro w12 hx hk
  rw [put_p] at hk
  have HS12 := Lib.hid (HS11.out.put hx.out hk)
  clear hx hk HS11
  have HLO := Lib.hid (fun W => nic_lose ({ s with p := s.p.fail }) (HLST.out) W)
  have HSO := Lib.hid (NS.c_one ({ s with p := s.p.fail } : NS).lose)
  go_wp2_with (first | go_skip | (refine wpList_load_row rfl 87 _ rfl w.heap.size rfl 87 ({ s with p := s.p.fail } : NS).c (0, 0) _ HS12.out.row Tryd.underlying87 rfl (nic_size _) ?_))
  refine (HLO.out _).mono ?_
  rintro e w21 ⟨rfl, hb⟩
  have HS21 := Lib.hid (HS12.out.below hb)
  clear hb HLO HS12
  go_wp2_with (first | go_skip | (refine wpList_store_to rfl 87 _ _ rfl (w.heap.size + 1) ({ s with p := s.p.fail } : NS).lose.c rfl rfl 87 NS.zero.c HS21.out.zrow (nic_size _) rfl HSO.out ?_))
  intro wz hx hk
  have HFN := Lib.hid (HS21.out.fin hx.out)
  have HKZ := Lib.hid hk
  clear hx hk
  go_wp2_with fail
  exact bodyPost_ret (v := .tuple #[.agg (({ s with p := s.p.fail } : NS).lose : NS).c, .bool false, .nilIface]) (results_cell_tmp2 Tryd.results51 _ _ (w.heap.size + 1) 87 (({ s with p := s.p.fail } : NS).lose : NS).c (0, 0) _ rfl HKZ.out Tryd.underlying87 rfl (nic_size _)) rfl ⟨_, rfl, HFN.out.1, HFN.out.2.1⟩
theorem gave_lost (s : NS) (one ok : Bool) : (s.gave one ok).lost = s.lost := by
  cases ok
  · rfl
  · cases one <;> rfl
theorem setR_lost (s : NS) (one : Bool) (r : Rg) : (s.setR one r).lost = s.lost := by cases one <;> rfl
set_option maxRecDepth 100000 in
set_option maxHeartbeats 8000000 in
theorem nic_Take_small {g : Nat} {m : Mm} {F : Nat → Prop} {w : World} (s : NS) (hs : s.p.wf) (hlst : s.lost < 4294967296) (bo : Option Addr) (fr : List UInt8) (bc : Nat) (h : RamIs w g m F) (hr : RegAt w) (hrf : ¬ F 0) (hb : BytesAt w bo fr F) (hcap : fr.length ≤ bc) (h1 : 1 ≤ fr.length) (h2 : fr.length ≤ 1514) (hw : s.works false) {hd : Nat} {l : List Sg} (hx : rnext s.p.a.rg m = some (some hd)) (hw2 : rwalk s.p.a.rg.de s.p.a.rg.size.toNat m hd = some l) (hrm : roomW l < 12 + fr.length) :
    Calls Tryd.prog 51 #[.agg s.c, .pointer (some ⟨g, 0, none⟩), .slice bo fr.length bc] w (TakePost w g F (((s.setR false s.p.a.rg.took).gave false (rgive s.p.a.rg.took m hd 0).1).lose, (rgive s.p.a.rg.took m hd 0).2, false, 0)) := by
  have HLST := Lib.hid hlst
  have HWF := Lib.hid hs
  have HREG := Lib.hid (And.intro hr hrf)
  have HBY := Lib.hid hb
  have HCP := Lib.hid hcap
  obtain ⟨k0, k1, hb0⟩ := two_new w (.cells s.c 87) (.cells NS.zero.c 87)
  have HS0 : Hid (SendSt w ((w.alloc (.cells s.c 87)).alloc (.cells NS.zero.c 87)) g w.heap.size m F F s (.slice none 0 0) [] []) := Lib.hid
    ⟨h.below hb0, MemStep.of_below hb0, k0, k1, ⟨fun hf => absurd (h.lt _ hf) (Nat.lt_irrefl _), fun hf => by have := h.lt _ hf; omega⟩, World.ownsRow_nil _ _ _ _, fun b hb => by simp [Value.ownBlock] at hb, rfl, fun k x hk => by simp at hk, Nat.le_refl _⟩
  obtain ⟨n, hn⟩ : ∃ n, n = fr.length := ⟨_, rfl⟩
  have HN := Lib.hid hn
  rw [← hn]
  have hn0 : ¬ (n : Int) < 1 := by omega
  have hn1 : ¬ (1514 : Int) < (n : Int) := by omega
  have HWK := Lib.hid (fun W => nic_works s false hs.hst g W)
  rw [decide_eq_true hw] at HWK
  clear hs hlst h hr hrf hb hcap h1 h2 hw hn k0 k1 hb0
  go_enter Tryd.func51, Tryd.ntmps51
  go_upto_region 1 with fail
  change Code.wp _ _ _ _ ((w.alloc (.cells s.c 87)).alloc (.cells NS.zero.c 87))
  generalize ((w.alloc (.cells s.c 87)).alloc (.cells NS.zero.c 87)) = w1 at HS0 ⊢
  go_wp2_with (first | go_skip | (refine wpList_load_row rfl 87 _ rfl w.heap.size rfl 87 s.c (0, 0) _ HS0.out.row Tryd.underlying87 rfl (nic_size _) ?_))
  refine (HWK.out _).mono ?_
  rintro e w2 ⟨rfl, hb⟩
  have HS := Lib.hid (HS0.out.below hb)
  clear hb HS0 HWK
  have HREG1 := Lib.hid (reg_step HREG.out.1 HS.out.st HREG.out.2)
  have HCH : Hid (Calls Tryd.prog 82 #[.agg s.c, .int .i64 0, .pointer (some ⟨g, 0, none⟩)] w2 (ChainPost w2 g m F (chainR s.p.a.rg m).1 (chainR s.p.a.rg m).2.1 (chainR s.p.a.rg m).2.2.1 (chainR s.p.a.rg m).2.2.2.1 (chainR s.p.a.rg m).2.2.2.2)) := Lib.hid (nic_chain s false HWF.out.ha HS.out.ram HREG1.out.1 HREG1.out.2)
  unfold chainR at HCH
  rw [hx] at HCH
  have HX := Lib.hid hx
  clear hx
  simp only at HCH
  have HB2L := Lib.hid (lt_heap HS.out.row)
  have HRM := Lib.hid hrm
  clear hrm
  rw [hw2] at HCH
  have HXW := Lib.hid hw2
  clear hw2
  rw [show errV (if (some l).isSome then 0 else 22) = .nilIface from rfl, show (some l).getD [] = l from rfl] at HCH
  go_wp2_with (first | go_skip | (refine wpList_load_row rfl 87 _ rfl w.heap.size rfl 87 s.c (0, 0) _ HS.out.row Tryd.underlying87 rfl (nic_size _) ?_))
  refine (HCH.out).mono ?_
  rintro e w3 ⟨v, F1, rfl, h1, h2, h3, h4⟩
  have HS3 := Lib.hid (HS.out.mem h1 h2)
  have H34 := Lib.hid (And.intro h3 h4)
  have KN := Lib.hid (heap_alloc_new w3 (.cells #[.int .i64 0, .int .u32 0, .int .u32 0, .int .u32 0, .int .u16 0, .int .u16 0] 58))
  have HBN := Lib.hid ((Below.refl w3.heap.size w3).alloc (Nat.le_refl _) (.cells #[.int .i64 0, .int .u32 0, .int .u32 0, .int .u32 0, .int .u16 0, .int .u16 0] 58))
  have HNF := Lib.hid (show ¬ F1 w3.heap.size from fun hf => absurd (h1.lt _ hf) (Nat.lt_irrefl _))
  clear h1 h2 h3 h4 HCH HS
  go_wp2_with (first | go_skip | (refine wpList_store_to rfl 58 _ _ rfl w3.heap.size (s.p.a.rg.took : Rg).c rfl rfl 58 #[.int .i64 0, .int .u32 0, .int .u32 0, .int .u32 0, .int .u16 0, .int .u16 0] KN.out (ring_size _) rfl (Rg.c_one _) ?_))
  intro w4 hx hk
  have HB4 : Hid (Below w3.heap.size w3 w4) := Lib.hid (HBN.out.trans (hx.out.below (fun k hk e => by omega) (by simp)))
  have HS4 := Lib.hid (HS3.out.below HB4.out)
  have K7 := Lib.hid hk
  clear hx hk KN HBN HS3
  obtain ⟨ao, c9, rfl, hc9, hl9, hsg⟩ := SegsAt.of_owns H34.out.1 H34.out.2
  have HSG := Lib.hid (hsg.below HB4.out)
  have HOKW := Lib.hid (rwalk_ok HXW.out)
  have HOKP := Lib.hid (And.intro (rnext_ok HX.out) (rnext_lt HX.out))
  have HLN := Lib.hid (show l.length ≤ 256 by have h1 := HOKW.out.2.2; have h2 := HOKP.out.1.2.1; omega)
  have HB0L := Lib.hid (lt_heap HS4.out.row)
  have HSB : Hid (l ≠ [] → ∃ b o, ao = some ⟨b, o, none⟩ ∧ w2.heap.size ≤ b) := Lib.hid (fun hne => by
    rcases H34.out.1.2 with ⟨hv, he⟩ | ⟨gq, cap, cur, hv, hg, _⟩
    · exact absurd (List.eq_nil_of_length_eq_zero he) hne
    · have e3 : ao = some ⟨gq, 0, none⟩ ∧ c9 = cap := by simpa using (show Value.slice ao l.length c9 = Value.slice (some ⟨gq, 0, none⟩) l.length cap from hv)
      exact ⟨gq, 0, e3.1, hg⟩)
  clear hc9 hl9 hsg
  go_upto_region 14 with (first | go_skip | (refine wpList_load_row rfl 58 _ rfl w3.heap.size rfl 58 (s.p.a.rg.took : Rg).c (0, 0) _ K7.out Tryd.underlying58 rfl (ring_size _) ?_) | (refine wpList_store_mid_to rfl 58 _ _ rfl w.heap.size 8 (s.p.a.rg.took : Rg).c rfl rfl 87 s.c HS4.out.row (by show 8 + 6 ≤ 23; omega) (ring_size _) (Rg.c_one _) ?_))
  intro w6 hx hk
  rw [put_ra] at hk
  have HS6 := Lib.hid (HS4.out.put hx.out hk)
  have HSG6 : Hid (SegsAt w6 ao l F1) := Lib.hid (fun hne => by
    obtain ⟨b, o, q1, q2, q3, q4⟩ := HSG.out hne
    obtain ⟨b', o', p1, p2⟩ := HSB.out hne
    obtain ⟨rfl, rfl⟩ : b = b' ∧ o = o' := by rw [q1] at p1; simpa using p1
    have hbn : ¬ b = w.heap.size := by have := HB2L.out; omega
    exact ⟨b, o, q1, Nat.lt_of_lt_of_le q2 hx.out.size, q3, fun k s r hk hr => (hx.out.cell (p := ⟨b, o + k * 3 + r, none⟩) q2 hbn).trans (q4 k s r hk hr)⟩)
  clear hx hk HS4 K7 HSG
  have HRO := Lib.hid (ring_Room ao l c9 w6 F1 HSG6.out (by have := HLN.out; omega) (by have h1 := (room_sum l).1; have h2 := HOKW.out.2.1; omega) (by have h1 := (room_sum l).2; have h2 := HOKW.out.2.1; omega))
  obtain ⟨Y, hY⟩ : ∃ Y, Y = roomW l := ⟨_, rfl⟩
  have HY := Lib.hid hY
  rw [← hY] at HRO
  generalize roomR l = X at HRO
  have hYI : (Y : Int) < 12 + (n : Int) := by have := HRM.out; rw [← HN.out, ← hY] at this; omega
  clear hY
  go_wp2_with fail
  refine (HRO.out).mono ?_
  rintro e w7 ⟨rfl, hb⟩
  have HS7 := Lib.hid (HS6.out.below hb)
  have HSG7 := Lib.hid (HSG6.out.below hb)
  clear hb HS6 HSG6 HRO
  have HREG7 := Lib.hid (reg_step HREG.out.1 HS7.out.st HREG.out.2)
  have HREGQ := HREG7
  clear HREG7
  have HGIV : Hid (Calls Tryd.prog 83 #[.pointer (some ⟨w.heap.size, 0, none⟩), .int .i64 0, .pointer (some ⟨g, 0, none⟩), .int .i64 hd, .int .i64 0] w7 fun e w' => ∃ F2, e = .returned (.bool (rgive s.p.a.rg.took m hd 0).1) ∧ RamIs w' g (rgive s.p.a.rg.took m hd 0).2 F2 ∧ (∀ k, F2 k → F1 k ∨ w7.heap.size ≤ k) ∧ KX (fun k => F1 k ∨ k = w.heap.size) w7 w' ∧ w'.heap[w.heap.size]? = some (.cells ((s.setR false s.p.a.rg.took).gave false (rgive s.p.a.rg.took m hd 0).1).c 87 (0, 0))) := Lib.hid (nic_give (s.setR false s.p.a.rg.took) false (NS.setR_wf HWF.out (Rg.took_wf (VQ.rg_wf HWF.out.ha))) hd 0 (took_ok HOKP.out.1) HOKP.out.2 (by omega) HS7.out.ram HREGQ.out.1 HREGQ.out.2 HS7.out.row HS7.out.nb.1)
  generalize hrg : rgive s.p.a.rg.took m hd 0 = rg at HGIV
  obtain ⟨ok, mg⟩ := rg
  have HRG := Lib.hid hrg
  clear hrg
  dsimp only at HGIV
  go_wp2_with fail
  refine (HGIV.out).mono ?_
  rintro e w9 ⟨F9, rfl, q1, q2, q3, q4⟩
  have HS9 := Lib.hid (HS7.out.give q1 q2 q3 q4)
  clear q1 q2 q3 q4 HGIV HS7
  have HLO := Lib.hid (fun W => nic_lose ((s.setR false s.p.a.rg.took).gave false ok) (by rw [gave_lost, setR_lost]; exact HLST.out) W)
  have HSO := Lib.hid (NS.c_one ((s.setR false s.p.a.rg.took).gave false ok : NS).lose)
  go_wp2_with (first | go_skip | (refine wpList_load_row rfl 87 _ rfl w.heap.size rfl 87 ((s.setR false s.p.a.rg.took).gave false ok : NS).c (0, 0) _ HS9.out.row Tryd.underlying87 rfl (nic_size _) ?_))
  refine (HLO.out _).mono ?_
  rintro e w21 ⟨rfl, hb⟩
  have HS21 := Lib.hid (HS9.out.below hb)
  clear hb HLO HS9
  go_wp2_with (first | go_skip | (refine wpList_store_to rfl 87 _ _ rfl (w.heap.size + 1) ((s.setR false s.p.a.rg.took).gave false ok : NS).lose.c rfl rfl 87 NS.zero.c HS21.out.zrow (nic_size _) rfl HSO.out ?_))
  intro wz hx hk
  have HFN := Lib.hid (HS21.out.fin hx.out)
  have HKZ := Lib.hid hk
  clear hx hk
  go_wp2_with fail
  exact bodyPost_ret (v := .tuple #[.agg (((s.setR false s.p.a.rg.took).gave false ok : NS).lose : NS).c, .bool false, .nilIface]) (results_cell_tmp2 Tryd.results51 _ _ (w.heap.size + 1) 87 (((s.setR false s.p.a.rg.took).gave false ok : NS).lose : NS).c (0, 0) _ rfl HKZ.out Tryd.underlying87 rfl (nic_size _)) rfl (show TakePost w g F _ _ _ from by (first | rw [HRG.out] | rw [HN.out, HRG.out]); exact ⟨_, rfl, HFN.out.1, HFN.out.2.1⟩)
theorem make_head (n : Nat) (h : n ≤ 1514) (w : World) : (Instr.makeSlice 80 (.int .i64 12) (.int .i64 (12 + (n : Int)))).run Tryd.prog w = .ok (.slice (some ⟨w.heap.size, 0, none⟩) 12 (12 + n)) (w.alloc (.cells (madeCells #[.int .u8 0] (12 + n)) 5)) := by
  obtain ⟨i, hi, hz, hs, hb⟩ := info_of info_u8
  have h := run_make (P := Tryd.prog) w 80 5 i _ Tryd.underlying80 hi hz .i64 .i64 12 (12 + (n : Int)) (by omega) (by omega) (by rw [hb]; omega) (by omega)
  rw [hs, show (12 + (n : Int)).toNat = 12 + n by omega, Nat.mul_one] at h
  exact h
theorem made_get (v : Value) {n j : Nat} (hj : j < n) : (madeCells #[v] n)[j]? = some v := by
  unfold madeCells
  simp [hj, Nat.mod_one]
theorem head_cells (n : Nat) : ((madeCells #[.int .u8 0] (12 + n)).setIfInBounds 10 (.int .u8 1)).toList.take (12 * 1) = nicHead.map B8 := by
  apply List.ext_getElem?
  intro i
  by_cases hi : i < 12
  · rw [List.getElem?_take_of_lt (by omega), Array.getElem?_toList, Array.getElem?_setIfInBounds, size_madeCells]
    by_cases h10 : 10 = i
    · subst h10
      rw [if_pos rfl, if_pos (by omega)]
      rfl
    · rw [if_neg h10, made_get _ (by omega)]
      match i, hi, h10 with
      | 0, _, _ => rfl
      | 1, _, _ => rfl
      | 2, _, _ => rfl
      | 3, _, _ => rfl
      | 4, _, _ => rfl
      | 5, _, _ => rfl
      | 6, _, _ => rfl
      | 7, _, _ => rfl
      | 8, _, _ => rfl
      | 9, _, _ => rfl
      | 10, _, h => exact absurd rfl h
      | 11, _, _ => rfl
      | i + 12, h, _ => omega
  · rw [List.getElem?_eq_none (by simp; omega), List.getElem?_eq_none (by simp [nicHead]; omega)]
set_option maxRecDepth 100000 in
set_option maxHeartbeats 8000000 in
theorem nic_Take_ok {g : Nat} {m : Mm} {F : Nat → Prop} {w : World} (s : NS) (hs : s.p.wf) (hlst : s.lost < 4294967296) (bo : Option Addr) (fr : List UInt8) (bc : Nat) (h : RamIs w g m F) (hr : RegAt w) (hrf : ¬ F 0) (hb : BytesAt w bo fr F) (hcap : fr.length ≤ bc) (h1 : 1 ≤ fr.length) (h2 : fr.length ≤ 1514) (hw : s.works false) {hd : Nat} {l : List Sg} (hx : rnext s.p.a.rg m = some (some hd)) (hw2 : rwalk s.p.a.rg.de s.p.a.rg.size.toNat m hd = some l) (hrm : ¬ roomW l < 12 + fr.length) :
    Calls Tryd.prog 51 #[.agg s.c, .pointer (some ⟨g, 0, none⟩), .slice bo fr.length bc] w (TakePost w g F ((s.setR false s.p.a.rg.took).gave false (rgive s.p.a.rg.took (rscat m l (nicHead ++ fr)) hd (12 + fr.length)).1, (rgive s.p.a.rg.took (rscat m l (nicHead ++ fr)) hd (12 + fr.length)).2, true, 0)) := by
  have HLST := Lib.hid hlst
  have HWF := Lib.hid hs
  have HREG := Lib.hid (And.intro hr hrf)
  have HBY := Lib.hid hb
  have HCP := Lib.hid hcap
  obtain ⟨k0, k1, hb0⟩ := two_new w (.cells s.c 87) (.cells NS.zero.c 87)
  have HS0 : Hid (SendSt w ((w.alloc (.cells s.c 87)).alloc (.cells NS.zero.c 87)) g w.heap.size m F F s (.slice none 0 0) [] []) := Lib.hid
    ⟨h.below hb0, MemStep.of_below hb0, k0, k1, ⟨fun hf => absurd (h.lt _ hf) (Nat.lt_irrefl _), fun hf => by have := h.lt _ hf; omega⟩, World.ownsRow_nil _ _ _ _, fun b hb => by simp [Value.ownBlock] at hb, rfl, fun k x hk => by simp at hk, Nat.le_refl _⟩
  obtain ⟨n, hn⟩ : ∃ n, n = fr.length := ⟨_, rfl⟩
  have HN := Lib.hid hn
  rw [← hn]
  have hn0 : ¬ (n : Int) < 1 := by omega
  have hn1 : ¬ (1514 : Int) < (n : Int) := by omega
  have HWK := Lib.hid (fun W => nic_works s false hs.hst g W)
  rw [decide_eq_true hw] at HWK
  clear hs hlst h hr hrf hb hcap h1 h2 hw hn k0 k1 hb0
  go_enter Tryd.func51, Tryd.ntmps51
  go_upto_region 1 with fail
  change Code.wp _ _ _ _ ((w.alloc (.cells s.c 87)).alloc (.cells NS.zero.c 87))
  generalize ((w.alloc (.cells s.c 87)).alloc (.cells NS.zero.c 87)) = w1 at HS0 ⊢
  go_wp2_with (first | go_skip | (refine wpList_load_row rfl 87 _ rfl w.heap.size rfl 87 s.c (0, 0) _ HS0.out.row Tryd.underlying87 rfl (nic_size _) ?_))
  refine (HWK.out _).mono ?_
  rintro e w2 ⟨rfl, hb⟩
  have HS := Lib.hid (HS0.out.below hb)
  clear hb HS0 HWK
  have HREG1 := Lib.hid (reg_step HREG.out.1 HS.out.st HREG.out.2)
  have HCH : Hid (Calls Tryd.prog 82 #[.agg s.c, .int .i64 0, .pointer (some ⟨g, 0, none⟩)] w2 (ChainPost w2 g m F (chainR s.p.a.rg m).1 (chainR s.p.a.rg m).2.1 (chainR s.p.a.rg m).2.2.1 (chainR s.p.a.rg m).2.2.2.1 (chainR s.p.a.rg m).2.2.2.2)) := Lib.hid (nic_chain s false HWF.out.ha HS.out.ram HREG1.out.1 HREG1.out.2)
  unfold chainR at HCH
  rw [hx] at HCH
  have HX := Lib.hid hx
  clear hx
  simp only at HCH
  have HB2L := Lib.hid (lt_heap HS.out.row)
  have HRM := Lib.hid hrm
  clear hrm
  rw [hw2] at HCH
  have HXW := Lib.hid hw2
  clear hw2
  rw [show errV (if (some l).isSome then 0 else 22) = .nilIface from rfl, show (some l).getD [] = l from rfl] at HCH
  go_wp2_with (first | go_skip | (refine wpList_load_row rfl 87 _ rfl w.heap.size rfl 87 s.c (0, 0) _ HS.out.row Tryd.underlying87 rfl (nic_size _) ?_))
  refine (HCH.out).mono ?_
  rintro e w3 ⟨v, F1, rfl, h1, h2, h3, h4⟩
  have HS3 := Lib.hid (HS.out.mem h1 h2)
  have H34 := Lib.hid (And.intro h3 h4)
  have KN := Lib.hid (heap_alloc_new w3 (.cells #[.int .i64 0, .int .u32 0, .int .u32 0, .int .u32 0, .int .u16 0, .int .u16 0] 58))
  have HBN := Lib.hid ((Below.refl w3.heap.size w3).alloc (Nat.le_refl _) (.cells #[.int .i64 0, .int .u32 0, .int .u32 0, .int .u32 0, .int .u16 0, .int .u16 0] 58))
  have HNF := Lib.hid (show ¬ F1 w3.heap.size from fun hf => absurd (h1.lt _ hf) (Nat.lt_irrefl _))
  clear h1 h2 h3 h4 HCH HS
  go_wp2_with (first | go_skip | (refine wpList_store_to rfl 58 _ _ rfl w3.heap.size (s.p.a.rg.took : Rg).c rfl rfl 58 #[.int .i64 0, .int .u32 0, .int .u32 0, .int .u32 0, .int .u16 0, .int .u16 0] KN.out (ring_size _) rfl (Rg.c_one _) ?_))
  intro w4 hx hk
  have HB4 : Hid (Below w3.heap.size w3 w4) := Lib.hid (HBN.out.trans (hx.out.below (fun k hk e => by omega) (by simp)))
  have HS4 := Lib.hid (HS3.out.below HB4.out)
  have K7 := Lib.hid hk
  clear hx hk KN HBN HS3
  obtain ⟨ao, c9, rfl, hc9, hl9, hsg⟩ := SegsAt.of_owns H34.out.1 H34.out.2
  have HSG := Lib.hid (hsg.below HB4.out)
  have HOKW := Lib.hid (rwalk_ok HXW.out)
  have HOKP := Lib.hid (And.intro (rnext_ok HX.out) (rnext_lt HX.out))
  have HLN := Lib.hid (show l.length ≤ 256 by have h1 := HOKW.out.2.2; have h2 := HOKP.out.1.2.1; omega)
  have HB0L := Lib.hid (lt_heap HS4.out.row)
  have HSB : Hid (l ≠ [] → ∃ b o, ao = some ⟨b, o, none⟩ ∧ w2.heap.size ≤ b) := Lib.hid (fun hne => by
    rcases H34.out.1.2 with ⟨hv, he⟩ | ⟨gq, cap, cur, hv, hg, _⟩
    · exact absurd (List.eq_nil_of_length_eq_zero he) hne
    · have e3 : ao = some ⟨gq, 0, none⟩ ∧ c9 = cap := by simpa using (show Value.slice ao l.length c9 = Value.slice (some ⟨gq, 0, none⟩) l.length cap from hv)
      exact ⟨gq, 0, e3.1, hg⟩)
  clear hc9 hl9 hsg
  go_upto_region 14 with (first | go_skip | (refine wpList_load_row rfl 58 _ rfl w3.heap.size rfl 58 (s.p.a.rg.took : Rg).c (0, 0) _ K7.out Tryd.underlying58 rfl (ring_size _) ?_) | (refine wpList_store_mid_to rfl 58 _ _ rfl w.heap.size 8 (s.p.a.rg.took : Rg).c rfl rfl 87 s.c HS4.out.row (by show 8 + 6 ≤ 23; omega) (ring_size _) (Rg.c_one _) ?_))
  intro w6 hx hk
  rw [put_ra] at hk
  have HS6 := Lib.hid (HS4.out.put hx.out hk)
  have HSG6 : Hid (SegsAt w6 ao l F1) := Lib.hid (fun hne => by
    obtain ⟨b, o, q1, q2, q3, q4⟩ := HSG.out hne
    obtain ⟨b', o', p1, p2⟩ := HSB.out hne
    obtain ⟨rfl, rfl⟩ : b = b' ∧ o = o' := by rw [q1] at p1; simpa using p1
    have hbn : ¬ b = w.heap.size := by have := HB2L.out; omega
    exact ⟨b, o, q1, Nat.lt_of_lt_of_le q2 hx.out.size, q3, fun k s r hk hr => (hx.out.cell (p := ⟨b, o + k * 3 + r, none⟩) q2 hbn).trans (q4 k s r hk hr)⟩)
  clear hx hk HS4 K7 HSG
  have HRO := Lib.hid (ring_Room ao l c9 w6 F1 HSG6.out (by have := HLN.out; omega) (by have h1 := (room_sum l).1; have h2 := HOKW.out.2.1; omega) (by have h1 := (room_sum l).2; have h2 := HOKW.out.2.1; omega))
  obtain ⟨Y, hY⟩ : ∃ Y, Y = roomW l := ⟨_, rfl⟩
  have HY := Lib.hid hY
  rw [← hY] at HRO
  generalize roomR l = X at HRO
  have hYI : ¬ (Y : Int) < 12 + (n : Int) := by have := HRM.out; rw [← HN.out, ← hY] at this; omega
  clear hY
  go_wp2_with fail
  refine (HRO.out).mono ?_
  rintro e w7 ⟨rfl, hb⟩
  have HS7 := Lib.hid (HS6.out.below hb)
  have HSG7 := Lib.hid (HSG6.out.below hb)
  clear hb HS6 HSG6 HRO
  have HREG7 := Lib.hid (reg_step HREG.out.1 HS7.out.st HREG.out.2)
  have hn15 : n ≤ 1514 := by omega
  have hmk := fun W => make_head n hn15 W
  have HFB := Lib.hid (HS7.out.ram.lt)
  have HW7 := Lib.hid (show w.heap.size ≤ w7.heap.size from HS7.out.st.kx.size)
  have K8 := Lib.hid (heap_alloc_new w7 (.cells (madeCells #[.int .u8 0] (12 + n)) 5))
  have HB8 := Lib.hid ((Below.refl w7.heap.size w7).alloc (Nat.le_refl _) (.cells (madeCells #[.int .u8 0] (12 + n)) 5))
  have c10 := (cell_of_row _ _ 10 _ _ _ K8.out).trans (made_get _ (show 10 < 12 + n by omega))
  have f10 := frozen_of_row _ _ 10 _ _ K8.out
  go_upto_region 19 with fail
  go_upto_region 20 with fail
  have K9 := Lib.hid (heap_alloc_new w7 (.cells ((madeCells #[.int .u8 0] (12 + n)).setIfInBounds 10 (.int .u8 1)) 5))
  have HB9 := Lib.hid ((Below.refl w7.heap.size w7).alloc (Nat.le_refl _) (.cells ((madeCells #[.int .u8 0] (12 + n)).setIfInBounds 10 (.int .u8 1)) 5))
  clear c10 f10 K8 HB8 hmk
  generalize (w7.alloc (.cells ((madeCells #[.int .u8 0] (12 + n)).setIfInBounds 10 (.int .u8 1)) 5)) = w8 at K9 HB9 ⊢
  have HO9 : Hid (w8.ownsRow w.heap.size 5 1 (.slice (some ⟨w7.heap.size, 0, none⟩) 12 (12 + n)) 12 (nicHead.map B8)) := Lib.hid ⟨rfl, .inr ⟨w7.heap.size, 12 + n, _, rfl, HW7.out, K9.out, by omega, by simp only [maxLen]; omega, by simp [size_madeCells], head_cells n⟩⟩
  have HBY9 := Lib.hid (HBY.out.kx (HS7.out.below HB9.out).st)
  obtain ⟨fb, fo, rfl, hfb, hff, hfc⟩ := HBY9.out (fun e => by have h1 := HN.out; rw [e] at h1; simp at h1; omega)
  have HNK : Hid (∀ j v, (fr.map B8)[j]? = some v → w8.cell? ((⟨fb, fo, none⟩ : Addr).add j) = some v) := Lib.hid (fun j v hj => by
    rw [List.getElem?_map] at hj
    cases hy : fr[j]? with
    | none => rw [hy] at hj; cases hj
    | some y =>
      rw [hy] at hj
      obtain rfl : B8 y = v := by simpa using hj
      rw [Addr.add_lit]
      exact hfc j y hy)
  clear hfb hff hfc HBY9 K9
  obtain ⟨i0, hi0, hz0, hz1, hz2⟩ := info_of info_u8
  go_wp2_with (first | go_skip | (refine wpList_append_own_at (w := w8) rfl _ _ 80 rfl w.heap.size 5 i0 _ 1 1 Tryd.underlying80 hi0 hz0 hz1 hz2 rfl (by omega) (.slice (some ⟨w7.heap.size, 0, none⟩) 12 (12 + n)) 12 (nicHead.map B8) rfl HO9.out ⟨fb, fo, none⟩ n bc (fr.map B8) rfl ?hl HNK.out ?h1 ?h63 ?hby ?hb ?hK))
  case hl => rw [List.length_map, Nat.mul_one, HN.out]
  case h1 =>
    intro u hu
    obtain ⟨x, _, rfl⟩ := List.mem_map.1 hu
    rfl
  case h63 => simp only [maxLen]; omega
  case hby => omega
  case hb => have h1 := HB9.out.size; have h2 := HW7.out; omega
  intro v' w10 hown hgr _ hvb
  obtain ⟨av', cv', rfl⟩ := ownsRow_form hown
  have HNV : Hid (∀ b, (Value.slice av' (12 + n) cv').ownBlock = some b → w7.heap.size ≤ b) := Lib.hid (fun b hb => by
    rcases hvb with e | e
    · have e3 : w7.heap.size = b := Option.some.inj (e.symm.trans hb)
      omega
    · have e3 : b = _ := Option.some.inj (hb.symm.trans e)
      have := HB9.out.size
      omega)
  have HB10 : Hid (Below w7.heap.size w7 w10) := Lib.hid (HB9.out.trans ⟨hgr.os, hgr.tape, hgr.output, hgr.size, fun k hk => hgr.block k (Nat.lt_of_lt_of_le hk HB9.out.size) (fun e => by have e3 : w7.heap.size = k := Option.some.inj e.symm; omega)⟩)
  rw [← List.map_append] at hown
  obtain ⟨ao10, c10, he10, hc10, hl10, hba⟩ := BytesAt.of_owns (F := F1) hown (fun b hb hf => absurd (HFB.out b hf) (Nat.not_lt_of_le (HNV.out b hb)))
  obtain ⟨rfl, rfl⟩ : av' = ao10 ∧ cv' = c10 := by simpa using he10
  have HBA := Lib.hid hba
  have HC10 := Lib.hid (And.intro hc10 hl10)
  have HS10 := Lib.hid (HS7.out.below HB10.out)
  have HSG10 := Lib.hid (HSG7.out.below HB10.out)
  have HREG10 := Lib.hid (reg_step HREG.out.1 HS10.out.st HREG.out.2)
  clear hown hgr hvb he10 hc10 hl10 hba HS7 HSG7 HREG7 HO9 HNK hi0 hz0 hz1 hz2
  have HSC := Lib.hid (ring_Scatter_ok ao l c9 av' (nicHead ++ fr) cv' HS10.out.ram HREG10.out.1 HREG10.out.2 HSG10.out HOKW.out.1.w (by have := HLN.out; omega) (by have h1 := (room_sum l).1; have h2 := HOKW.out.2.1; omega) (by have h1 := (room_sum l).2; have h2 := HOKW.out.2.1; omega) HBA.out (by rw [HC10.out.2]; exact HC10.out.1) (by rw [HC10.out.2]; have h1 := HRM.out; have h2 := HN.out; omega))
  rw [HC10.out.2] at HSC
  go_wp2_with fail
  refine (HSC.out).mono ?_
  rintro e w11 ⟨F11, rfl, q1, q2⟩
  have HS11 := Lib.hid (HS10.out.mem q1 q2)
  clear q1 q2 HSC HS10
  have HREGQ := Lib.hid (reg_step HREG.out.1 HS11.out.st HREG.out.2)
  have e12 : ((12 + fr.length : Nat) : Int) = 12 + (n : Int) := by rw [HN.out]; omega
  have HGIV : Hid (Calls Tryd.prog 83 #[.pointer (some ⟨w.heap.size, 0, none⟩), .int .i64 0, .pointer (some ⟨g, 0, none⟩), .int .i64 hd, .int .i64 (12 + (n : Int))] w11 fun e w' => ∃ F2, e = .returned (.bool (rgive s.p.a.rg.took (rscat m l (nicHead ++ fr)) hd (12 + fr.length)).1) ∧ RamIs w' g (rgive s.p.a.rg.took (rscat m l (nicHead ++ fr)) hd (12 + fr.length)).2 F2 ∧ (∀ k, F2 k → F11 k ∨ w11.heap.size ≤ k) ∧ KX (fun k => F11 k ∨ k = w.heap.size) w11 w' ∧ w'.heap[w.heap.size]? = some (.cells ((s.setR false s.p.a.rg.took).gave false (rgive s.p.a.rg.took (rscat m l (nicHead ++ fr)) hd (12 + fr.length)).1).c 87 (0, 0))) := Lib.hid (by rw [← e12]; exact nic_give (s.setR false s.p.a.rg.took) false (NS.setR_wf HWF.out (Rg.took_wf (VQ.rg_wf HWF.out.ha))) hd (12 + fr.length) (took_ok HOKP.out.1) HOKP.out.2 (by have := HN.out; omega) HS11.out.ram HREGQ.out.1 HREGQ.out.2 HS11.out.row HS11.out.nb.1)
  generalize hrg : rgive s.p.a.rg.took (rscat m l (nicHead ++ fr)) hd (12 + fr.length) = rg at HGIV
  obtain ⟨ok, mg⟩ := rg
  have HRG := Lib.hid hrg
  clear hrg
  dsimp only at HGIV
  go_wp2_with fail
  refine (HGIV.out).mono ?_
  rintro e w9 ⟨F9, rfl, q1, q2, q3, q4⟩
  have HS9 := Lib.hid (HS11.out.give q1 q2 q3 q4)
  clear q1 q2 q3 q4 HGIV HS11
  have HSO := Lib.hid (NS.c_one ((s.setR false s.p.a.rg.took).gave false ok))
  go_wp2_with (first | go_skip | (refine wpList_load_row rfl 87 _ rfl w.heap.size rfl 87 ((s.setR false s.p.a.rg.took).gave false ok : NS).c (0, 0) _ HS9.out.row Tryd.underlying87 rfl (nic_size _) ?_) | (refine wpList_store_to rfl 87 _ _ rfl (w.heap.size + 1) ((s.setR false s.p.a.rg.took).gave false ok : NS).c rfl rfl 87 NS.zero.c HS9.out.zrow (nic_size _) rfl HSO.out ?_))
  intro wz hx hk
  have HFN := Lib.hid (HS9.out.fin hx.out)
  have HKZ := Lib.hid hk
  clear hx hk
  go_wp2_with fail
  exact bodyPost_ret (v := .tuple #[.agg ((s.setR false s.p.a.rg.took).gave false ok : NS).c, .bool true, .nilIface]) (results_cell_tmp2 Tryd.results51 _ _ (w.heap.size + 1) 87 ((s.setR false s.p.a.rg.took).gave false ok : NS).c (0, 0) _ rfl HKZ.out Tryd.underlying87 rfl (nic_size _)) rfl (show TakePost w g F _ _ _ from by (first | rw [HRG.out] | rw [HN.out, HRG.out]); exact ⟨_, rfl, HFN.out.1, HFN.out.2.1⟩)
theorem nic_Take {g : Nat} {m : Mm} {F : Nat → Prop} {w : World} (s : NS) (hs : s.p.wf) (hlst : s.lost < 4294967296) (bo : Option Addr) (fr : List UInt8) (bc : Nat) (h : RamIs w g m F) (hr : RegAt w) (hrf : ¬ F 0) (hb : BytesAt w bo fr F) (hcap : fr.length ≤ bc) :
    Calls Tryd.prog 51 #[.agg s.c, .pointer (some ⟨g, 0, none⟩), .slice bo fr.length bc] w (TakePost w g F (ntake s m fr)) := by
  by_cases h1 : fr.length < 1
  · rw [show ntake s m fr = (NS.zero, m, false, 2) from if_pos (.inl h1)]
    exact nic_Take_short s hs hlst bo fr bc h hr hrf hb hcap h1
  by_cases h2 : 1514 < fr.length
  · rw [show ntake s m fr = (NS.zero, m, false, 2) from if_pos (.inr h2)]
    exact nic_Take_long s hs hlst bo fr bc h hr hrf hb hcap h2
  unfold ntake
  rw [if_neg (by omega)]
  by_cases hw : s.works false
  · rw [if_neg (fun h => h hw)]
    cases hx : rnext s.p.a.rg m with
    | none => exact nic_Take_err s hs hlst bo fr bc h hr hrf hb hcap (by omega) (by omega) hw hx
    | some x =>
      cases x with
      | none => exact nic_Take_none s hs hlst bo fr bc h hr hrf hb hcap (by omega) (by omega) hw hx
      | some hd =>
        simp only
        cases hw2 : rwalk s.p.a.de s.p.a.size.toNat m hd with
        | none => exact nic_Take_nowalk s hs hlst bo fr bc h hr hrf hb hcap (by omega) (by omega) hw hx hw2
        | some l =>
          simp only
          by_cases hrm : roomW l < 12 + fr.length
          · rw [if_pos hrm]
            exact nic_Take_small s hs hlst bo fr bc h hr hrf hb hcap (by omega) (by omega) hw hx hw2 hrm
          · rw [if_neg hrm]
            exact nic_Take_ok s hs hlst bo fr bc h hr hrf hb hcap (by omega) (by omega) hw hx hw2 hrm
  · rw [if_pos hw]
    exact nic_Take_idle s hs hlst bo fr bc h hr hrf hb hcap (by omega) (by omega) hw
end Go.Proofs.YtcbjlpkkebcmjaaDoor
