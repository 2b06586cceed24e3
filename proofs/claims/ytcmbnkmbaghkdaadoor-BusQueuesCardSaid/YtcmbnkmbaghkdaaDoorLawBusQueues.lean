/-
pinnacelaw07.BusQueues, walked: it answers true.
Conditions: the table of regions of package bus and the errors' variable read as their texts lay them.
-/
import Derived.Test.YtcmbnkmbaghkdaaDoorBusGen
namespace Go.Proofs.YtcmbnkmbaghkdaaDoor
open Go.RowKit
set_option linter.unusedVariables false

set_option maxRecDepth 100000 in
set_option maxHeartbeats 4000000 in
theorem queues_many (ao : Option Addr) (n cap : Nat) (p : Pst) (w : World) (hn : 200 < n) (hr : RegAt w) (he : ErrAt w) :
    Calls Tryd.prog 3 #[.agg #[.slice ao n cap], .agg #[.int .i64 p.dev, .int .u32 p.at_, .int .i64 p.n, .int .u32 p.val]] w fun e w' => e = .returned (.bool true) ∧ Below w.heap.size w w' := by
  have hni : (200 : Int) < (n : Int) := by omega
  have HRE := Lib.hid (And.intro hr he)
  clear hn hr he
  obtain ⟨k0, k1, hb0⟩ := two_new w (.cells #[.slice ao n cap] 24) (.cells #[.int .i64 p.dev, .int .u32 p.at_, .int .i64 p.n, .int .u32 p.val] 27)
  have K0a := Lib.hid k0
  have K1a := Lib.hid k1
  have HB0a := Lib.hid hb0
  clear k0 k1 hb0
  go_enter Tryd.func3, Tryd.ntmps3
  go_upto_region 1 with fail
  change Code.wp _ _ _ _ ((w.alloc (.cells #[.slice ao n cap] 24)).alloc (.cells #[.int .i64 p.dev, .int .u32 p.at_, .int .i64 p.n, .int .u32 p.val] 27))
  generalize ((w.alloc (.cells #[.slice ao n cap] 24)).alloc (.cells #[.int .i64 p.dev, .int .u32 p.at_, .int .i64 p.n, .int .u32 p.val] 27)) = w1 at K0a K1a HB0a ⊢
  have cf1 := (cell_of_row _ _ 0 _ _ _ K0a.out).trans (rfl : _ = some (.slice ao n cap : Value))
  have HSU := Lib.hid (law7_sure w1 (HRE.out.1.below HB0a.out) (HRE.out.2.below HB0a.out))
  go_wp2_with fail
  refine (HSU.out).mono ?_
  rintro e w2 ⟨rfl, hb⟩
  go_wp2_with fail
  go_ret
  exact ⟨rfl, HB0a.out.trans (hb.mono HB0a.out.size)⟩
set_option maxRecDepth 100000 in
set_option maxHeartbeats 16000000 in
theorem queues_few (ao : Option Addr) (l : List Pst) (n cap : Nat) (hn : n = l.length) (p : Pst) (w : World) (hp : PostsAt w ao l) (hwf : ∀ (k : Nat) (q : Pst), l[k]? = some q → q.wf) (hpw : p.wf) (hno : ao = none → l.length = 0 ∧ cap = 0) (hcap : l.length ≤ cap) (hl : l.length ≤ 200) (hr : RegAt w) (he : ErrAt w) :
    Calls Tryd.prog 3 #[.agg #[.slice ao n cap], .agg #[.int .i64 p.dev, .int .u32 p.at_, .int .i64 p.n, .int .u32 p.val]] w fun e w' => e = .returned (.bool true) ∧ Below w.heap.size w w' := by
  have hni : ¬ (200 : Int) < (n : Int) := by omega
  have HRE := Lib.hid (And.intro hr he)
  have HP := Lib.hid hp
  have HW := Lib.hid (And.intro hwf hpw)
  have HNC := Lib.hid (And.intro hno (And.intro hcap hl))
  have HN := Lib.hid hn
  clear hn hr he hp hwf hpw hno hcap hl
  obtain ⟨k0, k1, hb0⟩ := two_new w (.cells #[.slice ao n cap] 24) (.cells #[.int .i64 p.dev, .int .u32 p.at_, .int .i64 p.n, .int .u32 p.val] 27)
  have K0a := Lib.hid k0
  have K1a := Lib.hid k1
  have HB0a := Lib.hid hb0
  clear k0 k1 hb0
  go_enter Tryd.func3, Tryd.ntmps3
  go_upto_region 1 with fail
  change Code.wp _ _ _ _ ((w.alloc (.cells #[.slice ao n cap] 24)).alloc (.cells #[.int .i64 p.dev, .int .u32 p.at_, .int .i64 p.n, .int .u32 p.val] 27))
  generalize ((w.alloc (.cells #[.slice ao n cap] 24)).alloc (.cells #[.int .i64 p.dev, .int .u32 p.at_, .int .i64 p.n, .int .u32 p.val] 27)) = w1 at K0a K1a HB0a ⊢
  have cf1 := (cell_of_row _ _ 0 _ _ _ K0a.out).trans (rfl : _ = some (.slice ao n cap : Value))
  go_upto_region 3 with fail
  clear cf1
  have HGI : Hid (Calls Tryd.prog 8 #[.agg #[.slice ao n cap]] w1 fun e w' => (∃ ao' cap', e = .returned (.agg #[.slice ao' l.length cap']) ∧ l.length ≤ cap' ∧ (ao' = none → l.length = 0 ∧ cap' = 0) ∧ PostsAt w' ao' l) ∧ Below w1.heap.size w1 w') := Lib.hid (by rw [HN.out]; exact law7_give ao l cap w1 (HP.out.below HB0a.out) HNC.out.2.2)
  go_wp2_with (first | go_skip | (refine wpList_load_row rfl 24 _ rfl (w.heap.size) rfl 24 #[.slice ao n cap] (0, 0) _ K0a.out Tryd.underlying24 rfl (by kernel_rfl) ?_))
  refine (HGI.out).mono ?_
  rintro e w2 ⟨⟨g0, c0, rfl, hc0, hn0, hp0⟩, hb⟩
  have K3 := Lib.hid (keepB K0a.out hb)
  clear K0a
  have K4 := Lib.hid (keepB K1a.out hb)
  clear K1a
  have HB5 := Lib.hid (HB0a.out.trans (hb.mono HB0a.out.size))
  clear HB0a
  rw [← HN.out]
  have HC0 := Lib.hid (And.intro hn0 hc0)
  have HP0 := Lib.hid hp0
  clear hc0 hn0 hp0 HGI
  clear hb
  have KN6 := Lib.hid (heap_alloc_new w2 (.cells #[.slice none 0 0] 31))
  have HBN7 := Lib.hid ((Below.refl w2.heap.size w2).alloc (Nat.le_refl _) (.cells #[.slice none 0 0] 31))
  have HO8 := Lib.hid (show (#[.slice g0 n c0] : Array Value).all (·.oneCell') = true from by simp [Value.oneCell'])
  have hlt10 := lt_heap K3.out
  have hlt11 := lt_heap K4.out
  go_upto_region 4 with (first | go_skip | (refine wpList_store_to rfl 31 _ _ rfl (w2.heap.size) #[.slice g0 n c0] rfl rfl 31 #[.slice none 0 0] KN6.out (by kernel_rfl) rfl HO8.out ?_))
  intro w9 hx hkk
  have hb : Below w2.heap.size w2 w9 := HBN7.out.trans (hx.out.below (fun k hk e => by omega) (by simp))
  clear KN6 HBN7 hx
  have HE12 := Lib.hid (HP0.out.below hb)
  clear HP0
  have K13 := Lib.hid (keepB K3.out hb)
  clear K3
  have K14 := Lib.hid (keepB K4.out hb)
  clear K4
  have HB15 := Lib.hid (HB5.out.trans (hb.mono HB5.out.size))
  clear HB5
  have K16 := Lib.hid hkk
  clear hkk
  have HPU : Hid (Calls Tryd.prog 9 #[.agg #[.slice g0 n c0], .agg #[.int .i64 p.dev, .int .u32 p.at_, .int .i64 p.n, .int .u32 p.val]] w9 fun e w' => (∃ ao' cap', e = .returned (.tuple #[.agg #[.slice ao' (pushL l p).length cap'], errV (pushN l p)]) ∧ PostsAt w' ao' (pushL l p)) ∧ Below w9.heap.size w9 w') := Lib.hid (by rw [HN.out]; exact bus_Push_gen g0 l c0 p w9 HE12.out (HRE.out.1.below HB15.out) HNC.out.2.2 HC0.out.1 HC0.out.2)
  obtain ⟨N1, hN1⟩ : ∃ N1, N1 = pushN l p := ⟨_, rfl⟩
  obtain ⟨L1, hL1⟩ : ∃ L1, L1 = pushL l p := ⟨_, rfl⟩
  have HE1 := Lib.hid (And.intro hN1 hL1)
  rw [← hN1, ← hL1] at HPU
  obtain ⟨E1, hE1⟩ : ∃ E1, E1 = errV N1 := ⟨_, rfl⟩
  rw [← hE1] at HPU
  have HV1 := Lib.hid hE1
  clear hN1 hL1 hE1
  go_wp2_with (first | go_skip | (refine wpList_load_row rfl 31 _ rfl (w2.heap.size) rfl 31 #[.slice g0 n c0] (0, 0) _ K16.out Tryd.underlying31 rfl (by kernel_rfl) ?_) | (refine wpList_load_row rfl 27 _ rfl (w.heap.size + 1) rfl 27 #[.int .i64 p.dev, .int .u32 p.at_, .int .i64 p.n, .int .u32 p.val] (0, 0) _ K14.out Tryd.underlying27 rfl (by kernel_rfl) ?_))
  refine (HPU.out).mono ?_
  rintro e w17 ⟨⟨g1, c1, rfl, hp1⟩, hb⟩
  have HE18 := Lib.hid (HE12.out.below hb)
  clear HE12
  have K19 := Lib.hid (keepB K13.out hb)
  clear K13
  have K20 := Lib.hid (keepB K14.out hb)
  clear K14
  have K21 := Lib.hid (keepB K16.out hb)
  clear K16
  have HB22 := Lib.hid (HB15.out.trans (hb.mono HB15.out.size))
  clear HB15
  have HP1 := Lib.hid hp1
  clear hp1 HPU
  clear hb
  have KN23 := Lib.hid (heap_alloc_new w17 (.cells #[.slice none 0 0] 31))
  have HBN24 := Lib.hid ((Below.refl w17.heap.size w17).alloc (Nat.le_refl _) (.cells #[.slice none 0 0] 31))
  have HO25 := Lib.hid (show (#[.slice g1 L1.length c1] : Array Value).all (·.oneCell') = true from by simp [Value.oneCell'])
  have hlt27 := lt_heap K19.out
  have hlt28 := lt_heap K20.out
  have hlt29 := lt_heap K21.out
  go_upto_region 5 with (first | go_skip | (refine wpList_store_to rfl 31 _ _ rfl (w17.heap.size) #[.slice g1 L1.length c1] rfl rfl 31 #[.slice none 0 0] KN23.out (by kernel_rfl) rfl HO25.out ?_))
  intro w26 hx hkk
  have hb : Below w17.heap.size w17 w26 := HBN24.out.trans (hx.out.below (fun k hk e => by omega) (by simp))
  clear KN23 HBN24 hx
  have HE30 := Lib.hid (HE18.out.below hb)
  clear HE18
  have HE31 := Lib.hid (HP1.out.below hb)
  clear HP1
  have K32 := Lib.hid (keepB K19.out hb)
  clear K19
  have K33 := Lib.hid (keepB K20.out hb)
  clear K20
  have K34 := Lib.hid (keepB K21.out hb)
  clear K21
  have HB35 := Lib.hid (HB22.out.trans (hb.mono HB22.out.size))
  clear HB22
  have K36 := Lib.hid hkk
  clear hkk
  have HPU : Hid (Calls Tryd.prog 10 #[.agg #[.slice ao n cap], .agg #[.int .i64 p.dev, .int .u32 p.at_, .int .i64 p.n, .int .u32 p.val]] w26 fun e w' => (∃ ao' cap', e = .returned (.tuple #[.agg #[.slice ao' L1.length cap'], .int .i64 (N1 : Nat)]) ∧ PostsAt w' ao' L1) ∧ Below w26.heap.size w26 w') := Lib.hid (by rw [HN.out, HE1.out.1, HE1.out.2]; exact ref7_Push_gen ao l cap p w26 (HP.out.below HB35.out) HW.out.1 HW.out.2 HNC.out.2.2 HNC.out.1 HNC.out.2.1)
  go_wp2_with (first | go_skip | (refine wpList_load_row rfl 24 _ rfl (w.heap.size) rfl 24 #[.slice ao n cap] (0, 0) _ K32.out Tryd.underlying24 rfl (by kernel_rfl) ?_) | (refine wpList_load_row rfl 27 _ rfl (w.heap.size + 1) rfl 27 #[.int .i64 p.dev, .int .u32 p.at_, .int .i64 p.n, .int .u32 p.val] (0, 0) _ K33.out Tryd.underlying27 rfl (by kernel_rfl) ?_))
  refine (HPU.out).mono ?_
  rintro e w37 ⟨⟨g2, c2, rfl, hp2⟩, hb⟩
  have HE38 := Lib.hid (HE30.out.below hb)
  clear HE30
  have HE39 := Lib.hid (HE31.out.below hb)
  clear HE31
  have K40 := Lib.hid (keepB K32.out hb)
  clear K32
  have K41 := Lib.hid (keepB K33.out hb)
  clear K33
  have K42 := Lib.hid (keepB K34.out hb)
  clear K34
  have K43 := Lib.hid (keepB K36.out hb)
  clear K36
  have HB44 := Lib.hid (HB35.out.trans (hb.mono HB35.out.size))
  clear HB35
  have HP2 := Lib.hid hp2
  clear hp2 HPU
  clear hb
  have KN45 := Lib.hid (heap_alloc_new w37 (.cells #[.slice none 0 0] 24))
  have HBN46 := Lib.hid ((Below.refl w37.heap.size w37).alloc (Nat.le_refl _) (.cells #[.slice none 0 0] 24))
  have HO47 := Lib.hid (show (#[.slice g2 L1.length c2] : Array Value).all (·.oneCell') = true from by simp [Value.oneCell'])
  have hlt49 := lt_heap K40.out
  have hlt50 := lt_heap K41.out
  have hlt51 := lt_heap K42.out
  have hlt52 := lt_heap K43.out
  go_upto_region 6 with (first | go_skip | (refine wpList_store_to rfl 24 _ _ rfl (w37.heap.size) #[.slice g2 L1.length c2] rfl rfl 24 #[.slice none 0 0] KN45.out (by kernel_rfl) rfl HO47.out ?_))
  intro w48 hx hkk
  have hb : Below w37.heap.size w37 w48 := HBN46.out.trans (hx.out.below (fun k hk e => by omega) (by simp))
  clear KN45 HBN46 hx
  have HE53 := Lib.hid (HE38.out.below hb)
  clear HE38
  have HE54 := Lib.hid (HE39.out.below hb)
  clear HE39
  have HE55 := Lib.hid (HP2.out.below hb)
  clear HP2
  have K56 := Lib.hid (keepB K40.out hb)
  clear K40
  have K57 := Lib.hid (keepB K41.out hb)
  clear K41
  have K58 := Lib.hid (keepB K42.out hb)
  clear K42
  have K59 := Lib.hid (keepB K43.out hb)
  clear K43
  have HB60 := Lib.hid (HB44.out.trans (hb.mono HB44.out.size))
  clear HB44
  have K61 := Lib.hid hkk
  clear hkk
  have HPU : Hid (Calls Tryd.prog 11 #[.agg #[.slice g0 n c0]] w48 fun e w' => (∃ ao' cap', e = .returned (.tuple #[.agg #[.slice ao' (popL l).length cap'], .agg #[.int .i64 (popP l).dev, .int .u32 (popP l).at_, .int .i64 (popP l).n, .int .u32 (popP l).val], errV (popN l)]) ∧ PostsAt w' ao' (popL l)) ∧ Below w48.heap.size w48 w') := Lib.hid (by rw [HN.out]; exact bus_Pop_gen g0 l c0 w48 HE53.out (HRE.out.1.below HB60.out) HNC.out.2.2 HC0.out.2)
  obtain ⟨N2, hN1⟩ : ∃ N1, N1 = popN l := ⟨_, rfl⟩
  obtain ⟨L2, hL1⟩ : ∃ L1, L1 = popL l := ⟨_, rfl⟩
  obtain ⟨t, ht⟩ : ∃ t, t = popP l := ⟨_, rfl⟩
  have HE2 := Lib.hid (And.intro hN1 (And.intro hL1 ht))
  rw [← hN1, ← hL1, ← ht] at HPU
  obtain ⟨E2, hE1⟩ : ∃ E1, E1 = errV N2 := ⟨_, rfl⟩
  rw [← hE1] at HPU
  have HV2 := Lib.hid hE1
  clear hN1 hL1 ht hE1
  go_wp2_with (first | go_skip | (refine wpList_load_row rfl 31 _ rfl (w2.heap.size) rfl 31 #[.slice g0 n c0] (0, 0) _ K58.out Tryd.underlying31 rfl (by kernel_rfl) ?_))
  refine (HPU.out).mono ?_
  rintro e w62 ⟨⟨g3, c3, rfl, hp3⟩, hb⟩
  have HE63 := Lib.hid (HE53.out.below hb)
  clear HE53
  have HE64 := Lib.hid (HE54.out.below hb)
  clear HE54
  have HE65 := Lib.hid (HE55.out.below hb)
  clear HE55
  have K66 := Lib.hid (keepB K56.out hb)
  clear K56
  have K67 := Lib.hid (keepB K57.out hb)
  clear K57
  have K68 := Lib.hid (keepB K58.out hb)
  clear K58
  have K69 := Lib.hid (keepB K59.out hb)
  clear K59
  have K70 := Lib.hid (keepB K61.out hb)
  clear K61
  have HB71 := Lib.hid (HB60.out.trans (hb.mono HB60.out.size))
  clear HB60
  have HP3 := Lib.hid hp3
  clear hp3 HPU
  clear hb
  obtain ⟨kn1, kn2, hbn⟩ := two_new w62 (.cells #[.slice none 0 0] 31) (.cells #[.int .i64 0, .int .u32 0, .int .i64 0, .int .u32 0] 37)
  have KN1 := Lib.hid kn1
  have KN2 := Lib.hid kn2
  have HBN := Lib.hid hbn
  clear kn1 kn2 hbn
  have HO72 := Lib.hid (show (#[.slice g3 L2.length c3] : Array Value).all (·.oneCell') = true from by simp [Value.oneCell'])
  have HO73 := Lib.hid (show (#[.int .i64 t.dev, .int .u32 t.at_, .int .i64 t.n, .int .u32 t.val] : Array Value).all (·.oneCell') = true from by simp [Value.oneCell'])
  go_wp2_with (first | go_skip | (refine wpList_store_to rfl 31 _ _ rfl (w62.heap.size) #[.slice g3 L2.length c3] rfl rfl 31 #[.slice none 0 0] KN1.out (by kernel_rfl) rfl HO72.out ?_))
  intro w74 hxa hka
  have KN3 := Lib.hid (hxa.out.heap KN2.out (by omega))
  go_upto_region 7 with (first | go_skip | (refine wpList_store_to rfl 37 _ _ rfl (w62.heap.size + 1) #[.int .i64 t.dev, .int .u32 t.at_, .int .i64 t.n, .int .u32 t.val] rfl rfl 37 #[.int .i64 0, .int .u32 0, .int .i64 0, .int .u32 0] KN3.out (by kernel_rfl) rfl HO73.out ?_))
  intro w75 hxb hkb
  have hb : Below w62.heap.size w62 w75 := (HBN.out.trans (hxa.out.below (B := w62.heap.size) (fun k hk e => by omega) HBN.out.size)).trans (hxb.out.below (B := w62.heap.size) (fun k hk e => by omega) (Nat.le_trans HBN.out.size hxa.out.size))
  have hka2 := hxb.out.heap hka (by omega)
  clear KN1 KN2 KN3 HBN hxa hxb hka
  have HE76 := Lib.hid (HE63.out.below hb)
  clear HE63
  have HE77 := Lib.hid (HE64.out.below hb)
  clear HE64
  have HE78 := Lib.hid (HE65.out.below hb)
  clear HE65
  have HE79 := Lib.hid (HP3.out.below hb)
  clear HP3
  have K80 := Lib.hid (keepB K66.out hb)
  clear K66
  have K81 := Lib.hid (keepB K67.out hb)
  clear K67
  have K82 := Lib.hid (keepB K68.out hb)
  clear K68
  have K83 := Lib.hid (keepB K69.out hb)
  clear K69
  have K84 := Lib.hid (keepB K70.out hb)
  clear K70
  have HB85 := Lib.hid (HB71.out.trans (hb.mono HB71.out.size))
  clear HB71
  have K86 := Lib.hid hka2
  have K87 := Lib.hid hkb
  clear hb hka2 hkb
  have HPU : Hid (Calls Tryd.prog 12 #[.agg #[.slice ao n cap]] w75 fun e w' => (∃ ao' cap', e = .returned (.tuple #[.agg #[.slice ao' L2.length cap'], .agg #[.int .i64 t.dev, .int .u32 t.at_, .int .i64 t.n, .int .u32 t.val], .int .i64 (N2 : Nat)]) ∧ PostsAt w' ao' L2) ∧ Below w75.heap.size w75 w') := Lib.hid (by rw [HN.out, HE2.out.1, HE2.out.2.1, HE2.out.2.2]; exact ref7_Pop_gen ao l cap w75 (HP.out.below HB85.out) HW.out.1 HNC.out.2.2 HNC.out.2.1)
  go_wp2_with (first | go_skip | (refine wpList_load_row rfl 24 _ rfl (w.heap.size) rfl 24 #[.slice ao n cap] (0, 0) _ K80.out Tryd.underlying24 rfl (by kernel_rfl) ?_))
  refine (HPU.out).mono ?_
  rintro e w88 ⟨⟨g4, c4, rfl, hp4⟩, hb⟩
  have HE89 := Lib.hid (HE76.out.below hb)
  clear HE76
  have HE90 := Lib.hid (HE77.out.below hb)
  clear HE77
  have HE91 := Lib.hid (HE78.out.below hb)
  clear HE78
  have HE92 := Lib.hid (HE79.out.below hb)
  clear HE79
  have K93 := Lib.hid (keepB K80.out hb)
  clear K80
  have K94 := Lib.hid (keepB K81.out hb)
  clear K81
  have K95 := Lib.hid (keepB K82.out hb)
  clear K82
  have K96 := Lib.hid (keepB K83.out hb)
  clear K83
  have K97 := Lib.hid (keepB K84.out hb)
  clear K84
  have K98 := Lib.hid (keepB K86.out hb)
  clear K86
  have K99 := Lib.hid (keepB K87.out hb)
  clear K87
  have HB100 := Lib.hid (HB85.out.trans (hb.mono HB85.out.size))
  clear HB85
  have HP4 := Lib.hid hp4
  clear hp4 HPU
  clear hb
  obtain ⟨kn1, kn2, hbn⟩ := two_new w88 (.cells #[.slice none 0 0] 24) (.cells #[.int .i64 0, .int .u32 0, .int .i64 0, .int .u32 0] 27)
  have KN1 := Lib.hid kn1
  have KN2 := Lib.hid kn2
  have HBN := Lib.hid hbn
  clear kn1 kn2 hbn
  have HO101 := Lib.hid (show (#[.slice g4 L2.length c4] : Array Value).all (·.oneCell') = true from by simp [Value.oneCell'])
  have HO102 := Lib.hid (show (#[.int .i64 t.dev, .int .u32 t.at_, .int .i64 t.n, .int .u32 t.val] : Array Value).all (·.oneCell') = true from by simp [Value.oneCell'])
  go_wp2_with (first | go_skip | (refine wpList_store_to rfl 24 _ _ rfl (w88.heap.size) #[.slice g4 L2.length c4] rfl rfl 24 #[.slice none 0 0] KN1.out (by kernel_rfl) rfl HO101.out ?_))
  intro w103 hxa hka
  have KN3 := Lib.hid (hxa.out.heap KN2.out (by omega))
  go_upto_region 8 with (first | go_skip | (refine wpList_store_to rfl 27 _ _ rfl (w88.heap.size + 1) #[.int .i64 t.dev, .int .u32 t.at_, .int .i64 t.n, .int .u32 t.val] rfl rfl 27 #[.int .i64 0, .int .u32 0, .int .i64 0, .int .u32 0] KN3.out (by kernel_rfl) rfl HO102.out ?_))
  intro w104 hxb hkb
  have hb : Below w88.heap.size w88 w104 := (HBN.out.trans (hxa.out.below (B := w88.heap.size) (fun k hk e => by omega) HBN.out.size)).trans (hxb.out.below (B := w88.heap.size) (fun k hk e => by omega) (Nat.le_trans HBN.out.size hxa.out.size))
  have hka2 := hxb.out.heap hka (by omega)
  clear KN1 KN2 KN3 HBN hxa hxb hka
  have HE105 := Lib.hid (HE89.out.below hb)
  clear HE89
  have HE106 := Lib.hid (HE90.out.below hb)
  clear HE90
  have HE107 := Lib.hid (HE91.out.below hb)
  clear HE91
  have HE108 := Lib.hid (HE92.out.below hb)
  clear HE92
  have HE109 := Lib.hid (HP4.out.below hb)
  clear HP4
  have K110 := Lib.hid (keepB K93.out hb)
  clear K93
  have K111 := Lib.hid (keepB K94.out hb)
  clear K94
  have K112 := Lib.hid (keepB K95.out hb)
  clear K95
  have K113 := Lib.hid (keepB K96.out hb)
  clear K96
  have K114 := Lib.hid (keepB K97.out hb)
  clear K97
  have K115 := Lib.hid (keepB K98.out hb)
  clear K98
  have K116 := Lib.hid (keepB K99.out hb)
  clear K99
  have HB117 := Lib.hid (HB100.out.trans (hb.mono HB100.out.size))
  clear HB100
  have K118 := Lib.hid hka2
  have K119 := Lib.hid hkb
  clear hb hka2 hkb
  go_upto_region 8 with fail
  have HL12 : Hid (L1.length ≤ 1000 ∧ L2.length ≤ 1000) := Lib.hid (by
    have h1 := HNC.out.2.2
    rw [HE1.out.2, HE2.out.2.1]
    constructor
    · unfold pushL; split
      · rw [List.length_append]; simp; omega
      · simp
    · unfold popL; split
      · rw [List.length_tail]; omega
      · simp)
  have HS1 : Hid (∀ W, Below w104.heap.size w104 W → Calls Tryd.prog 13 #[.agg #[.slice g1 L1.length c1], .agg #[.slice g2 L1.length c2]] W fun e w' => e = .returned (.bool true) ∧ Below W.heap.size W w') := Lib.hid (fun W hW => by exact law7_same g1 g2 L1 c1 c2 W (HE106.out.below hW) (HE107.out.below hW) HL12.out.1)
  have HS2 : Hid (∀ W, Below w104.heap.size w104 W → Calls Tryd.prog 13 #[.agg #[.slice g3 L2.length c3], .agg #[.slice g4 L2.length c4]] W fun e w' => e = .returned (.bool true) ∧ Below W.heap.size W w') := Lib.hid (fun W hW => by exact law7_same g3 g4 L2 c3 c4 W (HE108.out.below hW) (HE109.out.below hW) HL12.out.2)
  have HS3 : Hid (∀ W, Below w104.heap.size w104 W → Calls Tryd.prog 13 #[.agg #[.slice g0 n c0], .agg #[.slice ao n cap]] W fun e w' => e = .returned (.bool true) ∧ Below W.heap.size W w') := Lib.hid (fun W hW => by rw [HN.out]; exact law7_same g0 ao l c0 cap W (HE105.out.below hW) ((HP.out.below HB117.out).below hW) (by have := HNC.out.2.2; omega))
  have HM1 : Hid (∀ W, Below w104.heap.size w104 W → Calls Tryd.prog 14 #[E1] W fun e w' => e = .returned (.int .i64 (N1 : Nat)) ∧ Below W.heap.size W w') := Lib.hid (fun W hW => by rw [HV1.out]; exact num07_of N1 W (HRE.out.2.below (HB117.out.trans (hW.mono HB117.out.size))))
  have HM2 : Hid (∀ W, Below w104.heap.size w104 W → Calls Tryd.prog 14 #[E2] W fun e w' => e = .returned (.int .i64 (N2 : Nat)) ∧ Below W.heap.size W w') := Lib.hid (fun W hW => by rw [HV2.out]; exact num07_of N2 W (HRE.out.2.below (HB117.out.trans (hW.mono HB117.out.size))))
  obtain ⟨N3, hN3⟩ : ∃ N3, N3 = if queueOk l then 0 else 1 := ⟨_, rfl⟩
  have HN3 := Lib.hid hN3
  obtain ⟨E3, hE3⟩ : ∃ E3, E3 = errV N3 := ⟨_, rfl⟩
  have HV3 := Lib.hid hE3
  clear hN3 hE3
  have HM3 : Hid (∀ W, Below w104.heap.size w104 W → Calls Tryd.prog 14 #[E3] W fun e w' => e = .returned (.int .i64 (N3 : Nat)) ∧ Below W.heap.size W w') := Lib.hid (fun W hW => by rw [HV3.out]; exact num07_of N3 W (HRE.out.2.below (HB117.out.trans (hW.mono HB117.out.size))))
  have HK1 : Hid (∀ W, Below w104.heap.size w104 W → Calls Tryd.prog 15 #[.agg #[.slice g0 n c0]] W fun e w' => e = .returned E3 ∧ Below W.heap.size W w') := Lib.hid (fun W hW => by rw [HN.out, HV3.out, HN3.out]; exact bus_Check g0 l c0 W (HE105.out.below hW) (by have := HNC.out.2.2; omega) (HRE.out.1.below (HB117.out.trans (hW.mono HB117.out.size))))
  have HK2 : Hid (∀ W, Below w104.heap.size w104 W → Calls Tryd.prog 16 #[.agg #[.slice ao n cap]] W fun e w' => e = .returned (.int .i64 (N3 : Nat)) ∧ Below W.heap.size W w') := Lib.hid (fun W hW => by rw [HN.out, HN3.out]; exact ref7_Check ao l cap W ((HP.out.below HB117.out).below hW) HW.out.1)
  have HSU : Hid (∀ W, Below w104.heap.size w104 W → Calls Tryd.prog 7 #[] W fun e w' => e = .returned (.bool true) ∧ Below W.heap.size W w') := Lib.hid (fun W hW => by exact law7_sure W (HRE.out.1.below (HB117.out.trans (hW.mono HB117.out.size))) (HRE.out.2.below (HB117.out.trans (hW.mono HB117.out.size))))
  clear HV1 HV2 HV3 HN3 HL12 HE1 HE2 HC0 HW HNC HP HE105 HE106 HE107 HE108 HE109
  refine wp_region_held_drew (S := fun W => Below w104.heap.size w104 W) (by kernel_rfl) ((Below.refl _ _).drew) (fun hH => ?_)
  refine wpAnyH_take (i := 0) rfl (by kernel_rfl) (by kernel_rfl) (by kernel_rfl) (fun _ _ _ h => h) (yieldsIf_load_mid (by rfl) 31 _ rfl (w17.heap.size) 0 rfl [.slice g1 L1.length c1] _ (fun W hSw => range_of_all (keepB K113.out hSw)) Tryd.underlying31 rfl ?hi0) (by assumption) ?rest0
  case hi0 => kernel_rfl
  simp only [Act.put, List.getElem_toArray, List.getElem_cons_zero, List.setIfInBounds_toArray, List.set_cons_zero, List.set_cons_succ]
  refine wpAnyH_take (i := 1) rfl (by kernel_rfl) (by kernel_rfl) (by kernel_rfl) (fun _ _ _ h => h) (yieldsIf_load_mid (by rfl) 24 _ rfl (w37.heap.size) 0 rfl [.slice g2 L1.length c2] _ (fun W hSw => range_of_all (keepB K114.out hSw)) Tryd.underlying24 rfl ?hi1) (by assumption) ?rest1
  case hi1 => kernel_rfl
  simp only [Act.put, List.getElem_toArray, List.getElem_cons_zero, List.getElem_cons_succ, List.setIfInBounds_toArray, List.set_cons_zero, List.set_cons_succ]
  refine wpAnyH_ready (rs := [2]) (by kernel_rfl) (by simp) ?_
  refine AllReadyH.cons (o := _) rfl (fun K hK => ?_) (AllReadyH.nil)
  simp only [List.getElem_toArray, List.getElem_cons_zero, List.getElem_cons_succ]
  go_simp
  refine (HS1.out _ hH).mono ?_
  rintro e wq1 ⟨rfl, hb⟩
  have hHn := hH.trans (hb.mono hH.size)
  refine hK.out _ _ hHn (fun _ => ?_)
  clear hK K hb hH
  have hH := hHn
  clear hHn
  try simp only [Act.put, List.setIfInBounds_toArray, List.set_cons_zero, List.set_cons_succ]
  refine wpAnyH_take (i := 3) (v := ?v3) rfl (by kernel_rfl) (by kernel_rfl) (by kernel_rfl) (fun _ _ _ h => h) (Or.inl ⟨by rfl, ?hy3⟩) (by assumption) ?rest3
  case hy3 => (intro W hSw; go_simp; first | done | with_reducible rfl)
  simp only [Act.put, List.getElem_toArray, List.getElem_cons_zero, List.getElem_cons_succ, List.setIfInBounds_toArray, List.set_cons_zero, List.set_cons_succ]
  refine wpAnyH_take (i := 4) (v := ?v4) rfl (by kernel_rfl) (by kernel_rfl) (by kernel_rfl) (fun _ _ _ h => h) (Or.inl ⟨by rfl, ?hy4⟩) (by assumption) ?rest4
  case hy4 => (intro W hSw; go_simp; first | done | with_reducible rfl)
  simp only [Act.put, List.getElem_toArray, List.getElem_cons_zero, List.getElem_cons_succ, List.setIfInBounds_toArray, List.set_cons_zero, List.set_cons_succ]
  refine wpAnyH_take (i := 6) (v := ?v6) rfl (by kernel_rfl) (by kernel_rfl) (by kernel_rfl) (fun _ _ _ h => h) (Or.inl ⟨by rfl, ?hy6⟩) (by assumption) ?rest6
  case hy6 => (intro W hSw; go_simp; first | done | with_reducible rfl)
  simp only [Act.put, List.getElem_toArray, List.getElem_cons_zero, List.getElem_cons_succ, List.setIfInBounds_toArray, List.set_cons_zero, List.set_cons_succ]
  refine wpAnyH_ready (rs := [5]) (by kernel_rfl) (by simp) ?_
  refine AllReadyH.cons (o := _) rfl (fun K hK => ?_) (AllReadyH.nil)
  simp only [List.getElem_toArray, List.getElem_cons_zero, List.getElem_cons_succ]
  go_simp
  refine (HM1.out _ hH).mono ?_
  rintro e wq2 ⟨rfl, hb⟩
  have hHn := hH.trans (hb.mono hH.size)
  refine hK.out _ _ hHn (fun _ => ?_)
  clear hK K hb hH
  have hH := hHn
  clear hHn
  try simp only [Act.put, List.setIfInBounds_toArray, List.set_cons_zero, List.set_cons_succ]
  refine wpAnyH_take (i := 7) (v := ?v7) rfl (by kernel_rfl) (by kernel_rfl) (by kernel_rfl) (fun _ _ _ h => h) (Or.inl ⟨by rfl, ?hy7⟩) (by assumption) ?rest7
  case hy7 => (intro W hSw; go_simp; first | done | with_reducible rfl)
  simp only [Act.put, List.getElem_toArray, List.getElem_cons_zero, List.getElem_cons_succ, List.setIfInBounds_toArray, List.set_cons_zero, List.set_cons_succ]
  refine wpAnyH_take (i := 8) (v := ?v8) rfl (by kernel_rfl) (by kernel_rfl) (by kernel_rfl) (fun _ _ _ h => h) (Or.inl ⟨by rfl, ?hy8⟩) (by assumption) ?rest8
  case hy8 => (intro W hSw; go_simp; first | done | with_reducible rfl)
  simp only [Act.put, List.getElem_toArray, List.getElem_cons_zero, List.getElem_cons_succ, List.setIfInBounds_toArray, List.set_cons_zero, List.set_cons_succ]
  refine wpAnyH_take (i := 9) (v := ?v9) rfl (by kernel_rfl) (by kernel_rfl) (by kernel_rfl) (fun _ _ _ h => h) (Or.inl ⟨by rfl, ?hy9⟩) (by assumption) ?rest9
  case hy9 => (intro W hSw; go_simp; first | done | with_reducible rfl)
  simp only [Act.put, List.getElem_toArray, List.getElem_cons_zero, List.getElem_cons_succ, List.setIfInBounds_toArray, List.set_cons_zero, List.set_cons_succ]
  refine wpAnyH_take (i := 10) rfl (by kernel_rfl) (by kernel_rfl) (by kernel_rfl) (fun _ _ _ h => h) (yieldsIf_load_mid (by rfl) 31 _ rfl (w62.heap.size) 0 rfl [.slice g3 L2.length c3] _ (fun W hSw => range_of_all (keepB K115.out hSw)) Tryd.underlying31 rfl ?hi10) (by assumption) ?rest10
  case hi10 => kernel_rfl
  simp only [Act.put, List.getElem_toArray, List.getElem_cons_zero, List.getElem_cons_succ, List.setIfInBounds_toArray, List.set_cons_zero, List.set_cons_succ]
  refine wpAnyH_take (i := 11) rfl (by kernel_rfl) (by kernel_rfl) (by kernel_rfl) (fun _ _ _ h => h) (yieldsIf_load_mid (by rfl) 24 _ rfl (w88.heap.size) 0 rfl [.slice g4 L2.length c4] _ (fun W hSw => range_of_all (keepB K118.out hSw)) Tryd.underlying24 rfl ?hi11) (by assumption) ?rest11
  case hi11 => kernel_rfl
  simp only [Act.put, List.getElem_toArray, List.getElem_cons_zero, List.getElem_cons_succ, List.setIfInBounds_toArray, List.set_cons_zero, List.set_cons_succ]
  refine wpAnyH_ready (rs := [12]) (by kernel_rfl) (by simp) ?_
  refine AllReadyH.cons (o := _) rfl (fun K hK => ?_) (AllReadyH.nil)
  simp only [List.getElem_toArray, List.getElem_cons_zero, List.getElem_cons_succ]
  go_simp
  refine (HS2.out _ hH).mono ?_
  rintro e wq3 ⟨rfl, hb⟩
  have hHn := hH.trans (hb.mono hH.size)
  refine hK.out _ _ hHn (fun _ => ?_)
  clear hK K hb hH
  have hH := hHn
  clear hHn
  try simp only [Act.put, List.setIfInBounds_toArray, List.set_cons_zero, List.set_cons_succ]
  refine wpAnyH_take (i := 13) (v := ?v13) rfl (by kernel_rfl) (by kernel_rfl) (by kernel_rfl) (fun _ _ _ h => h) (Or.inl ⟨by rfl, ?hy13⟩) (by assumption) ?rest13
  case hy13 => (intro W hSw; go_simp; first | done | with_reducible rfl)
  simp only [Act.put, List.getElem_toArray, List.getElem_cons_zero, List.getElem_cons_succ, List.setIfInBounds_toArray, List.set_cons_zero, List.set_cons_succ]
  refine wpAnyH_take (i := 14) (v := ?v14) rfl (by kernel_rfl) (by kernel_rfl) (by kernel_rfl) (fun _ _ _ h => h) (Or.inl ⟨by rfl, ?hy14⟩) (by assumption) ?rest14
  case hy14 => (intro W hSw; go_simp; first | done | with_reducible rfl)
  simp only [Act.put, List.getElem_toArray, List.getElem_cons_zero, List.getElem_cons_succ, List.setIfInBounds_toArray, List.set_cons_zero, List.set_cons_succ]
  refine wpAnyH_take (i := 15) rfl (by kernel_rfl) (by kernel_rfl) (by kernel_rfl) (fun _ _ _ h => h) (yieldsIf_load_mid (by rfl) 37 _ rfl (w62.heap.size + 1) 0 rfl [.int .i64 t.dev, .int .u32 t.at_, .int .i64 t.n, .int .u32 t.val] _ (fun W hSw => range_of_all (keepB K116.out hSw)) Tryd.underlying37 rfl ?hi15) (by assumption) ?rest15
  case hi15 => kernel_rfl
  simp only [Act.put, List.getElem_toArray, List.getElem_cons_zero, List.getElem_cons_succ, List.setIfInBounds_toArray, List.set_cons_zero, List.set_cons_succ]
  refine wpAnyH_take (i := 16) rfl (by kernel_rfl) (by kernel_rfl) (by kernel_rfl) (fun _ _ _ h => h) (yieldsIf_load_mid (by rfl) 27 _ rfl (w88.heap.size + 1) 0 rfl [.int .i64 t.dev, .int .u32 t.at_, .int .i64 t.n, .int .u32 t.val] _ (fun W hSw => range_of_all (keepB K119.out hSw)) Tryd.underlying27 rfl ?hi16) (by assumption) ?rest16
  case hi16 => kernel_rfl
  simp only [Act.put, List.getElem_toArray, List.getElem_cons_zero, List.getElem_cons_succ, List.setIfInBounds_toArray, List.set_cons_zero, List.set_cons_succ]
  refine wpAnyH_take (i := 17) rfl (by kernel_rfl) (by kernel_rfl) (by kernel_rfl) (fun _ _ _ h => h) (yieldsIf_binB (by rfl) BinOp.eql 37 _ _ _ rfl (.bool true) (.agg #[.int .i64 t.dev, .int .u32 t.at_, .int .i64 t.n, .int .u32 t.val]) (.agg #[.int .i64 t.dev, .int .u32 t.at_, .int .i64 t.n, .int .u32 t.val]) (by rfl) (by rfl) (fun W => post_guard _ _ _ _ _ W) (post_eql t)) (by assumption) ?rest17
  simp only [Act.put, List.getElem_toArray, List.getElem_cons_zero, List.getElem_cons_succ, List.setIfInBounds_toArray, List.set_cons_zero, List.set_cons_succ]
  refine wpAnyH_take (i := 18) (v := ?v18) rfl (by kernel_rfl) (by kernel_rfl) (by kernel_rfl) (fun _ _ _ h => h) (Or.inl ⟨by rfl, ?hy18⟩) (by assumption) ?rest18
  case hy18 => (intro W hSw; go_simp; first | done | with_reducible rfl)
  simp only [Act.put, List.getElem_toArray, List.getElem_cons_zero, List.getElem_cons_succ, List.setIfInBounds_toArray, List.set_cons_zero, List.set_cons_succ]
  refine wpAnyH_take (i := 19) (v := ?v19) rfl (by kernel_rfl) (by kernel_rfl) (by kernel_rfl) (fun _ _ _ h => h) (Or.inl ⟨by rfl, ?hy19⟩) (by assumption) ?rest19
  case hy19 => (intro W hSw; go_simp; first | done | with_reducible rfl)
  simp only [Act.put, List.getElem_toArray, List.getElem_cons_zero, List.getElem_cons_succ, List.setIfInBounds_toArray, List.set_cons_zero, List.set_cons_succ]
  refine wpAnyH_take (i := 20) (v := ?v20) rfl (by kernel_rfl) (by kernel_rfl) (by kernel_rfl) (fun _ _ _ h => h) (Or.inl ⟨by rfl, ?hy20⟩) (by assumption) ?rest20
  case hy20 => (intro W hSw; go_simp; first | done | with_reducible rfl)
  simp only [Act.put, List.getElem_toArray, List.getElem_cons_zero, List.getElem_cons_succ, List.setIfInBounds_toArray, List.set_cons_zero, List.set_cons_succ]
  refine wpAnyH_take (i := 22) (v := ?v22) rfl (by kernel_rfl) (by kernel_rfl) (by kernel_rfl) (fun _ _ _ h => h) (Or.inl ⟨by rfl, ?hy22⟩) (by assumption) ?rest22
  case hy22 => (intro W hSw; go_simp; first | done | with_reducible rfl)
  simp only [Act.put, List.getElem_toArray, List.getElem_cons_zero, List.getElem_cons_succ, List.setIfInBounds_toArray, List.set_cons_zero, List.set_cons_succ]
  refine wpAnyH_ready (rs := [21]) (by kernel_rfl) (by simp) ?_
  refine AllReadyH.cons (o := _) rfl (fun K hK => ?_) (AllReadyH.nil)
  simp only [List.getElem_toArray, List.getElem_cons_zero, List.getElem_cons_succ]
  go_simp
  refine (HM2.out _ hH).mono ?_
  rintro e wq4 ⟨rfl, hb⟩
  have hHn := hH.trans (hb.mono hH.size)
  refine hK.out _ _ hHn (fun _ => ?_)
  clear hK K hb hH
  have hH := hHn
  clear hHn
  try simp only [Act.put, List.setIfInBounds_toArray, List.set_cons_zero, List.set_cons_succ]
  refine wpAnyH_take (i := 23) (v := ?v23) rfl (by kernel_rfl) (by kernel_rfl) (by kernel_rfl) (fun _ _ _ h => h) (Or.inl ⟨by rfl, ?hy23⟩) (by assumption) ?rest23
  case hy23 => (intro W hSw; go_simp; first | done | with_reducible rfl)
  simp only [Act.put, List.getElem_toArray, List.getElem_cons_zero, List.getElem_cons_succ, List.setIfInBounds_toArray, List.set_cons_zero, List.set_cons_succ]
  refine wpAnyH_take (i := 24) (v := ?v24) rfl (by kernel_rfl) (by kernel_rfl) (by kernel_rfl) (fun _ _ _ h => h) (Or.inl ⟨by rfl, ?hy24⟩) (by assumption) ?rest24
  case hy24 => (intro W hSw; go_simp; first | done | with_reducible rfl)
  simp only [Act.put, List.getElem_toArray, List.getElem_cons_zero, List.getElem_cons_succ, List.setIfInBounds_toArray, List.set_cons_zero, List.set_cons_succ]
  refine wpAnyH_take (i := 25) (v := ?v25) rfl (by kernel_rfl) (by kernel_rfl) (by kernel_rfl) (fun _ _ _ h => h) (Or.inl ⟨by rfl, ?hy25⟩) (by assumption) ?rest25
  case hy25 => (intro W hSw; go_simp; first | done | with_reducible rfl)
  simp only [Act.put, List.getElem_toArray, List.getElem_cons_zero, List.getElem_cons_succ, List.setIfInBounds_toArray, List.set_cons_zero, List.set_cons_succ]
  refine wpAnyH_take (i := 26) rfl (by kernel_rfl) (by kernel_rfl) (by kernel_rfl) (fun _ _ _ h => h) (yieldsIf_load_mid (by rfl) 31 _ rfl (w2.heap.size) 0 rfl [.slice g0 n c0] _ (fun W hSw => range_of_all (keepB K112.out hSw)) Tryd.underlying31 rfl ?hi26) (by assumption) ?rest26
  case hi26 => kernel_rfl
  simp only [Act.put, List.getElem_toArray, List.getElem_cons_zero, List.getElem_cons_succ, List.setIfInBounds_toArray, List.set_cons_zero, List.set_cons_succ]
  refine wpAnyH_take (i := 29) rfl (by kernel_rfl) (by kernel_rfl) (by kernel_rfl) (fun _ _ _ h => h) (yieldsIf_load_mid (by rfl) 24 _ rfl (w.heap.size) 0 rfl [.slice ao n cap] _ (fun W hSw => range_of_all (keepB K110.out hSw)) Tryd.underlying24 rfl ?hi29) (by assumption) ?rest29
  case hi29 => kernel_rfl
  simp only [Act.put, List.getElem_toArray, List.getElem_cons_zero, List.getElem_cons_succ, List.setIfInBounds_toArray, List.set_cons_zero, List.set_cons_succ]
  refine wpAnyH_ready (rs := [27]) (by kernel_rfl) (by simp) ?_
  refine AllReadyH.cons (o := _) rfl (fun K hK => ?_) (AllReadyH.nil)
  simp only [List.getElem_toArray, List.getElem_cons_zero, List.getElem_cons_succ]
  go_simp
  refine (HK1.out _ hH).mono ?_
  rintro e wq5 ⟨rfl, hb⟩
  have hHn := hH.trans (hb.mono hH.size)
  refine hK.out _ _ hHn (fun _ => ?_)
  clear hK K hb hH
  have hH := hHn
  clear hHn
  try simp only [Act.put, List.setIfInBounds_toArray, List.set_cons_zero, List.set_cons_succ]
  refine wpAnyH_ready (rs := [28]) (by kernel_rfl) (by simp) ?_
  refine AllReadyH.cons (o := _) rfl (fun K hK => ?_) (AllReadyH.nil)
  simp only [List.getElem_toArray, List.getElem_cons_zero, List.getElem_cons_succ]
  go_simp
  refine (HM3.out _ hH).mono ?_
  rintro e wq6 ⟨rfl, hb⟩
  have hHn := hH.trans (hb.mono hH.size)
  refine hK.out _ _ hHn (fun _ => ?_)
  clear hK K hb hH
  have hH := hHn
  clear hHn
  try simp only [Act.put, List.setIfInBounds_toArray, List.set_cons_zero, List.set_cons_succ]
  refine wpAnyH_ready (rs := [30]) (by kernel_rfl) (by simp) ?_
  refine AllReadyH.cons (o := _) rfl (fun K hK => ?_) (AllReadyH.nil)
  simp only [List.getElem_toArray, List.getElem_cons_zero, List.getElem_cons_succ]
  go_simp
  refine (HK2.out _ hH).mono ?_
  rintro e wq7 ⟨rfl, hb⟩
  have hHn := hH.trans (hb.mono hH.size)
  refine hK.out _ _ hHn (fun _ => ?_)
  clear hK K hb hH
  have hH := hHn
  clear hHn
  try simp only [Act.put, List.setIfInBounds_toArray, List.set_cons_zero, List.set_cons_succ]
  refine wpAnyH_take (i := 31) (v := ?v31) rfl (by kernel_rfl) (by kernel_rfl) (by kernel_rfl) (fun _ _ _ h => h) (Or.inl ⟨by rfl, ?hy31⟩) (by assumption) ?rest31
  case hy31 => (intro W hSw; go_simp; first | done | with_reducible rfl)
  simp only [Act.put, List.getElem_toArray, List.getElem_cons_zero, List.getElem_cons_succ, List.setIfInBounds_toArray, List.set_cons_zero, List.set_cons_succ]
  refine wpAnyH_take (i := 32) (v := ?v32) rfl (by kernel_rfl) (by kernel_rfl) (by kernel_rfl) (fun _ _ _ h => h) (Or.inl ⟨by rfl, ?hy32⟩) (by assumption) ?rest32
  case hy32 => (intro W hSw; go_simp; first | done | with_reducible rfl)
  simp only [Act.put, List.getElem_toArray, List.getElem_cons_zero, List.getElem_cons_succ, List.setIfInBounds_toArray, List.set_cons_zero, List.set_cons_succ]
  refine wpAnyH_take (i := 33) (v := ?v33) rfl (by kernel_rfl) (by kernel_rfl) (by kernel_rfl) (fun _ _ _ h => h) (Or.inl ⟨by rfl, ?hy33⟩) (by assumption) ?rest33
  case hy33 => (intro W hSw; go_simp; first | done | with_reducible rfl)
  simp only [Act.put, List.getElem_toArray, List.getElem_cons_zero, List.getElem_cons_succ, List.setIfInBounds_toArray, List.set_cons_zero, List.set_cons_succ]
  refine wpAnyH_take (i := 34) rfl (by kernel_rfl) (by kernel_rfl) (by kernel_rfl) (fun _ _ _ h => h) (yieldsIf_load_mid (by rfl) 31 _ rfl (w2.heap.size) 0 rfl [.slice g0 n c0] _ (fun W hSw => range_of_all (keepB K112.out hSw)) Tryd.underlying31 rfl ?hi34) (by assumption) ?rest34
  case hi34 => kernel_rfl
  simp only [Act.put, List.getElem_toArray, List.getElem_cons_zero, List.getElem_cons_succ, List.setIfInBounds_toArray, List.set_cons_zero, List.set_cons_succ]
  refine wpAnyH_take (i := 35) rfl (by kernel_rfl) (by kernel_rfl) (by kernel_rfl) (fun _ _ _ h => h) (yieldsIf_load_mid (by rfl) 24 _ rfl (w.heap.size) 0 rfl [.slice ao n cap] _ (fun W hSw => range_of_all (keepB K110.out hSw)) Tryd.underlying24 rfl ?hi35) (by assumption) ?rest35
  case hi35 => kernel_rfl
  simp only [Act.put, List.getElem_toArray, List.getElem_cons_zero, List.getElem_cons_succ, List.setIfInBounds_toArray, List.set_cons_zero, List.set_cons_succ]
  refine wpAnyH_ready (rs := [36]) (by kernel_rfl) (by simp) ?_
  refine AllReadyH.cons (o := _) rfl (fun K hK => ?_) (AllReadyH.nil)
  simp only [List.getElem_toArray, List.getElem_cons_zero, List.getElem_cons_succ]
  go_simp
  refine (HS3.out _ hH).mono ?_
  rintro e wq8 ⟨rfl, hb⟩
  have hHn := hH.trans (hb.mono hH.size)
  refine hK.out _ _ hHn (fun _ => ?_)
  clear hK K hb hH
  have hH := hHn
  clear hHn
  try simp only [Act.put, List.setIfInBounds_toArray, List.set_cons_zero, List.set_cons_succ]
  refine wpAnyH_take (i := 37) (v := ?v37) rfl (by kernel_rfl) (by kernel_rfl) (by kernel_rfl) (fun _ _ _ h => h) (Or.inl ⟨by rfl, ?hy37⟩) (by assumption) ?rest37
  case hy37 => (intro W hSw; go_simp; first | done | with_reducible rfl)
  simp only [Act.put, List.getElem_toArray, List.getElem_cons_zero, List.getElem_cons_succ, List.setIfInBounds_toArray, List.set_cons_zero, List.set_cons_succ]
  refine wpAnyH_take (i := 38) (v := ?v38) rfl (by kernel_rfl) (by kernel_rfl) (by kernel_rfl) (fun _ _ _ h => h) (Or.inl ⟨by rfl, ?hy38⟩) (by assumption) ?rest38
  case hy38 => (intro W hSw; go_simp; first | done | with_reducible rfl)
  simp only [Act.put, List.getElem_toArray, List.getElem_cons_zero, List.getElem_cons_succ, List.setIfInBounds_toArray, List.set_cons_zero, List.set_cons_succ]
  refine wpAnyH_ready (rs := [39]) (by kernel_rfl) (by simp) ?_
  refine AllReadyH.cons (o := _) rfl (fun K hK => ?_) (AllReadyH.nil)
  simp only [List.getElem_toArray, List.getElem_cons_zero, List.getElem_cons_succ]
  go_simp
  refine (HSU.out _ hH).mono ?_
  rintro e wq9 ⟨rfl, hb⟩
  have hHn := hH.trans (hb.mono hH.size)
  refine hK.out _ _ hHn (fun _ => ?_)
  clear hK K hb hH
  have hH := hHn
  clear hHn
  try simp only [Act.put, List.setIfInBounds_toArray, List.set_cons_zero, List.set_cons_succ]
  refine wpAnyH_take (i := 40) (v := ?v40) rfl (by kernel_rfl) (by kernel_rfl) (by kernel_rfl) (fun _ _ _ h => h) (Or.inl ⟨by rfl, ?hy40⟩) (by assumption) ?rest40
  case hy40 => (intro W hSw; go_simp; first | done | with_reducible rfl)
  simp only [Act.put, List.getElem_toArray, List.getElem_cons_zero, List.getElem_cons_succ, List.setIfInBounds_toArray, List.set_cons_zero, List.set_cons_succ]
  refine wpAnyH_take (i := 41) (v := ?v41) rfl (by kernel_rfl) (by kernel_rfl) (by kernel_rfl) (fun _ _ _ h => h) (Or.inl ⟨by rfl, ?hy41⟩) (by assumption) ?rest41
  case hy41 => (intro W hSw; go_simp; first | done | with_reducible rfl)
  simp only [Act.put, List.getElem_toArray, List.getElem_cons_zero, List.getElem_cons_succ, List.setIfInBounds_toArray, List.set_cons_zero, List.set_cons_succ]
  refine wpAnyH_done (by kernel_rfl) ?_ _
  have HF := Lib.hid (HB117.out.trans (hH.mono HB117.out.size))
  clear hH
  go_wp2_with fail
  go_ret
  exact ⟨rfl, HF.out⟩
theorem law_BusQueues (ao : Option Addr) (l : List Pst) (cap : Nat) (p : Pst) (w : World) (hp : PostsAt w ao l) (hwf : ∀ (k : Nat) (q : Pst), l[k]? = some q → q.wf) (hpw : p.wf) (hno : ao = none → l.length = 0 ∧ cap = 0) (hcap : l.length ≤ cap) (hmax : l.length ≤ maxLen) (hr : RegAt w) (he : ErrAt w) :
    Calls Tryd.prog 3 #[.agg #[.slice ao l.length cap], .agg #[.int .i64 p.dev, .int .u32 p.at_, .int .i64 p.n, .int .u32 p.val]] w fun e w' => e = .returned (.bool true) ∧ Below w.heap.size w w' := by
  by_cases h : 200 < l.length
  · exact queues_many ao l.length cap p w h hr he
  · exact queues_few ao l l.length cap rfl p w hp hwf hpw hno hcap (by omega) hr he
end Go.Proofs.YtcmbnkmbaghkdaaDoor
