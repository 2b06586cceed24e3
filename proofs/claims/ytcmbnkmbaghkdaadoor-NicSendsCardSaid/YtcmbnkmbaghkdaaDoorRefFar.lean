/-
pinnaceref01.check, With and pinnaceref06.Store behind the memory's end; pinnaceref13.store of any place.
No condition.
-/
import Derived.Test.YtcmbnkmbaghkdaaDoorG5
import Derived.Test.YtcmbnkmbaghkdaaDoorRingGiveE
import Derived.Test.YtcmbnkmbaghkdaaDoorTwoStores
namespace Go.Proofs.YtcmbnkmbaghkdaaDoor
open Go.RowKit
set_option linter.unusedVariables false

set_option maxRecDepth 100000 in
theorem ref1_check_far (p : Option Addr) (n c a k : Nat) (w : World) (hk : okN k) (hs : n < a + k) (ha4 : a < 4294967296) (hn : n ≤ 67108864) :
    Calls Tryd.prog 109 #[.slice p n c, .int .i64 a, .int .i64 k] w fun e w' => e = .returned (.int .i64 4) ∧ w = w' := by
  have hn0 : (n : Int) ≤ 67108864 := by omega
  have ha0 : (0 : Int) ≤ a := by omega
  by_cases h2 : (n : Int) < (k : Int)
  · clear hs ha4 hn
    rcases hk with rfl | rfl | rfl
    all_goals
      go_enter Tryd.func109, Tryd.ntmps109
      go_wp2_with fail
      go_ret
      exact ⟨rfl, rfl⟩
  · have h1 : (n : Int) - (k : Int) < (a : Int) := by omega
    have hnk : (0 : Int) ≤ (n : Int) - k := by omega
    clear hs ha4 hn
    rcases hk with rfl | rfl | rfl
    all_goals
      go_enter Tryd.func109, Tryd.ntmps109
      go_wp2_with fail
      go_ret
      exact ⟨rfl, rfl⟩
set_option maxRecDepth 100000 in
theorem ref1_With_far (p : Option Addr) (n c a k v : Nat) (w : World) (hk : okN k) (hs : n < a + k) (ha4 : a < 4294967296) (hn : n ≤ 67108864) :
    Calls Tryd.prog 76 #[.slice p n c, .int .i64 a, .int .i64 k, .int .u32 v] w fun e w' => e = .returned (.tuple #[.slice none 0 0, .int .i64 4]) ∧ w = w' := by
  have HC := Lib.hid (fun W => ref1_check_far p n c a k W hk hs ha4 hn)
  clear hk hs ha4 hn
  go_enter Tryd.func76, Tryd.ntmps76
  go_wp2_with fail
  refine (HC.out _).mono ?_
  rintro e w' ⟨rfl, rfl⟩
  go_wp2_with fail
  go_ret2
  exact ⟨rfl, rfl⟩
set_option maxRecDepth 100000 in
set_option maxHeartbeats 4000000 in
theorem ref6_Store_far (p p2 : Option Addr) (N c1 n2 c2 a k v : Nat) (q : Int) (w : World) (hk : okN k) (hs : N < a + k) (ha4 : a < 4294967296) (hn : N ≤ 67108864) :
    Calls Tryd.prog 40 #[.agg #[.slice p N c1, .slice p2 n2 c2, .int .i64 q], .int .u32 a, .int .i64 k, .int .u32 v] w fun e w' => e = .returned (.tuple #[.agg #[.slice p N c1, .slice p2 n2 c2, .int .i64 q], .int .i64 4]) ∧ Below w.heap.size w w' := by
  have HC := Lib.hid (fun W => ref1_With_far p N c1 a k v W hk hs ha4 hn)
  have haw : IntKind.i64.wrap (a : Int) = (a : Int) := by rw [IntKind.wrap_i64]; omega
  have ha0 : (0 : Int) ≤ (a : Int) := by omega
  clear hk hs ha4 hn
  obtain ⟨k0, k1, hb0⟩ := two_new w (.cells #[.slice p N c1, .slice p2 n2 c2, .int .i64 q] 65) (.cells #[.slice none 0 0, .slice none 0 0, .int .i64 0] 65)
  have K0a := Lib.hid k0
  have K1a := Lib.hid k1
  have HB0a := Lib.hid hb0
  clear k0 k1 hb0
  go_enter Tryd.func40, Tryd.ntmps40
  go_upto_region 1 with fail
  change Code.wp _ _ _ _ ((w.alloc (.cells #[.slice p N c1, .slice p2 n2 c2, .int .i64 q] 65)).alloc (.cells #[.slice none 0 0, .slice none 0 0, .int .i64 0] 65))
  generalize ((w.alloc (.cells #[.slice p N c1, .slice p2 n2 c2, .int .i64 q] 65)).alloc (.cells #[.slice none 0 0, .slice none 0 0, .int .i64 0] 65)) = w1 at K0a K1a HB0a ⊢
  have cf1 := (cell_of_row _ _ 0 _ _ _ K0a.out).trans (rfl : _ = some (.slice p N c1 : Value))
  go_wp2_with fail
  refine (HC.out _).mono ?_
  rintro e w2 ⟨rfl, rfl⟩
  clear cf1
  have HO2 := Lib.hid (show (#[.slice p N c1, .slice p2 n2 c2, .int .i64 q] : Array Value).all (·.oneCell') = true from by simp [Value.oneCell'])
  go_wp2_with (first | go_skip | (refine wpList_load_row rfl 65 _ rfl (w.heap.size) rfl 65 #[.slice p N c1, .slice p2 n2 c2, .int .i64 q] (0, 0) _ K0a.out Tryd.underlying65 rfl (by kernel_rfl) ?_) | (refine wpList_store_to rfl 65 _ _ rfl (w.heap.size + 1) #[.slice p N c1, .slice p2 n2 c2, .int .i64 q] rfl rfl 65 #[.slice none 0 0, .slice none 0 0, .int .i64 0] K1a.out (by kernel_rfl) rfl HO2.out ?_))
  intro w3 hx4 hkk
  have K5 := Lib.hid (hx4.out.heap K0a.out (by omega))
  clear K0a
  have K6 := Lib.hid hkk
  clear hkk K1a
  have HB7 := Lib.hid (HB0a.out.trans (hx4.out.below (B := w.heap.size) (fun k hk e => by omega) HB0a.out.size))
  clear HB0a hx4
  go_wp2_with fail
  exact bodyPost_ret (v := .tuple #[.agg #[.slice p N c1, .slice p2 n2 c2, .int .i64 q], .int .i64 4]) (results_cell_tmp Tryd.results40 _ _ (w.heap.size + 1) 65 #[.slice p N c1, .slice p2 n2 c2, .int .i64 q] (0, 0) _ rfl K6.out Tryd.underlying65 rfl (by kernel_rfl)) rfl ⟨rfl, HB7.out⟩
set_option maxRecDepth 100000 in
set_option maxHeartbeats 4000000 in
theorem ref13_store_low (rc : Array Value) (a k v : Nat) (w : World) (hrc : rc.size = 3) (hro : rc.all (·.oneCell') = true) (h31 : a < 2147483648) :
    Calls Tryd.prog 117 #[.agg rc, .int .u32 a, .int .i64 k, .int .u32 v] w fun e w' => e = .returned (.tuple #[.agg rc, .bool false]) ∧ Below w.heap.size w w' := by
  have HI := Lib.hid (show (Tryd.prog.info? 65).map (·.size) = some rc.size by rw [hrc]; kernel_rfl)
  have HO := Lib.hid hro
  have HRC := Lib.hid hrc
  clear hro hrc
  have h31i : (a : Int) < 2147483648 := by omega
  clear h31
  obtain ⟨k0, k1, hb0⟩ := two_new w (.cells rc 65) (.cells #[.slice none 0 0, .slice none 0 0, .int .i64 0] 65)
  have K0a := Lib.hid k0
  have K1a := Lib.hid k1
  have HB0a := Lib.hid hb0
  clear k0 k1 hb0
  go_enter Tryd.func117, Tryd.ntmps117
  go_upto_region 1 with fail
  change Code.wp _ _ _ _ ((w.alloc (.cells rc 65)).alloc (.cells #[.slice none 0 0, .slice none 0 0, .int .i64 0] 65))
  generalize ((w.alloc (.cells rc 65)).alloc (.cells #[.slice none 0 0, .slice none 0 0, .int .i64 0] 65)) = w1 at K0a K1a HB0a ⊢
  have HO1 := Lib.hid (show (rc : Array Value).all (·.oneCell') = true from HO.out)
  go_wp2_with (first | go_skip | (refine wpList_load_row rfl 65 _ rfl (w.heap.size) rfl 65 (rc) (0, 0) _ K0a.out Tryd.underlying65 rfl HI.out ?_) | (refine wpList_store_to rfl 65 _ _ rfl (w.heap.size + 1) (rc) rfl rfl 65 #[.slice none 0 0, .slice none 0 0, .int .i64 0] K1a.out HI.out HRC.out.symm HO1.out ?_))
  intro w2 hx3 hkk
  have K4 := Lib.hid (hx3.out.heap K0a.out (by omega))
  clear K0a
  have K5 := Lib.hid hkk
  clear hkk K1a
  have HB6 := Lib.hid (HB0a.out.trans (hx3.out.below (B := w.heap.size) (fun k hk e => by omega) HB0a.out.size))
  clear HB0a hx3
  go_wp2_with fail
  exact bodyPost_ret (v := .tuple #[.agg rc, .bool false]) (results_cell_tmp Tryd.results117 _ _ (w.heap.size + 1) 65 rc (0, 0) _ rfl K5.out Tryd.underlying65 rfl HI.out) rfl ⟨rfl, HB6.out⟩
set_option maxRecDepth 100000 in
set_option maxHeartbeats 4000000 in
theorem ref13_store_by (rc : Array Value) (a k v : Nat) (w : World) (hrc : rc.size = 3) (hro : rc.all (·.oneCell') = true) {B : Nat} {F : Nat → Prop} {m' : Mm} (er : Int) (x : Nat) (h31 : 2147483648 ≤ a) (ha4 : a < 4294967296) (hx : a = 2147483648 + x) (HST : Hid (∀ W, Below w.heap.size w W → w.heap.size + 2 ≤ W.heap.size → Calls Tryd.prog 40 #[.agg rc, .int .u32 x, .int .i64 k, .int .u32 v] W fun e w' => ∃ v', e = .returned (.tuple #[v', .int .i64 er]) ∧ RefF w' B v' m' (fun j => F j ∨ j = w.heap.size + 1) ∧ Below W.heap.size W w')) :
    Calls Tryd.prog 117 #[.agg rc, .int .u32 a, .int .i64 k, .int .u32 v] w fun e w' => ∃ v', e = .returned (.tuple #[v', .bool (er == 0)]) ∧ RefF w' B v' m' F ∧ Below w.heap.size w w' := by
  have HI := Lib.hid (show (Tryd.prog.info? 65).map (·.size) = some rc.size by rw [hrc]; kernel_rfl)
  have HO := Lib.hid hro
  have HRC := Lib.hid hrc
  clear hro hrc
  have h31i : ¬ (a : Int) < 2147483648 := by omega
  have hsub : (a : Int) - 2147483648 = (x : Int) := by omega
  have hsub2 : IntKind.u32.wrap ((a : Int) - 2147483648) = (x : Int) := by rw [IntKind.wrap_u32]; omega
  have hx0 : (0 : Int) ≤ (x : Int) := by omega
  have hx1 : (x : Int) < 4294967296 := by omega
  have hxm : (x : Int) % 4294967296 = (x : Int) := by omega
  clear h31 ha4 hx
  obtain ⟨k0, k1, hb0⟩ := two_new w (.cells rc 65) (.cells #[.slice none 0 0, .slice none 0 0, .int .i64 0] 65)
  have K0a := Lib.hid k0
  have K1a := Lib.hid k1
  have HB0a := Lib.hid hb0
  clear k0 k1 hb0
  have HSZ := Lib.hid (show w.heap.size + 2 ≤ ((w.alloc (.cells rc 65)).alloc (.cells #[.slice none 0 0, .slice none 0 0, .int .i64 0] 65)).heap.size by simp)
  go_enter Tryd.func117, Tryd.ntmps117
  go_upto_region 1 with fail
  change Code.wp _ _ _ _ ((w.alloc (.cells rc 65)).alloc (.cells #[.slice none 0 0, .slice none 0 0, .int .i64 0] 65))
  generalize ((w.alloc (.cells rc 65)).alloc (.cells #[.slice none 0 0, .slice none 0 0, .int .i64 0] 65)) = w1 at K0a K1a HB0a HSZ ⊢
  go_upto_region 3 with fail
  go_wp2_with (first | go_skip | (refine wpList_load_row rfl 65 _ rfl (w.heap.size) rfl 65 (rc) (0, 0) _ K0a.out Tryd.underlying65 rfl HI.out ?_))
  refine (HST.out _ HB0a.out HSZ.out).mono ?_
  rintro e w2 ⟨v', rfl, hR, hb⟩
  have K1 := Lib.hid (keepB K0a.out hb)
  clear K0a
  have K2 := Lib.hid (keepB K1a.out hb)
  clear K1a
  have HB3 := Lib.hid (HB0a.out.trans (hb.mono HB0a.out.size))
  clear HB0a
  obtain ⟨vr, rfl, hvs, hvo⟩ := hR.form
  have HR := Lib.hid hR
  have HVO := Lib.hid hvo
  have HIV := Lib.hid (show (Tryd.prog.info? 65).map (·.size) = some vr.size by rw [hvs]; kernel_rfl)
  have HVS := Lib.hid hvs
  clear hb hR hvs hvo
  have KN4 := Lib.hid (heap_alloc_new w2 (.cells #[(.slice none 0 0 : Value), .slice none 0 0, .int .i64 0] 65))
  have HBN5 := Lib.hid ((Below.refl w2.heap.size w2).alloc (Nat.le_refl _) (.cells #[(.slice none 0 0 : Value), .slice none 0 0, .int .i64 0] 65))
  have HO6 := Lib.hid (show (vr : Array Value).all (·.oneCell') = true from HVO.out)
  have hlt8 := lt_heap K1.out
  have hlt9 := lt_heap K2.out
  go_upto_region 4 with (first | go_skip | (refine wpList_store_to rfl 65 _ _ rfl (w2.heap.size) (vr) rfl rfl 65 #[(.slice none 0 0 : Value), .slice none 0 0, .int .i64 0] KN4.out HIV.out HVS.out.symm HO6.out ?_))
  intro w7 hx hkk
  have hb : Below w2.heap.size w2 w7 := HBN5.out.trans (hx.out.below (fun k hk e => by omega) (by simp))
  clear KN4 HBN5 hx
  have K10 := Lib.hid (keepB K1.out hb)
  clear K1
  have K11 := Lib.hid (keepB K2.out hb)
  clear K2
  have HB12 := Lib.hid (HB3.out.trans (hb.mono HB3.out.size))
  clear HB3
  have K13 := Lib.hid hkk
  clear hkk
  have HR2 := Lib.hid (HR.out.below hb)
  clear hb
  have HO14 := Lib.hid (show (vr : Array Value).all (·.oneCell') = true from HVO.out)
  go_wp2_with (first | go_skip | (refine wpList_load_row rfl 65 _ rfl (w2.heap.size) rfl 65 (vr) (0, 0) _ K13.out Tryd.underlying65 rfl HIV.out ?_) | (refine wpList_store_to rfl 65 _ _ rfl (w.heap.size + 1) (vr) rfl rfl 65 #[.slice none 0 0, .slice none 0 0, .int .i64 0] K11.out HIV.out HVS.out.symm HO14.out ?_))
  intro w9 hx9 hkk
  have HR3 := Lib.hid (HR2.out.kx hx9.out (fun k e => .inl (.inr e)))
  have K15 := Lib.hid (hx9.out.heap K10.out (by omega))
  clear K10
  have K16 := Lib.hid (hx9.out.heap K13.out (by omega))
  clear K13
  have K17 := Lib.hid hkk
  clear hkk K11
  have HB18 := Lib.hid (HB12.out.trans (hx9.out.below (B := w.heap.size) (fun k hk e => by omega) HB12.out.size))
  clear HB12 hx9
  go_wp2_with fail
  exact bodyPost_ret (v := .tuple #[.agg vr, .bool ((er : Int) == 0)]) (results_cell_tmp Tryd.results117 _ _ (w.heap.size + 1) 65 vr (0, 0) _ rfl K17.out Tryd.underlying65 rfl HIV.out) rfl ⟨_, rfl, HR3.out.weak (fun k hk => .inl hk), HB18.out⟩
/-- A number stored where a ring lies, in the document's memory. -/
theorem ref13_store {B : Nat} {F : Nat → Prop} {v : Value} {m : Mm} {w : World} (h : RefF w B v m F) (hF : ∀ k, F k → k < w.heap.size) (hB : B ≤ w.heap.size) (a k x : Nat) (ai ki xi : Int) (ea : ai = (a : Int)) (ek : ki = (k : Int)) (ex : xi = (x : Int)) (ha : a < 4294967296) (hk : okN k) (hd : a % k = 0) (hx : x < 4294967296) :
    Calls Tryd.prog 117 #[v, .int .u32 ai, .int .i64 ki, .int .u32 xi] w fun e w' => ∃ v', e = .returned (.tuple #[v', .bool (rstore m a k x).isSome]) ∧ RefF w' B v' ((rstore m a k x).getD m) F ∧ Below w.heap.size w w' := by
  subst ea ek ex
  obtain ⟨n1, n2, b1, c1, b2, c2, ⟨rfl, hcc⟩, g1, g2, g3, g4, r1, r2⟩ := h
  have hrf : RefF w B (.agg (refC b1 (4096 * m.n) c1 b2 m.n c2 m.wr)) m F := ⟨n1, n2, b1, c1, b2, c2, ⟨rfl, hcc⟩, g1, g2, g3, g4, r1, r2⟩
  have l1 := r1.lt
  have l2 := r2.lt
  by_cases h31 : a < 2147483648
  · have e0 : rstore m a k x = none := if_neg (fun hh => by omega)
    rw [e0]
    refine (ref13_store_low _ a k x w rfl (refC_one _ _ _ _ _ _ _) h31).mono ?_
    rintro e w' ⟨rfl, hb⟩
    exact ⟨_, rfl, hrf.below hb, hb⟩
  · obtain ⟨y, rfl⟩ : ∃ y, a = 2147483648 + y := ⟨a - 2147483648, by omega⟩
    have hy : 2147483648 + y - 2147483648 = y := by omega
    have hyk : y % k = 0 := by rcases hk with rfl | rfl | rfl <;> omega
    by_cases hs : y + k ≤ 4096 * m.n
    · have e0 : rstore m (2147483648 + y) k x = some (m.store y k x) := by unfold rstore; rw [hy, if_pos ⟨by omega, hs⟩]
      rw [e0]
      refine (ref13_store_by _ (2147483648 + y) k x w rfl (refC_one _ _ _ _ _ _ _) (B := B) (F := F) (m' := m.store y k x) 0 y (by omega) ha rfl (Lib.hid fun W hW hsz => ?_)).mono ?_
      · refine (ref6_Store_ok (B := B) (hrf.below hW).ref y k x hx hk hs hyk).mono ?_
        rintro e w' ⟨v', rfl, h1, h2⟩
        exact ⟨v', rfl, RefF.of h1 (fun j hj => by rcases hj with hj | hj; have := hF j hj; omega; omega) (by omega), h2⟩
      · rintro e w' ⟨v', rfl, h1, h2⟩
        exact ⟨v', rfl, h1, h2⟩
    · have e0 : rstore m (2147483648 + y) k x = none := by unfold rstore; rw [hy, if_neg (fun hh => hs hh.2)]
      rw [e0]
      refine (ref13_store_by _ (2147483648 + y) k x w rfl (refC_one _ _ _ _ _ _ _) (B := B) (F := F) (m' := m) 4 y (by omega) ha rfl (Lib.hid fun W hW hsz => ?_)).mono ?_
      · refine (ref6_Store_far _ _ _ _ _ _ y k x m.wr W hk (by omega) (by omega) (by omega)).mono ?_
        rintro e w' ⟨rfl, hb⟩
        have hh := (hrf.below hW).below hb
        exact ⟨_, rfl, ⟨n1, n2, b1, c1, b2, c2, ⟨rfl, hcc⟩, g1, g2, fun hj => hj.elim g3 (by omega), fun hj => hj.elim g4 (by omega), (r1.below hW).below hb, (r2.below hW).below hb⟩, hb⟩
      · rintro e w' ⟨v', rfl, h1, h2⟩
        exact ⟨v', rfl, h1, h2⟩
end Go.Proofs.YtcmbnkmbaghkdaaDoor
