/-
pinnaceref16.Send, walked: what any state of the document's sends of any memory, as the program sends it.
No condition.
-/
import Derived.Test.YtcmbnkmbaghkdaaDoorR16St
import Derived.Test.YtcmbnkmbaghkdaaDoorNicSend
import Derived.Test.YtcmbnkmbaghkdaaDoorRef13G
namespace Go.Proofs.YtcmbnkmbaghkdaaDoor
open Go.RowKit
set_option linter.unusedVariables false

theorem ring13_sizeL (q : Rg) : (Tryd.prog.info? 52).map (·.size) = some q.c.toList.length := by
  show _ = some 6
  kernel_rfl
theorem ref13_Gather_all {B : Nat} {v : Value} {m : Mm} {w : World} (h : RefAt w B v m) (ao : Option Addr) (l : List Sg) (cap : Nat) (hl : SegsAt w ao l (fun _ => False)) (hok : PartsOk m l) (hsum : sumN l ≤ 1048576) (hlen : l.length ≤ 256) :
    Calls Tryd.prog 50 #[v, .slice ao l.length cap] w (Bytes13Post w (gath m l)) := by
  obtain ⟨n1, n2, b1, c1, b2, c2, ⟨rfl, hcc⟩, g1, g2, r1, r2⟩ := h
  exact ref13_Gather m b1 c1 b2 m.n c2 m.wr ao l cap w r1 hcc n2 hl hok (fun s hs => by have := sumN_le hs; omega) (by omega) (by have := gath_sum m l; omega)
theorem zero_notok : ¬ Rg.zero.okP := fun h => by have := h.1; simp [Rg.zero] at this
theorem zero_wf : Rg.zero.wf := by
  refine ⟨?_, ?_, ?_, ?_, ?_, ?_, ?_⟩ <;> simp [Rg.zero]
theorem send_go (k : Nat) (s : NS) (m : Mm) (acc : List (List UInt8)) {hd : Nat} {l : List Sg} (hlv : s.p.live) (h1 : rnext s.p.b.rg m = some (some hd)) (h2 : rwalk s.p.b.de s.p.b.size.toNat m hd = some l) (h3 : ¬ ((gath m l).length ≤ 12 ∨ 1526 < (gath m l).length)) {R : NS × Mm × List (List UInt8)} (hR : sendF (k + 1) s m acc = R) :
    (if ((s.setR true s.p.b.rg.took).gave true (rgive s.p.b.rg.took m hd 0).1).p.live then sendF k ((s.setR true s.p.b.rg.took).gave true (rgive s.p.b.rg.took m hd 0).1) (rgive s.p.b.rg.took m hd 0).2 (acc ++ [(gath m l).drop 12]) else ((s.setR true s.p.b.rg.took).gave true (rgive s.p.b.rg.took m hd 0).1, (rgive s.p.b.rg.took m hd 0).2, acc ++ [(gath m l).drop 12])) = R := by
  rw [sendF_step k s m acc h1 h2 h3] at hR
  cases hg : (rgive s.p.b.rg.took m hd 0).1
  · rw [hg, if_neg (by simp)] at hR
    rw [if_neg (show ¬ ((s.setR true s.p.b.rg.took).gave true false).p.live from live_fail _)]
    exact hR
  · rw [hg, if_pos rfl] at hR
    rw [if_pos (show ((s.setR true s.p.b.rg.took).gave true true).p.live from hlv)]
    exact hR
set_option maxRecDepth 100000 in
set_option maxHeartbeats 16000000 in
theorem ref16_Send_go {B : Nat} {F : Nat → Prop} {m : Mm} {w : World} (s : NS) (hs : s.p.wf) (rc : Array Value) (hrc : rc.size = 3) (hro : rc.all (·.oneCell') = true) (R : NS × Mm × List (List UInt8)) (hR : sendF 4 s m [] = R) (hbell : s.bell = true) (hwk : s.works true) (h : RefF w B (.agg rc) m F) (hF : ∀ k, F k → k < w.heap.size) (hB : B ≤ w.heap.size) :
    Calls Tryd.prog 20 #[.agg s.c, .agg rc] w (Send16Post w B F R) := by
  obtain ⟨k0, k1, k2, k3, hb0⟩ := new4 w (.cells s.c 59) (.cells rc 65) (.cells NS.zero.c 59) (.cells #[(.slice none 0 0 : Value), .slice none 0 0, .int .i64 0] 65)
  have HF0 := Lib.hid (And.intro hF hB)
  have HS0 : Hid (R16 w ((((w.alloc (.cells s.c 59)).alloc (.cells rc 65)).alloc (.cells NS.zero.c 59)).alloc (.cells #[(.slice none 0 0 : Value), .slice none 0 0, .int .i64 0] 65)) B F s rc m (.slice none 0 0) [] []) := Lib.hid ⟨hb0, k0, k1, k2, k3, hrc, hro, by
    obtain ⟨n1, n2, b1, c1, b2, c2, he, g1, g2, g3, g4, r1, r2⟩ := h
    have l1 := r1.lt
    have l2 := r2.lt
    exact ⟨n1, n2, b1, c1, b2, c2, he, g1, g2, fun hj => by rcases hj with hj | hj | hj; exact g3 hj; omega; simp [Value.ownBlock] at hj, fun hj => by rcases hj with hj | hj | hj; exact g4 hj; omega; simp [Value.ownBlock] at hj, r1.below hb0, r2.below hb0⟩, World.ownsRow_nil _ _ _ _, rfl, fun k x hk => by simp at hk⟩
  have hc21 := (cell_of_row _ _ 21 _ _ _ k0).trans (show s.c[21]? = some (.bool true) by rw [← hbell]; rfl)
  have HRD := Lib.hid (show s.c[14]? = some (.bool true) by rw [← (show s.p.b.rdy = true from hwk.2)]; rfl)
  have HLV : Hid (∀ (x : NS), x.p.wf → ∀ W, Calls Tryd.prog 47 #[.agg x.p.c.toList.toArray] W fun e w' => e = .returned (.bool (decide x.p.live)) ∧ Below W.heap.size W w') := Lib.hid (fun x hx W => by rw [Array.toArray_toList]; exact ref14_Live x.p hx.hst W)
  have HL1 := Lib.hid (HLV.out s hs)
  rw [decide_eq_true hwk.1] at HL1
  have HWF := Lib.hid hs
  have HR0 := Lib.hid (show (if s.p.live then sendF 4 s m [] else (s, m, [])) = R by rw [if_pos hwk.1]; exact hR)
  have HRP := Lib.hid (NS.range_p k0)
  clear hbell hwk h hF hB k0 k1 k2 k3 hb0 hs hR hrc hro
  go_enter Tryd.func20, Tryd.ntmps20
  go_upto_region 1 with fail
  change Code.wp _ _ _ _ ((((w.alloc (.cells s.c 59)).alloc (.cells rc 65)).alloc (.cells NS.zero.c 59)).alloc (.cells #[(.slice none 0 0 : Value), .slice none 0 0, .int .i64 0] 65))
  generalize ((((w.alloc (.cells s.c 59)).alloc (.cells rc 65)).alloc (.cells NS.zero.c 59)).alloc (.cells #[(.slice none 0 0 : Value), .slice none 0 0, .int .i64 0] 65)) = w1 at hc21 HRP HS0 ⊢
  go_wp2_with (first | go_skip | (refine load_midW rfl 57 _ rfl (w.heap.size) 0 rfl s.p.c.toList _ HRP.out Tryd.underlying57 rfl (vio14_sizeL _) ?_))
  refine (HL1.out _).mono ?_
  rintro e w2 ⟨rfl, hb⟩
  have HS2 := Lib.hid (HS0.out.below hb)
  clear hb HS0 hc21 HRP HL1
  have hc14 := (cell_of_row _ _ 14 _ _ _ HS2.out.k0).trans HRD.out
  go_wp2_with fail
  clear hc14 HRD
  go_loopw [7, 8] (fun fv iv wr => ∃ (k : Nat) (s' : NS) (m' : Mm) (rc' : Array Value) (vs : List Value) (acc : List (List UInt8)), iv = .int .i64 k ∧ k ≤ 4 ∧ acc.length = k ∧ s'.p.wf ∧ R16 w wr B F s' rc' m' fv vs acc ∧ (if s'.p.live then sendF (4 - k) s' m' acc else (s', m', acc)) = R) (fun _ iv _ => 4 - (intOf iv).toNat)
  case atStart => exact ⟨0, s, m, rc, [], [], rfl, by omega, rfl, HWF.out, HS2.out, HR0.out⟩
  case round =>
    obtain ⟨k, s', m', rc', vs, acc, rfl, hk4, hak, hwf, hst, hrr⟩ := hrel
    have HSa := Lib.hid hst
    have HWF := Lib.hid hwf
    have HRRa := Lib.hid hrr
    have HAK := Lib.hid hak
    have hk0 : (0 : Int) ≤ (k : Int) := by omega
    obtain ⟨av, cv, rfl⟩ := ownsRow_form hst.ow
    have HVL := Lib.hid (hst.len.symm.trans hak)
    have HL1 := Lib.hid (HLV.out s' hwf)
    have HRP := Lib.hid (NS.range_p hst.k0)
    clear hst hwf hrr hak HS2
    by_cases hlt : k < 4
    · have hltI : (k : Int) < 4 := by omega
      obtain ⟨kk, hkk⟩ : ∃ kk, 4 - k = kk + 1 := ⟨4 - k - 1, by omega⟩
      have HKK := Lib.hid hkk
      clear hkk
      by_cases hlv : s'.p.live
      · rw [decide_eq_true hlv] at HL1
        have HRR := Lib.hid (HRRa.out)
        rw [if_pos hlv] at HRR
        have HLIV := Lib.hid hlv
        clear hlv HRRa
        go_wp2_with (first | go_skip | (refine load_midW rfl 57 _ rfl (w.heap.size) 0 rfl s'.p.c.toList _ HRP.out Tryd.underlying57 rfl (vio14_sizeL _) ?_))
        refine (HL1.out _).mono ?_
        rintro e wl ⟨rfl, hb⟩
        have HS := Lib.hid (HSa.out.below hb)
        clear hb HSa HRP HL1
        have hnx := ref13_Next s'.p.b.rg (VQ.rg_wf HWF.out.hb) HS.out.ref.ref
        cases hx : rnext s'.p.b.rg m' with
        | none =>
          rw [hx] at hnx
          have HX := Lib.hid hx
          have HER := Lib.hid (show errR s'.p.b.rg = 22 ∨ errR s'.p.b.rg = 1 by unfold errR; split <;> simp)
          obtain ⟨er, her⟩ : ∃ er, er = errR s'.p.b.rg := ⟨_, rfl⟩
          rw [← her] at HER
          have hne : (((er : Nat) : Int) == 0) = false := by have := HER.out; simp; omega
          have hne2 : (((er : Nat) : Int) != 0) = true := by have := HER.out; simp; omega
          have HNX : Hid (Calls Tryd.prog 48 #[.agg s'.p.b.rg.c.toList.toArray, .agg rc'] wl fun e w' => e = .returned (.tuple #[.agg Rg.zero.c, .int .i64 0, .bool false, .int .i64 (er : Nat)]) ∧ Below wl.heap.size wl w') := Lib.hid (by rw [Array.toArray_toList, her]; exact hnx)
          have HRWF := Lib.hid zero_wf
          clear hnx hx her
          have HRR_ := Lib.hid (NS.range_rb HS.out.k0)
          have HCS0 := Lib.hid (ram06_size HS.out.c3)
          go_wp2_with (first | go_skip | (refine load_midW rfl 52 _ rfl (w.heap.size) 15 rfl s'.p.b.rg.c.toList _ HRR_.out Tryd.underlying52 rfl (ring13_sizeL _) ?_) | (refine wpList_load_row rfl 65 _ rfl (w.heap.size + 1) rfl 65 rc' (0, 0) _ HS.out.k1 Tryd.underlying65 rfl HCS0.out ?_))
          refine (HNX.out).mono ?_
          rintro e w3 ⟨rfl, hb⟩
          have HS3 := Lib.hid (HS.out.below hb)
          clear hb HNX HS HRR_
          have KN := Lib.hid (heap_alloc_new w3 (.cells #[.int .i64 0, .int .u32 0, .int .u32 0, .int .u32 0, .int .u16 0, .int .u16 0] 52))
          have HBN := Lib.hid ((Below.refl w3.heap.size w3).alloc (Nat.le_refl _) (.cells #[.int .i64 0, .int .u32 0, .int .u32 0, .int .u32 0, .int .u16 0, .int .u16 0] 52))
          have HL3 := Lib.hid (lt_heap HS3.out.k3)
          go_wp2_with (first | go_skip | (refine wpList_store_to rfl 52 _ _ rfl w3.heap.size (Rg.zero : Rg).c rfl rfl 52 #[.int .i64 0, .int .u32 0, .int .u32 0, .int .u32 0, .int .u16 0, .int .u16 0] KN.out (ring13_size _) rfl (Rg.c_one _) ?_))
          intro w4 hx hk
          have HB4 : Hid (Below w3.heap.size w3 w4) := Lib.hid (HBN.out.trans (hx.out.below (fun k hk e => by omega) (by simp)))
          have HS4 := Lib.hid (HS3.out.below HB4.out)
          have K7 := Lib.hid hk
          have HLW4 := Lib.hid (lt_heap hk)
          clear hx hk KN HBN HS3 HB4
          have HWL := Lib.hid (walkL_ok Rg.zero m' 0)
          have HWK : Hid (Calls Tryd.prog 49 #[.agg (Rg.zero : Rg).c, .agg rc', .int .i64 0] w4 (Walk13All w4 (walkL Rg.zero m' 0) (walkN Rg.zero m' 0))) := Lib.hid (ref13_Walk_all _ HRWF.out _ HS4.out.ref.ref)
          have HLL : Hid (walkL Rg.zero m' 0 = []) := Lib.hid (by exact if_neg zero_notok)
          have HNN : Hid (walkN Rg.zero m' 0 = 1) := Lib.hid (by exact if_neg zero_notok)
          rw [HLL.out] at HWK HWL
          rw [HNN.out] at HWK
          clear HLL HNN
          go_wp2_with (first | go_skip | (refine wpList_load_row rfl 52 _ rfl (w3.heap.size) rfl 52 (Rg.zero : Rg).c (0, 0) _ K7.out Tryd.underlying52 rfl (ring13_size _) ?_) | (refine wpList_load_row rfl 65 _ rfl (w.heap.size + 1) rfl 65 rc' (0, 0) _ HS4.out.k1 Tryd.underlying65 rfl HCS0.out ?_))
          refine (HWK.out).mono ?_
          rintro e w5 ⟨sv, rfl, hb, how⟩
          have HS5 := Lib.hid (HS4.out.below hb)
          have K7b := Lib.hid (keepB K7.out hb)
          obtain ⟨ao, c9, rfl, hc9, hl9, hsg⟩ := SegsAt.of_owns13 (F := fun _ => False) how (fun b _ h => h)
          have HGA := Lib.hid (ref13_Gather_all HS5.out.ref.ref ao [] c9 hsg HWL.out.1 HWL.out.2.1 HWL.out.2.2)
          have HGS := Lib.hid (show (gath m' []).length ≤ 1048576 from Nat.le_trans (gath_sum m' []) HWL.out.2.1)
          clear hb how hc9 hl9 hsg HWK HS4 K7
          obtain ⟨bs, hbs⟩ : ∃ bs, bs = gath m' [] := ⟨_, rfl⟩
          rw [← hbs] at HGA HGS
          have HBS := Lib.hid hbs
          clear hbs
          go_wp2_with (first | go_skip | (refine wpList_load_row rfl 65 _ rfl (w.heap.size + 1) rfl 65 rc' (0, 0) _ HS5.out.k1 Tryd.underlying65 rfl HCS0.out ?_))
          refine (HGA.out).mono ?_
          rintro e w6 ⟨v8, rfl, hb, how8⟩
          have HS6 := Lib.hid (HS5.out.below hb)
          have K7c := Lib.hid (keepB K7b.out hb)
          have HO8 := Lib.hid how8
          have HSZ56 := Lib.hid hb.size
          have HLW5 := Lib.hid (And.intro HLW4.out (lt_heap K7b.out))
          have HLOW5 := Lib.hid (lt_heap HS5.out.k3)
          have HOWL := Lib.hid (fun q hq => (ownsRow_lt HS5.out.ow (b := q) hq).2)
          clear hb how8 HGA HS5 K7b
          obtain ⟨n8, hn8⟩ : ∃ n8, n8 = bs.length := ⟨_, rfl⟩
          have HN8 := Lib.hid hn8
          rw [← hn8] at HO8 HGS
          have hn80 : (0 : Int) ≤ (n8 : Int) := by omega
          clear hn8
          have HRP := Lib.hid (NS.range_p HS6.out.k0)
          have HFA : Hid (∀ W, Calls Tryd.prog 51 #[.agg s'.p.c.toList.toArray] W fun e w' => e = .returned (.agg s'.p.fail.c) ∧ Below W.heap.size W w') := Lib.hid (fun W => by rw [Array.toArray_toList]; exact ref14_Fail s'.p HWF.out.hst HWF.out.hirq W)
          go_wp2_with (first | go_skip | (refine load_midW rfl 57 _ rfl (w.heap.size) 0 rfl s'.p.c.toList _ HRP.out Tryd.underlying57 rfl (vio14_sizeL _) ?_))
          refine (HFA.out _).mono ?_
          rintro e w11 ⟨rfl, hb⟩
          have HS11 := Lib.hid (HS6.out.below hb)
          clear hb HRP HFA HS6
          go_wp2_with (first | go_skip | (refine wpList_store_mid_to rfl 57 _ _ rfl (w.heap.size) 0 s'.p.fail.c rfl rfl 59 s'.c HS11.out.k0 (by show 0 + 21 ≤ 23; omega) (vio14_size _) (VS.c_one _) ?_))
          intro w12 hx hk
          rw [put_p] at hk
          have HS12 := Lib.hid (HS11.out.setS hx.out hk)
          clear hx hk HS11
          have HRES := Lib.hid (show (({ s' with p := s'.p.fail } : NS), m', acc) = R by rw [← HRR.out, HKK.out]; exact (sendF_err _ _ _ _ HX.out).symm)
          have HSO := Lib.hid (NS.c_one ({ s' with p := s'.p.fail }))
          have HCS := Lib.hid (ram06_size HS12.out.c3)
          go_upto_region 15 with fail
          refine wp_region_held_drew (S := KX (fun k => k = w.heap.size + 1 + 1 ∨ k = w.heap.size + 1 + 1 + 1) w12) (by kernel_rfl) ((KX.refl (fun k => k = w.heap.size + 1 + 1 ∨ k = w.heap.size + 1 + 1 + 1) w12).drew) (fun hHeld => ?_)
          refine wpAnyH_take (i := 0) rfl (by kernel_rfl) (by kernel_rfl) (by kernel_rfl) (fun _ _ _ h => h) (yieldsIf_load_mid (by rfl) 59 _ rfl (w.heap.size) 0 rfl ({ s' with p := s'.p.fail } : NS).c.toList _ (fun W hSw => range_of_all (hSw.heap HS12.out.k0 (by omega))) Tryd.underlying59 rfl ?hi0z1) (by assumption) ?rest0z1
          case hi0z1 => exact nic16_size _
          simp only [Act.put, List.getElem_toArray, List.getElem_cons_zero, List.setIfInBounds_toArray, List.set_cons_zero, List.set_cons_succ]
          refine wpAnyH_take (i := 1) rfl (by kernel_rfl) (by kernel_rfl) (by kernel_rfl) (fun _ _ _ h => h) (yieldsIf_load_mid (by rfl) 65 _ rfl (w.heap.size + 1) 0 rfl (rc').toList _ (fun W hSw => range_of_all (hSw.heap HS12.out.k1 (by omega))) Tryd.underlying65 rfl ?hi1z1) (by assumption) ?rest1z1
          case hi1z1 => exact HCS.out
          simp only [Act.put, List.getElem_toArray, List.getElem_cons_zero, List.getElem_cons_succ, List.setIfInBounds_toArray, List.set_cons_zero, List.set_cons_succ]
          refine wpAnyH_take (i := 2) (v := ?v2z1) rfl (by kernel_rfl) (by kernel_rfl) (by kernel_rfl) (fun _ _ _ h => h) (Or.inl ⟨by rfl, ?hy2z1⟩) (by assumption) ?rest2z1
          case hy2z1 => (intro W hSw; go_simp; first | done | with_reducible rfl)
          simp only [Act.put, List.getElem_toArray, List.getElem_cons_zero, List.getElem_cons_succ, List.setIfInBounds_toArray, List.set_cons_zero, List.set_cons_succ]
          refine wpAnyH_two_stores (i := 3) (j := 4) (w.heap.size + 1 + 1) (w.heap.size + 1 + 1 + 1) ({ s' with p := s'.p.fail } : NS).c (rc') NS.zero.c #[(.slice none 0 0 : Value), .slice none 0 0, .int .i64 0] 59 65 rfl rfl (by kernel_rfl) (by kernel_rfl) rfl rfl rfl rfl 59 65 _ _ _ _ rfl rfl rfl rfl rfl rfl HS12.out.k2 HS12.out.k3 (nic16_size _) HCS.out rfl (by rw [HS12.out.c3]; rfl) HSO.out HS12.out.co (by omega) hHeld ?_
          intro wz hx hk1 hk2
          clear hHeld
          try simp only [List.setIfInBounds_toArray, List.set_cons_zero, List.set_cons_succ]
          refine wpAnyH_take (i := 5) (v := ?v5z1) rfl (by kernel_rfl) (by kernel_rfl) (by kernel_rfl) (fun _ _ _ h => h) (Or.inl ⟨by rfl, ?hy5z1⟩) (by assumption) ?rest5z1
          case hy5z1 => (intro W hSw; go_simp; first | done | with_reducible rfl)
          simp only [Act.put, List.getElem_toArray, List.getElem_cons_zero, List.getElem_cons_succ, List.setIfInBounds_toArray, List.set_cons_zero, List.set_cons_succ]
          refine wpAnyH_done (by kernel_rfl) ?_ _
          have HFN := Lib.hid (HS12.out.fin hx)
          have HZ1 := Lib.hid hk1
          have HZ2 := Lib.hid hk2
          clear hx hk1 hk2
          go_wp2_with fail
          exact bodyPost_ret (v := .tuple #[.agg ({ s' with p := s'.p.fail } : NS).c, .agg (rc'), .slice av (vs.length) cv]) (results_2cell_tmp Tryd.results20 _ _ (w.heap.size + 1 + 1) (w.heap.size + 1 + 1 + 1) 59 65 ({ s' with p := s'.p.fail } : NS).c (rc') (0, 0) (0, 0) _ _ rfl rfl HZ1.out HZ2.out Tryd.underlying59 rfl (nic16_size _) Tryd.underlying65 rfl HCS.out) rfl (by rw [← HRES.out]; exact HFN.out)
        | some x =>
          cases x with
          | none =>
            rw [hx] at hnx
            have HX := Lib.hid hx
            have HNX : Hid (Calls Tryd.prog 48 #[.agg s'.p.b.rg.c.toList.toArray, .agg rc'] wl fun e w' => e = .returned (.tuple #[.agg s'.p.b.rg.c, .int .i64 0, .bool false, .int .i64 0]) ∧ Below wl.heap.size wl w') := Lib.hid (by rw [Array.toArray_toList]; exact hnx)
            clear hnx hx
            have HRR_ := Lib.hid (NS.range_rb HS.out.k0)
            have HCS0 := Lib.hid (ram06_size HS.out.c3)
            go_wp2_with (first | go_skip | (refine load_midW rfl 52 _ rfl (w.heap.size) 15 rfl s'.p.b.rg.c.toList _ HRR_.out Tryd.underlying52 rfl (ring13_sizeL _) ?_) | (refine wpList_load_row rfl 65 _ rfl (w.heap.size + 1) rfl 65 rc' (0, 0) _ HS.out.k1 Tryd.underlying65 rfl HCS0.out ?_))
            refine (HNX.out).mono ?_
            rintro e w3 ⟨rfl, hb⟩
            have HS3 := Lib.hid (HS.out.below hb)
            clear hb HNX HS HRR_
            have KN := Lib.hid (heap_alloc_new w3 (.cells #[.int .i64 0, .int .u32 0, .int .u32 0, .int .u32 0, .int .u16 0, .int .u16 0] 52))
            have HBN := Lib.hid ((Below.refl w3.heap.size w3).alloc (Nat.le_refl _) (.cells #[.int .i64 0, .int .u32 0, .int .u32 0, .int .u32 0, .int .u16 0, .int .u16 0] 52))
            have HL3 := Lib.hid (lt_heap HS3.out.k3)
            go_wp2_with (first | go_skip | (refine wpList_store_to rfl 52 _ _ rfl w3.heap.size (s'.p.b.rg : Rg).c rfl rfl 52 #[.int .i64 0, .int .u32 0, .int .u32 0, .int .u32 0, .int .u16 0, .int .u16 0] KN.out (ring13_size _) rfl (Rg.c_one _) ?_))
            intro w4 hx hk
            have HB4 : Hid (Below w3.heap.size w3 w4) := Lib.hid (HBN.out.trans (hx.out.below (fun k hk e => by omega) (by simp)))
            have HS4 := Lib.hid (HS3.out.below HB4.out)
            have K7 := Lib.hid hk
            have HLW4 := Lib.hid (lt_heap hk)
            clear hx hk KN HBN HS3 HB4
            have c21 := (cell_of_row _ _ 21 _ _ _ HS4.out.k0).trans (rfl : _ = some (.bool s'.bell : Value))
            have f21 := frozen_of_row _ _ 21 _ _ HS4.out.k0
            have HS5 : Hid (R16 w (w4.setCell ⟨w.heap.size, 21, none⟩ (.bool false)) B F { s' with bell := false } rc' m' (.slice av vs.length cv) vs acc) := Lib.hid (HS4.out.setS ((KX.refl (fun k => k = w.heap.size) w4).setCell (p := ⟨w.heap.size, 21, none⟩) (.inl rfl) _) ((set_cells HS4.out.k0).trans (by rw [put_bell])))
            go_upto_region 10 with fail
            generalize (w4.setCell ⟨w.heap.size, 21, none⟩ (.bool false)) = w5 at HS5 ⊢
            clear c21 f21 HS4
            have HRES := Lib.hid (show (({ s' with bell := false } : NS), m', acc) = R by rw [← HRR.out, HKK.out]; exact (sendF_none _ _ _ _ HX.out).symm)
            have HSO := Lib.hid (NS.c_one ({ s' with bell := false }))
            have HCS := Lib.hid (ram06_size HS5.out.c3)
            go_upto_region 10 with fail
            refine wp_region_held_drew (S := KX (fun k => k = w.heap.size + 1 + 1 ∨ k = w.heap.size + 1 + 1 + 1) w5) (by kernel_rfl) ((KX.refl (fun k => k = w.heap.size + 1 + 1 ∨ k = w.heap.size + 1 + 1 + 1) w5).drew) (fun hHeld => ?_)
            refine wpAnyH_take (i := 0) rfl (by kernel_rfl) (by kernel_rfl) (by kernel_rfl) (fun _ _ _ h => h) (yieldsIf_load_mid (by rfl) 59 _ rfl (w.heap.size) 0 rfl ({ s' with bell := false } : NS).c.toList _ (fun W hSw => range_of_all (hSw.heap HS5.out.k0 (by omega))) Tryd.underlying59 rfl ?hi0z2) (by assumption) ?rest0z2
            case hi0z2 => exact nic16_size _
            simp only [Act.put, List.getElem_toArray, List.getElem_cons_zero, List.setIfInBounds_toArray, List.set_cons_zero, List.set_cons_succ]
            refine wpAnyH_take (i := 1) rfl (by kernel_rfl) (by kernel_rfl) (by kernel_rfl) (fun _ _ _ h => h) (yieldsIf_load_mid (by rfl) 65 _ rfl (w.heap.size + 1) 0 rfl (rc').toList _ (fun W hSw => range_of_all (hSw.heap HS5.out.k1 (by omega))) Tryd.underlying65 rfl ?hi1z2) (by assumption) ?rest1z2
            case hi1z2 => exact HCS.out
            simp only [Act.put, List.getElem_toArray, List.getElem_cons_zero, List.getElem_cons_succ, List.setIfInBounds_toArray, List.set_cons_zero, List.set_cons_succ]
            refine wpAnyH_take (i := 2) (v := ?v2z2) rfl (by kernel_rfl) (by kernel_rfl) (by kernel_rfl) (fun _ _ _ h => h) (Or.inl ⟨by rfl, ?hy2z2⟩) (by assumption) ?rest2z2
            case hy2z2 => (intro W hSw; go_simp; first | done | with_reducible rfl)
            simp only [Act.put, List.getElem_toArray, List.getElem_cons_zero, List.getElem_cons_succ, List.setIfInBounds_toArray, List.set_cons_zero, List.set_cons_succ]
            refine wpAnyH_two_stores (i := 3) (j := 4) (w.heap.size + 1 + 1) (w.heap.size + 1 + 1 + 1) ({ s' with bell := false } : NS).c (rc') NS.zero.c #[(.slice none 0 0 : Value), .slice none 0 0, .int .i64 0] 59 65 rfl rfl (by kernel_rfl) (by kernel_rfl) rfl rfl rfl rfl 59 65 _ _ _ _ rfl rfl rfl rfl rfl rfl HS5.out.k2 HS5.out.k3 (nic16_size _) HCS.out rfl (by rw [HS5.out.c3]; rfl) HSO.out HS5.out.co (by omega) hHeld ?_
            intro wz hx hk1 hk2
            clear hHeld
            try simp only [List.setIfInBounds_toArray, List.set_cons_zero, List.set_cons_succ]
            refine wpAnyH_take (i := 5) (v := ?v5z2) rfl (by kernel_rfl) (by kernel_rfl) (by kernel_rfl) (fun _ _ _ h => h) (Or.inl ⟨by rfl, ?hy5z2⟩) (by assumption) ?rest5z2
            case hy5z2 => (intro W hSw; go_simp; first | done | with_reducible rfl)
            simp only [Act.put, List.getElem_toArray, List.getElem_cons_zero, List.getElem_cons_succ, List.setIfInBounds_toArray, List.set_cons_zero, List.set_cons_succ]
            refine wpAnyH_done (by kernel_rfl) ?_ _
            have HFN := Lib.hid (HS5.out.fin hx)
            have HZ1 := Lib.hid hk1
            have HZ2 := Lib.hid hk2
            clear hx hk1 hk2
            go_wp2_with fail
            exact bodyPost_ret (v := .tuple #[.agg ({ s' with bell := false } : NS).c, .agg (rc'), .slice av (vs.length) cv]) (results_2cell_tmp Tryd.results20 _ _ (w.heap.size + 1 + 1) (w.heap.size + 1 + 1 + 1) 59 65 ({ s' with bell := false } : NS).c (rc') (0, 0) (0, 0) _ _ rfl rfl HZ1.out HZ2.out Tryd.underlying59 rfl (nic16_size _) Tryd.underlying65 rfl HCS.out) rfl (by rw [← HRES.out]; exact HFN.out)
          | some hd =>
            rw [hx] at hnx
            have HX := Lib.hid hx
            have HNX : Hid (Calls Tryd.prog 48 #[.agg s'.p.b.rg.c.toList.toArray, .agg rc'] wl fun e w' => e = .returned (.tuple #[.agg s'.p.b.rg.took.c, .int .i64 hd, .bool true, .int .i64 0]) ∧ Below wl.heap.size wl w') := Lib.hid (by rw [Array.toArray_toList]; exact hnx)
            have HRWF := Lib.hid (Rg.took_wf (VQ.rg_wf HWF.out.hb))
            have HOKP := Lib.hid (And.intro (rnext_ok hx) (rnext_lt hx))
            clear hnx hx
            cases hw : rwalk s'.p.b.de s'.p.b.size.toNat m' hd with
            | none =>
              have HXW := Lib.hid hw
              clear hw
              have HRR_ := Lib.hid (NS.range_rb HS.out.k0)
              have HCS0 := Lib.hid (ram06_size HS.out.c3)
              go_wp2_with (first | go_skip | (refine load_midW rfl 52 _ rfl (w.heap.size) 15 rfl s'.p.b.rg.c.toList _ HRR_.out Tryd.underlying52 rfl (ring13_sizeL _) ?_) | (refine wpList_load_row rfl 65 _ rfl (w.heap.size + 1) rfl 65 rc' (0, 0) _ HS.out.k1 Tryd.underlying65 rfl HCS0.out ?_))
              refine (HNX.out).mono ?_
              rintro e w3 ⟨rfl, hb⟩
              have HS3 := Lib.hid (HS.out.below hb)
              clear hb HNX HS HRR_
              have KN := Lib.hid (heap_alloc_new w3 (.cells #[.int .i64 0, .int .u32 0, .int .u32 0, .int .u32 0, .int .u16 0, .int .u16 0] 52))
              have HBN := Lib.hid ((Below.refl w3.heap.size w3).alloc (Nat.le_refl _) (.cells #[.int .i64 0, .int .u32 0, .int .u32 0, .int .u32 0, .int .u16 0, .int .u16 0] 52))
              have HL3 := Lib.hid (lt_heap HS3.out.k3)
              go_wp2_with (first | go_skip | (refine wpList_store_to rfl 52 _ _ rfl w3.heap.size (s'.p.b.rg.took : Rg).c rfl rfl 52 #[.int .i64 0, .int .u32 0, .int .u32 0, .int .u32 0, .int .u16 0, .int .u16 0] KN.out (ring13_size _) rfl (Rg.c_one _) ?_))
              intro w4 hx hk
              have HB4 : Hid (Below w3.heap.size w3 w4) := Lib.hid (HBN.out.trans (hx.out.below (fun k hk e => by omega) (by simp)))
              have HS4 := Lib.hid (HS3.out.below HB4.out)
              have K7 := Lib.hid hk
              have HLW4 := Lib.hid (lt_heap hk)
              clear hx hk KN HBN HS3 HB4
              have HWL := Lib.hid (walkL_ok s'.p.b.rg.took m' (hd : Int))
              have HWK : Hid (Calls Tryd.prog 49 #[.agg (s'.p.b.rg.took : Rg).c, .agg rc', .int .i64 (hd : Int)] w4 (Walk13All w4 (walkL s'.p.b.rg.took m' (hd : Int)) (walkN s'.p.b.rg.took m' (hd : Int)))) := Lib.hid (ref13_Walk_all _ HRWF.out _ HS4.out.ref.ref)
              have HLL : Hid (walkL s'.p.b.rg.took m' (hd : Int) = ([] : List Sg)) := Lib.hid (by rw [show walkL s'.p.b.rg.took m' (hd : Int) = (rwalk s'.p.b.de s'.p.b.size.toNat m' hd).getD [] from if_pos HOKP.out.1, HXW.out]; rfl)
              have HNN : Hid (walkN s'.p.b.rg.took m' (hd : Int) = 22) := Lib.hid (by rw [show walkN s'.p.b.rg.took m' (hd : Int) = (if (rwalk s'.p.b.de s'.p.b.size.toNat m' hd).isSome then 0 else 22) from if_pos HOKP.out.1, HXW.out]; rfl)
              rw [HLL.out] at HWK HWL
              rw [HNN.out] at HWK
              clear HLL HNN
              go_wp2_with (first | go_skip | (refine wpList_load_row rfl 52 _ rfl (w3.heap.size) rfl 52 (s'.p.b.rg.took : Rg).c (0, 0) _ K7.out Tryd.underlying52 rfl (ring13_size _) ?_) | (refine wpList_load_row rfl 65 _ rfl (w.heap.size + 1) rfl 65 rc' (0, 0) _ HS4.out.k1 Tryd.underlying65 rfl HCS0.out ?_))
              refine (HWK.out).mono ?_
              rintro e w5 ⟨sv, rfl, hb, how⟩
              have HS5 := Lib.hid (HS4.out.below hb)
              have K7b := Lib.hid (keepB K7.out hb)
              obtain ⟨ao, c9, rfl, hc9, hl9, hsg⟩ := SegsAt.of_owns13 (F := fun _ => False) how (fun b _ h => h)
              have HGA := Lib.hid (ref13_Gather_all HS5.out.ref.ref ao ([] : List Sg) c9 hsg HWL.out.1 HWL.out.2.1 HWL.out.2.2)
              have HGS := Lib.hid (show (gath m' ([] : List Sg)).length ≤ 1048576 from Nat.le_trans (gath_sum m' ([] : List Sg)) HWL.out.2.1)
              clear hb how hc9 hl9 hsg HWK HS4 K7
              obtain ⟨bs, hbs⟩ : ∃ bs, bs = gath m' ([] : List Sg) := ⟨_, rfl⟩
              rw [← hbs] at HGA HGS
              have HBS := Lib.hid hbs
              clear hbs
              go_wp2_with (first | go_skip | (refine wpList_load_row rfl 65 _ rfl (w.heap.size + 1) rfl 65 rc' (0, 0) _ HS5.out.k1 Tryd.underlying65 rfl HCS0.out ?_))
              refine (HGA.out).mono ?_
              rintro e w6 ⟨v8, rfl, hb, how8⟩
              have HS6 := Lib.hid (HS5.out.below hb)
              have K7c := Lib.hid (keepB K7b.out hb)
              have HO8 := Lib.hid how8
              have HSZ56 := Lib.hid hb.size
              have HLW5 := Lib.hid (And.intro HLW4.out (lt_heap K7b.out))
              have HLOW5 := Lib.hid (lt_heap HS5.out.k3)
              have HOWL := Lib.hid (fun q hq => (ownsRow_lt HS5.out.ow (b := q) hq).2)
              clear hb how8 HGA HS5 K7b
              obtain ⟨n8, hn8⟩ : ∃ n8, n8 = bs.length := ⟨_, rfl⟩
              have HN8 := Lib.hid hn8
              rw [← hn8] at HO8 HGS
              have hn80 : (0 : Int) ≤ (n8 : Int) := by omega
              clear hn8
              have HRP := Lib.hid (NS.range_p HS6.out.k0)
              have HFA : Hid (∀ W, Calls Tryd.prog 51 #[.agg s'.p.c.toList.toArray] W fun e w' => e = .returned (.agg s'.p.fail.c) ∧ Below W.heap.size W w') := Lib.hid (fun W => by rw [Array.toArray_toList]; exact ref14_Fail s'.p HWF.out.hst HWF.out.hirq W)
              go_wp2_with (first | go_skip | (refine load_midW rfl 57 _ rfl (w.heap.size) 0 rfl s'.p.c.toList _ HRP.out Tryd.underlying57 rfl (vio14_sizeL _) ?_))
              refine (HFA.out _).mono ?_
              rintro e w11 ⟨rfl, hb⟩
              have HS11 := Lib.hid (HS6.out.below hb)
              clear hb HRP HFA HS6
              go_wp2_with (first | go_skip | (refine wpList_store_mid_to rfl 57 _ _ rfl (w.heap.size) 0 s'.p.fail.c rfl rfl 59 s'.c HS11.out.k0 (by show 0 + 21 ≤ 23; omega) (vio14_size _) (VS.c_one _) ?_))
              intro w12 hx hk
              rw [put_p] at hk
              have HS12 := Lib.hid (HS11.out.setS hx.out hk)
              clear hx hk HS11
              have HRES := Lib.hid (show (({ s' with p := s'.p.fail } : NS), m', acc) = R by rw [← HRR.out, HKK.out]; exact (sendF_nowalk _ _ _ _ HX.out HXW.out).symm)
              have HSO := Lib.hid (NS.c_one ({ s' with p := s'.p.fail }))
              have HCS := Lib.hid (ram06_size HS12.out.c3)
              go_upto_region 15 with fail
              refine wp_region_held_drew (S := KX (fun k => k = w.heap.size + 1 + 1 ∨ k = w.heap.size + 1 + 1 + 1) w12) (by kernel_rfl) ((KX.refl (fun k => k = w.heap.size + 1 + 1 ∨ k = w.heap.size + 1 + 1 + 1) w12).drew) (fun hHeld => ?_)
              refine wpAnyH_take (i := 0) rfl (by kernel_rfl) (by kernel_rfl) (by kernel_rfl) (fun _ _ _ h => h) (yieldsIf_load_mid (by rfl) 59 _ rfl (w.heap.size) 0 rfl ({ s' with p := s'.p.fail } : NS).c.toList _ (fun W hSw => range_of_all (hSw.heap HS12.out.k0 (by omega))) Tryd.underlying59 rfl ?hi0z3) (by assumption) ?rest0z3
              case hi0z3 => exact nic16_size _
              simp only [Act.put, List.getElem_toArray, List.getElem_cons_zero, List.setIfInBounds_toArray, List.set_cons_zero, List.set_cons_succ]
              refine wpAnyH_take (i := 1) rfl (by kernel_rfl) (by kernel_rfl) (by kernel_rfl) (fun _ _ _ h => h) (yieldsIf_load_mid (by rfl) 65 _ rfl (w.heap.size + 1) 0 rfl (rc').toList _ (fun W hSw => range_of_all (hSw.heap HS12.out.k1 (by omega))) Tryd.underlying65 rfl ?hi1z3) (by assumption) ?rest1z3
              case hi1z3 => exact HCS.out
              simp only [Act.put, List.getElem_toArray, List.getElem_cons_zero, List.getElem_cons_succ, List.setIfInBounds_toArray, List.set_cons_zero, List.set_cons_succ]
              refine wpAnyH_take (i := 2) (v := ?v2z3) rfl (by kernel_rfl) (by kernel_rfl) (by kernel_rfl) (fun _ _ _ h => h) (Or.inl ⟨by rfl, ?hy2z3⟩) (by assumption) ?rest2z3
              case hy2z3 => (intro W hSw; go_simp; first | done | with_reducible rfl)
              simp only [Act.put, List.getElem_toArray, List.getElem_cons_zero, List.getElem_cons_succ, List.setIfInBounds_toArray, List.set_cons_zero, List.set_cons_succ]
              refine wpAnyH_two_stores (i := 3) (j := 4) (w.heap.size + 1 + 1) (w.heap.size + 1 + 1 + 1) ({ s' with p := s'.p.fail } : NS).c (rc') NS.zero.c #[(.slice none 0 0 : Value), .slice none 0 0, .int .i64 0] 59 65 rfl rfl (by kernel_rfl) (by kernel_rfl) rfl rfl rfl rfl 59 65 _ _ _ _ rfl rfl rfl rfl rfl rfl HS12.out.k2 HS12.out.k3 (nic16_size _) HCS.out rfl (by rw [HS12.out.c3]; rfl) HSO.out HS12.out.co (by omega) hHeld ?_
              intro wz hx hk1 hk2
              clear hHeld
              try simp only [List.setIfInBounds_toArray, List.set_cons_zero, List.set_cons_succ]
              refine wpAnyH_take (i := 5) (v := ?v5z3) rfl (by kernel_rfl) (by kernel_rfl) (by kernel_rfl) (fun _ _ _ h => h) (Or.inl ⟨by rfl, ?hy5z3⟩) (by assumption) ?rest5z3
              case hy5z3 => (intro W hSw; go_simp; first | done | with_reducible rfl)
              simp only [Act.put, List.getElem_toArray, List.getElem_cons_zero, List.getElem_cons_succ, List.setIfInBounds_toArray, List.set_cons_zero, List.set_cons_succ]
              refine wpAnyH_done (by kernel_rfl) ?_ _
              have HFN := Lib.hid (HS12.out.fin hx)
              have HZ1 := Lib.hid hk1
              have HZ2 := Lib.hid hk2
              clear hx hk1 hk2
              go_wp2_with fail
              exact bodyPost_ret (v := .tuple #[.agg ({ s' with p := s'.p.fail } : NS).c, .agg (rc'), .slice av (vs.length) cv]) (results_2cell_tmp Tryd.results20 _ _ (w.heap.size + 1 + 1) (w.heap.size + 1 + 1 + 1) 59 65 ({ s' with p := s'.p.fail } : NS).c (rc') (0, 0) (0, 0) _ _ rfl rfl HZ1.out HZ2.out Tryd.underlying59 rfl (nic16_size _) Tryd.underlying65 rfl HCS.out) rfl (by rw [← HRES.out]; exact HFN.out)
            | some l =>
              have HXW := Lib.hid hw
              clear hw
              have HRR_ := Lib.hid (NS.range_rb HS.out.k0)
              have HCS0 := Lib.hid (ram06_size HS.out.c3)
              go_wp2_with (first | go_skip | (refine load_midW rfl 52 _ rfl (w.heap.size) 15 rfl s'.p.b.rg.c.toList _ HRR_.out Tryd.underlying52 rfl (ring13_sizeL _) ?_) | (refine wpList_load_row rfl 65 _ rfl (w.heap.size + 1) rfl 65 rc' (0, 0) _ HS.out.k1 Tryd.underlying65 rfl HCS0.out ?_))
              refine (HNX.out).mono ?_
              rintro e w3 ⟨rfl, hb⟩
              have HS3 := Lib.hid (HS.out.below hb)
              clear hb HNX HS HRR_
              have KN := Lib.hid (heap_alloc_new w3 (.cells #[.int .i64 0, .int .u32 0, .int .u32 0, .int .u32 0, .int .u16 0, .int .u16 0] 52))
              have HBN := Lib.hid ((Below.refl w3.heap.size w3).alloc (Nat.le_refl _) (.cells #[.int .i64 0, .int .u32 0, .int .u32 0, .int .u32 0, .int .u16 0, .int .u16 0] 52))
              have HL3 := Lib.hid (lt_heap HS3.out.k3)
              go_wp2_with (first | go_skip | (refine wpList_store_to rfl 52 _ _ rfl w3.heap.size (s'.p.b.rg.took : Rg).c rfl rfl 52 #[.int .i64 0, .int .u32 0, .int .u32 0, .int .u32 0, .int .u16 0, .int .u16 0] KN.out (ring13_size _) rfl (Rg.c_one _) ?_))
              intro w4 hx hk
              have HB4 : Hid (Below w3.heap.size w3 w4) := Lib.hid (HBN.out.trans (hx.out.below (fun k hk e => by omega) (by simp)))
              have HS4 := Lib.hid (HS3.out.below HB4.out)
              have K7 := Lib.hid hk
              have HLW4 := Lib.hid (lt_heap hk)
              clear hx hk KN HBN HS3 HB4
              have HWL := Lib.hid (walkL_ok s'.p.b.rg.took m' (hd : Int))
              have HWK : Hid (Calls Tryd.prog 49 #[.agg (s'.p.b.rg.took : Rg).c, .agg rc', .int .i64 (hd : Int)] w4 (Walk13All w4 (walkL s'.p.b.rg.took m' (hd : Int)) (walkN s'.p.b.rg.took m' (hd : Int)))) := Lib.hid (ref13_Walk_all _ HRWF.out _ HS4.out.ref.ref)
              have HLL : Hid (walkL s'.p.b.rg.took m' (hd : Int) = l) := Lib.hid (by rw [show walkL s'.p.b.rg.took m' (hd : Int) = (rwalk s'.p.b.de s'.p.b.size.toNat m' hd).getD [] from if_pos HOKP.out.1, HXW.out]; rfl)
              have HNN : Hid (walkN s'.p.b.rg.took m' (hd : Int) = 0) := Lib.hid (by rw [show walkN s'.p.b.rg.took m' (hd : Int) = (if (rwalk s'.p.b.de s'.p.b.size.toNat m' hd).isSome then 0 else 22) from if_pos HOKP.out.1, HXW.out]; rfl)
              rw [HLL.out] at HWK HWL
              rw [HNN.out] at HWK
              clear HLL HNN
              go_wp2_with (first | go_skip | (refine wpList_load_row rfl 52 _ rfl (w3.heap.size) rfl 52 (s'.p.b.rg.took : Rg).c (0, 0) _ K7.out Tryd.underlying52 rfl (ring13_size _) ?_) | (refine wpList_load_row rfl 65 _ rfl (w.heap.size + 1) rfl 65 rc' (0, 0) _ HS4.out.k1 Tryd.underlying65 rfl HCS0.out ?_))
              refine (HWK.out).mono ?_
              rintro e w5 ⟨sv, rfl, hb, how⟩
              have HS5 := Lib.hid (HS4.out.below hb)
              have K7b := Lib.hid (keepB K7.out hb)
              obtain ⟨ao, c9, rfl, hc9, hl9, hsg⟩ := SegsAt.of_owns13 (F := fun _ => False) how (fun b _ h => h)
              have HGA := Lib.hid (ref13_Gather_all HS5.out.ref.ref ao l c9 hsg HWL.out.1 HWL.out.2.1 HWL.out.2.2)
              have HGS := Lib.hid (show (gath m' l).length ≤ 1048576 from Nat.le_trans (gath_sum m' l) HWL.out.2.1)
              clear hb how hc9 hl9 hsg HWK HS4 K7
              obtain ⟨bs, hbs⟩ : ∃ bs, bs = gath m' l := ⟨_, rfl⟩
              rw [← hbs] at HGA HGS
              have HBS := Lib.hid hbs
              clear hbs
              go_wp2_with (first | go_skip | (refine wpList_load_row rfl 65 _ rfl (w.heap.size + 1) rfl 65 rc' (0, 0) _ HS5.out.k1 Tryd.underlying65 rfl HCS0.out ?_))
              refine (HGA.out).mono ?_
              rintro e w6 ⟨v8, rfl, hb, how8⟩
              have HS6 := Lib.hid (HS5.out.below hb)
              have K7c := Lib.hid (keepB K7b.out hb)
              have HO8 := Lib.hid how8
              have HSZ56 := Lib.hid hb.size
              have HLW5 := Lib.hid (And.intro HLW4.out (lt_heap K7b.out))
              have HLOW5 := Lib.hid (lt_heap HS5.out.k3)
              have HOWL := Lib.hid (fun q hq => (ownsRow_lt HS5.out.ow (b := q) hq).2)
              clear hb how8 HGA HS5 K7b
              obtain ⟨n8, hn8⟩ : ∃ n8, n8 = bs.length := ⟨_, rfl⟩
              have HN8 := Lib.hid hn8
              rw [← hn8] at HO8 HGS
              have hn80 : (0 : Int) ≤ (n8 : Int) := by omega
              clear hn8
              by_cases hod : n8 ≤ 12 ∨ 1526 < n8
              · have HOD := Lib.hid (show (gath m' l).length ≤ 12 ∨ 1526 < (gath m' l).length by rw [← HBS.out, ← HN8.out]; exact hod)
                obtain ⟨av8, cv8, rfl⟩ := ownsRow_form HO8.out
                by_cases hsm : n8 ≤ 12
                · have hsmI : (n8 : Int) < 13 := by omega
                  clear hod hsm
                  have HRP := Lib.hid (NS.range_p HS6.out.k0)
                  have HFA : Hid (∀ W, Calls Tryd.prog 51 #[.agg s'.p.c.toList.toArray] W fun e w' => e = .returned (.agg s'.p.fail.c) ∧ Below W.heap.size W w') := Lib.hid (fun W => by rw [Array.toArray_toList]; exact ref14_Fail s'.p HWF.out.hst HWF.out.hirq W)
                  go_wp2_with (first | go_skip | (refine load_midW rfl 57 _ rfl (w.heap.size) 0 rfl s'.p.c.toList _ HRP.out Tryd.underlying57 rfl (vio14_sizeL _) ?_))
                  refine (HFA.out _).mono ?_
                  rintro e w11 ⟨rfl, hb⟩
                  have HS11 := Lib.hid (HS6.out.below hb)
                  clear hb HRP HFA HS6
                  go_wp2_with (first | go_skip | (refine wpList_store_mid_to rfl 57 _ _ rfl (w.heap.size) 0 s'.p.fail.c rfl rfl 59 s'.c HS11.out.k0 (by show 0 + 21 ≤ 23; omega) (vio14_size _) (VS.c_one _) ?_))
                  intro w12 hx hk
                  rw [put_p] at hk
                  have HS12 := Lib.hid (HS11.out.setS hx.out hk)
                  clear hx hk HS11
                  have HRES := Lib.hid (show (({ s' with p := s'.p.fail } : NS), m', acc) = R by rw [← HRR.out, HKK.out]; exact (sendF_odd _ _ _ _ HX.out HXW.out HOD.out).symm)
                  have HSO := Lib.hid (NS.c_one ({ s' with p := s'.p.fail }))
                  have HCS := Lib.hid (ram06_size HS12.out.c3)
                  go_upto_region 15 with fail
                  refine wp_region_held_drew (S := KX (fun k => k = w.heap.size + 1 + 1 ∨ k = w.heap.size + 1 + 1 + 1) w12) (by kernel_rfl) ((KX.refl (fun k => k = w.heap.size + 1 + 1 ∨ k = w.heap.size + 1 + 1 + 1) w12).drew) (fun hHeld => ?_)
                  refine wpAnyH_take (i := 0) rfl (by kernel_rfl) (by kernel_rfl) (by kernel_rfl) (fun _ _ _ h => h) (yieldsIf_load_mid (by rfl) 59 _ rfl (w.heap.size) 0 rfl ({ s' with p := s'.p.fail } : NS).c.toList _ (fun W hSw => range_of_all (hSw.heap HS12.out.k0 (by omega))) Tryd.underlying59 rfl ?hi0z4) (by assumption) ?rest0z4
                  case hi0z4 => exact nic16_size _
                  simp only [Act.put, List.getElem_toArray, List.getElem_cons_zero, List.setIfInBounds_toArray, List.set_cons_zero, List.set_cons_succ]
                  refine wpAnyH_take (i := 1) rfl (by kernel_rfl) (by kernel_rfl) (by kernel_rfl) (fun _ _ _ h => h) (yieldsIf_load_mid (by rfl) 65 _ rfl (w.heap.size + 1) 0 rfl (rc').toList _ (fun W hSw => range_of_all (hSw.heap HS12.out.k1 (by omega))) Tryd.underlying65 rfl ?hi1z4) (by assumption) ?rest1z4
                  case hi1z4 => exact HCS.out
                  simp only [Act.put, List.getElem_toArray, List.getElem_cons_zero, List.getElem_cons_succ, List.setIfInBounds_toArray, List.set_cons_zero, List.set_cons_succ]
                  refine wpAnyH_take (i := 2) (v := ?v2z4) rfl (by kernel_rfl) (by kernel_rfl) (by kernel_rfl) (fun _ _ _ h => h) (Or.inl ⟨by rfl, ?hy2z4⟩) (by assumption) ?rest2z4
                  case hy2z4 => (intro W hSw; go_simp; first | done | with_reducible rfl)
                  simp only [Act.put, List.getElem_toArray, List.getElem_cons_zero, List.getElem_cons_succ, List.setIfInBounds_toArray, List.set_cons_zero, List.set_cons_succ]
                  refine wpAnyH_two_stores (i := 3) (j := 4) (w.heap.size + 1 + 1) (w.heap.size + 1 + 1 + 1) ({ s' with p := s'.p.fail } : NS).c (rc') NS.zero.c #[(.slice none 0 0 : Value), .slice none 0 0, .int .i64 0] 59 65 rfl rfl (by kernel_rfl) (by kernel_rfl) rfl rfl rfl rfl 59 65 _ _ _ _ rfl rfl rfl rfl rfl rfl HS12.out.k2 HS12.out.k3 (nic16_size _) HCS.out rfl (by rw [HS12.out.c3]; rfl) HSO.out HS12.out.co (by omega) hHeld ?_
                  intro wz hx hk1 hk2
                  clear hHeld
                  try simp only [List.setIfInBounds_toArray, List.set_cons_zero, List.set_cons_succ]
                  refine wpAnyH_take (i := 5) (v := ?v5z4) rfl (by kernel_rfl) (by kernel_rfl) (by kernel_rfl) (fun _ _ _ h => h) (Or.inl ⟨by rfl, ?hy5z4⟩) (by assumption) ?rest5z4
                  case hy5z4 => (intro W hSw; go_simp; first | done | with_reducible rfl)
                  simp only [Act.put, List.getElem_toArray, List.getElem_cons_zero, List.getElem_cons_succ, List.setIfInBounds_toArray, List.set_cons_zero, List.set_cons_succ]
                  refine wpAnyH_done (by kernel_rfl) ?_ _
                  have HFN := Lib.hid (HS12.out.fin hx)
                  have HZ1 := Lib.hid hk1
                  have HZ2 := Lib.hid hk2
                  clear hx hk1 hk2
                  go_wp2_with fail
                  exact bodyPost_ret (v := .tuple #[.agg ({ s' with p := s'.p.fail } : NS).c, .agg (rc'), .slice av (vs.length) cv]) (results_2cell_tmp Tryd.results20 _ _ (w.heap.size + 1 + 1) (w.heap.size + 1 + 1 + 1) 59 65 ({ s' with p := s'.p.fail } : NS).c (rc') (0, 0) (0, 0) _ _ rfl rfl HZ1.out HZ2.out Tryd.underlying59 rfl (nic16_size _) Tryd.underlying65 rfl HCS.out) rfl (by rw [← HRES.out]; exact HFN.out)
                · have hbgI : (1526 : Int) < (n8 : Int) := by omega
                  have hsmI : ¬ (n8 : Int) < 13 := by omega
                  clear hod hsm
                  have HRP := Lib.hid (NS.range_p HS6.out.k0)
                  have HFA : Hid (∀ W, Calls Tryd.prog 51 #[.agg s'.p.c.toList.toArray] W fun e w' => e = .returned (.agg s'.p.fail.c) ∧ Below W.heap.size W w') := Lib.hid (fun W => by rw [Array.toArray_toList]; exact ref14_Fail s'.p HWF.out.hst HWF.out.hirq W)
                  go_wp2_with (first | go_skip | (refine load_midW rfl 57 _ rfl (w.heap.size) 0 rfl s'.p.c.toList _ HRP.out Tryd.underlying57 rfl (vio14_sizeL _) ?_))
                  refine (HFA.out _).mono ?_
                  rintro e w11 ⟨rfl, hb⟩
                  have HS11 := Lib.hid (HS6.out.below hb)
                  clear hb HRP HFA HS6
                  go_wp2_with (first | go_skip | (refine wpList_store_mid_to rfl 57 _ _ rfl (w.heap.size) 0 s'.p.fail.c rfl rfl 59 s'.c HS11.out.k0 (by show 0 + 21 ≤ 23; omega) (vio14_size _) (VS.c_one _) ?_))
                  intro w12 hx hk
                  rw [put_p] at hk
                  have HS12 := Lib.hid (HS11.out.setS hx.out hk)
                  clear hx hk HS11
                  have HRES := Lib.hid (show (({ s' with p := s'.p.fail } : NS), m', acc) = R by rw [← HRR.out, HKK.out]; exact (sendF_odd _ _ _ _ HX.out HXW.out HOD.out).symm)
                  have HSO := Lib.hid (NS.c_one ({ s' with p := s'.p.fail }))
                  have HCS := Lib.hid (ram06_size HS12.out.c3)
                  go_upto_region 15 with fail
                  refine wp_region_held_drew (S := KX (fun k => k = w.heap.size + 1 + 1 ∨ k = w.heap.size + 1 + 1 + 1) w12) (by kernel_rfl) ((KX.refl (fun k => k = w.heap.size + 1 + 1 ∨ k = w.heap.size + 1 + 1 + 1) w12).drew) (fun hHeld => ?_)
                  refine wpAnyH_take (i := 0) rfl (by kernel_rfl) (by kernel_rfl) (by kernel_rfl) (fun _ _ _ h => h) (yieldsIf_load_mid (by rfl) 59 _ rfl (w.heap.size) 0 rfl ({ s' with p := s'.p.fail } : NS).c.toList _ (fun W hSw => range_of_all (hSw.heap HS12.out.k0 (by omega))) Tryd.underlying59 rfl ?hi0z5) (by assumption) ?rest0z5
                  case hi0z5 => exact nic16_size _
                  simp only [Act.put, List.getElem_toArray, List.getElem_cons_zero, List.setIfInBounds_toArray, List.set_cons_zero, List.set_cons_succ]
                  refine wpAnyH_take (i := 1) rfl (by kernel_rfl) (by kernel_rfl) (by kernel_rfl) (fun _ _ _ h => h) (yieldsIf_load_mid (by rfl) 65 _ rfl (w.heap.size + 1) 0 rfl (rc').toList _ (fun W hSw => range_of_all (hSw.heap HS12.out.k1 (by omega))) Tryd.underlying65 rfl ?hi1z5) (by assumption) ?rest1z5
                  case hi1z5 => exact HCS.out
                  simp only [Act.put, List.getElem_toArray, List.getElem_cons_zero, List.getElem_cons_succ, List.setIfInBounds_toArray, List.set_cons_zero, List.set_cons_succ]
                  refine wpAnyH_take (i := 2) (v := ?v2z5) rfl (by kernel_rfl) (by kernel_rfl) (by kernel_rfl) (fun _ _ _ h => h) (Or.inl ⟨by rfl, ?hy2z5⟩) (by assumption) ?rest2z5
                  case hy2z5 => (intro W hSw; go_simp; first | done | with_reducible rfl)
                  simp only [Act.put, List.getElem_toArray, List.getElem_cons_zero, List.getElem_cons_succ, List.setIfInBounds_toArray, List.set_cons_zero, List.set_cons_succ]
                  refine wpAnyH_two_stores (i := 3) (j := 4) (w.heap.size + 1 + 1) (w.heap.size + 1 + 1 + 1) ({ s' with p := s'.p.fail } : NS).c (rc') NS.zero.c #[(.slice none 0 0 : Value), .slice none 0 0, .int .i64 0] 59 65 rfl rfl (by kernel_rfl) (by kernel_rfl) rfl rfl rfl rfl 59 65 _ _ _ _ rfl rfl rfl rfl rfl rfl HS12.out.k2 HS12.out.k3 (nic16_size _) HCS.out rfl (by rw [HS12.out.c3]; rfl) HSO.out HS12.out.co (by omega) hHeld ?_
                  intro wz hx hk1 hk2
                  clear hHeld
                  try simp only [List.setIfInBounds_toArray, List.set_cons_zero, List.set_cons_succ]
                  refine wpAnyH_take (i := 5) (v := ?v5z5) rfl (by kernel_rfl) (by kernel_rfl) (by kernel_rfl) (fun _ _ _ h => h) (Or.inl ⟨by rfl, ?hy5z5⟩) (by assumption) ?rest5z5
                  case hy5z5 => (intro W hSw; go_simp; first | done | with_reducible rfl)
                  simp only [Act.put, List.getElem_toArray, List.getElem_cons_zero, List.getElem_cons_succ, List.setIfInBounds_toArray, List.set_cons_zero, List.set_cons_succ]
                  refine wpAnyH_done (by kernel_rfl) ?_ _
                  have HFN := Lib.hid (HS12.out.fin hx)
                  have HZ1 := Lib.hid hk1
                  have HZ2 := Lib.hid hk2
                  clear hx hk1 hk2
                  go_wp2_with fail
                  exact bodyPost_ret (v := .tuple #[.agg ({ s' with p := s'.p.fail } : NS).c, .agg (rc'), .slice av (vs.length) cv]) (results_2cell_tmp Tryd.results20 _ _ (w.heap.size + 1 + 1) (w.heap.size + 1 + 1 + 1) 59 65 ({ s' with p := s'.p.fail } : NS).c (rc') (0, 0) (0, 0) _ _ rfl rfl HZ1.out HZ2.out Tryd.underlying59 rfl (nic16_size _) Tryd.underlying65 rfl HCS.out) rfl (by rw [← HRES.out]; exact HFN.out)
              · have HOD := Lib.hid (show ¬ ((gath m' l).length ≤ 12 ∨ 1526 < (gath m' l).length) by rw [← HBS.out, ← HN8.out]; exact hod)
                obtain ⟨gv, c8, rfl, hgv, hgl, hcap, hcel⟩ : ∃ gv c8, v8 = .slice (some ⟨gv, 0, none⟩) n8 c8 ∧ w5.heap.size ≤ gv ∧ gv < w6.heap.size ∧ n8 ≤ c8 ∧ ∀ (j : Nat) (y : UInt8), bs[j]? = some y → w6.cell? ⟨gv, j, none⟩ = some (B8 y) := by
                  have h3 := HO8.out
                  rw [HN8.out] at h3
                  rcases h3.2 with ⟨rfl, he⟩ | ⟨gv, cap, cur, rfl, hg, hh, hc, _⟩
                  · have := HN8.out; omega
                  · refine ⟨gv, cap, by rw [HN8.out], hg, lt_heap hh, by rw [HN8.out]; exact hc, fun j y hj => ?_⟩
                    have hjl : j < bs.length := (List.getElem?_eq_some_iff.1 hj).1
                    rw [h3.cellAt j (by omega), List.getElem?_map, hj]
                    rfl
                have HGV := Lib.hid (And.intro hgv (And.intro hgl (And.intro hcap hcel)))
                have hlo : ¬ (n8 : Int) < 13 := by omega
                have hhi : ¬ (1526 : Int) < (n8 : Int) := by omega
                have h12a : (12 : Int) ≤ (n8 : Int) := by omega
                have h12b : (n8 : Int) ≤ (c8 : Int) := by omega
                have h12c : ¬ c8 = 12 := by omega
                clear hod hgv hgl hcap hcel
                go_upto_region 17 with (first | go_skip | (refine wpList_load_row rfl 52 _ rfl (w3.heap.size) rfl 52 (s'.p.b.rg.took : Rg).c (0, 0) _ K7c.out Tryd.underlying52 rfl (ring13_size _) ?_) | (refine wpList_store_mid_to rfl 52 _ _ rfl (w.heap.size) 15 (s'.p.b.rg.took : Rg).c rfl rfl 59 s'.c HS6.out.k0 (by show 15 + 6 ≤ 23; omega) (ring13_size _) (Rg.c_one _) ?_))
                intro w7 hx hk
                rw [put_rb] at hk
                have HS7 := Lib.hid (HS6.out.setS (s' := (s'.setR true s'.p.b.rg.took)) hx.out hk)
                have HC7 : Hid (∀ (j : Nat) (y : UInt8), bs[j]? = some y → w7.cell? ⟨gv, j, none⟩ = some (B8 y)) := Lib.hid (fun j y hj => (hx.out.cell (p := ⟨gv, j, none⟩) HGV.out.2.1 (by have := HGV.out.1; have h2 := HLOW5.out; show ¬ gv = w.heap.size; omega)).trans (HGV.out.2.2.2 j y hj))
                have HSZ7 := Lib.hid hx.out.size
                clear hx hk HS6 K7c
                obtain ⟨ii, hi1, hi2, hi3, hi4⟩ := info_bytes
                have hsel1 : (if c8 = 12 then some (⟨gv, 0, none⟩ : Addr) else some ⟨gv, 12, none⟩) = some ⟨gv, 12, none⟩ := if_neg h12c
                have HBA := Lib.hid ((Below.refl w7.heap.size w7).alloc (Nat.le_refl _) (.cells #[(.slice (some ⟨gv, 12, none⟩) (n8 - 12) (c8 - 12) : Value)] 62))
                have hnew := Lib.hid (heap_alloc_new w7 (.cells #[(.slice (some ⟨gv, 12, none⟩) (n8 - 12) (c8 - 12) : Value)] 62))
                have HS8 := Lib.hid (HS7.out.below HBA.out)
                have HSZW := Lib.hid (show w.heap.size + 4 ≤ w7.heap.size by have := lt_heap HS7.out.k3; omega)
                have hvl4 : vs.length ≤ 4 := by have := HVL.out; omega
                go_upto_region 18 with (first | go_skip | (refine wpList_append_own_at (w := w7.alloc (.cells #[(.slice (some ⟨gv, 12, none⟩) (n8 - 12) (c8 - 12) : Value)] 62)) rfl _ _ 76 rfl (w.heap.size + 4) 62 ii _ 1 24 Tryd.underlying76 hi1 hi2 hi3 hi4 rfl (by omega) (.slice av vs.length cv) vs.length vs rfl HS8.out.ow ⟨w7.heap.size, 0, none⟩ 1 1 [(.slice (some ⟨gv, 12, none⟩) (n8 - 12) (c8 - 12) : Value)] rfl rfl ?hc2 (by simp [Value.oneCell']) (by simp only [maxLen]; omega) (by omega) ?hb2 ?hK2))
                case hc2 =>
                  intro j u hu
                  match j, hu with
                  | 0, hu =>
                    obtain rfl : (.slice (some ⟨gv, 12, none⟩) (n8 - 12) (c8 - 12) : Value) = u := by simpa using hu
                    exact (cell_of_row _ _ 0 _ _ _ hnew.out).trans rfl
                  | j + 1, hu => simp at hu
                case hb2 => have := HSZW.out; simp; omega
                intro v' w8 hown hgr _ hvb
                obtain ⟨av', cv', rfl⟩ := ownsRow_form hown
                have HXL : Hid ((bs.drop 12).length = n8 - 12) := Lib.hid (by rw [List.length_drop, ← HN8.out])
                have HS9 : Hid (R16 w w8 B F (s'.setR true s'.p.b.rg.took) rc' m' (.slice av' (vs.length + 1) cv') (vs ++ [.slice (some ⟨gv, 12, none⟩) (bs.drop 12).length (c8 - 12)]) (acc ++ [bs.drop 12])) := Lib.hid (HS8.out.app (by rw [HXL.out]; have := HGV.out.2.2.1; omega) (by have h1 := HGV.out.2.1; have h2 := HSZ7.out; simp; omega) (by
                    rintro (hf | hf)
                    · have h1 := HGV.out.1; have h2 := HLOW5.out; omega
                    · have h1 := HGV.out.1; have h2 := HOWL.out gv hf; omega) (fun j y hj => by
                    rw [List.getElem?_drop] at hj
                    exact (HBA.out.cell (p := ⟨gv, 12 + j, none⟩) (Nat.lt_of_lt_of_le HGV.out.2.1 HSZ7.out)).trans (HC7.out _ _ hj)) (by rw [HXL.out]; exact hown) hgr (by simpa using hvb))
                clear hown hgr hvb hi1 hi2 hi3 hi4 HS8 HS7 hnew hsel1 h12a h12b h12c hvl4
                have HW8 := Lib.hid (show w.heap.size + 4 ≤ w8.heap.size by have := lt_heap HS9.out.k3; omega)
                have HGIV : Hid (Calls Tryd.prog 52 #[.agg (s'.setR true s'.p.b.rg.took).c, .agg rc', .int .i64 1, .int .i64 hd, .int .i64 0] w8 fun e w' => ∃ v', e = .returned (.tuple #[.agg ((s'.setR true s'.p.b.rg.took).gave true (rgive s'.p.b.rg.took m' hd 0).1).c, v']) ∧ RefF w' B v' (rgive s'.p.b.rg.took m' hd 0).2 (fun k => F k ∨ (w.heap.size ≤ k ∧ k < w.heap.size + 4) ∨ (Value.slice av' (vs.length + 1) cv').ownBlock = some k) ∧ Below w8.heap.size w8 w') := Lib.hid (ref16_give (s'.setR true s'.p.b.rg.took) true (NS.setR_wf HWF.out (Rg.took_wf (VQ.rg_wf HWF.out.hb))) hd 0 HOKP.out.1 HOKP.out.2 (by omega) HS9.out.ref (fun k hk => by
                  have h1 := HW8.out
                  rcases hk with hk | hk | hk
                  · have := HF0.out.1 k hk; omega
                  · omega
                  · exact (ownsRow_lt HS9.out.ow hk).2) (by have h1 := HW8.out; have h2 := HF0.out.2; omega))
                have HSTP := Lib.hid (send_go (R := R) kk s' m' acc HLIV.out HX.out HXW.out HOD.out (by have h := HRR.out; rw [HKK.out] at h; exact h))
                rw [← HBS.out] at HSTP
                have HGWF := Lib.hid (NS.gave_wf (ok := (rgive s'.p.b.rg.took m' hd 0).1) (one := true) (NS.setR_wf (one := true) HWF.out (Rg.took_wf (VQ.rg_wf HWF.out.hb))))
                generalize (rgive s'.p.b.rg.took m' hd 0) = rg at HGIV HSTP HGWF
                obtain ⟨ok, mg⟩ := rg
                dsimp only at HGIV HSTP HGWF
                obtain ⟨sg, hsg⟩ : ∃ sg, sg = (s'.setR true s'.p.b.rg.took).gave true ok := ⟨_, rfl⟩
                rw [← hsg] at HGIV HSTP HGWF
                clear hsg
                go_wp2_with (first | go_skip | (refine wpList_load_row rfl 59 _ rfl (w.heap.size) rfl 59 (s'.setR true s'.p.b.rg.took).c (0, 0) _ HS9.out.k0 Tryd.underlying59 rfl (nic16_size _) ?_) | (refine wpList_load_row rfl 65 _ rfl (w.heap.size + 1) rfl 65 rc' (0, 0) _ HS9.out.k1 Tryd.underlying65 rfl HCS0.out ?_))
                refine (HGIV.out).mono ?_
                rintro e w9 ⟨v9, rfl, hr9, hb⟩
                have HS10 := Lib.hid (HS9.out.below hb)
                obtain ⟨C9, rfl, h9s, h9o⟩ := hr9.form
                have HR9 := Lib.hid hr9
                have HC9 := Lib.hid (And.intro h9s h9o)
                have HSGO := Lib.hid (NS.c_one sg)
                clear hb hr9 h9s h9o HGIV HS9
                go_wp2_with (first | go_skip | (refine wpList_store_to rfl 59 _ _ rfl (w.heap.size) sg.c rfl rfl 59 (s'.setR true s'.p.b.rg.took).c HS10.out.k0 (nic16_size _) rfl HSGO.out ?_))
                intro wa hx hk
                have HS11 := Lib.hid (HS10.out.setS (s' := sg) hx.out hk)
                have HR10 := Lib.hid (HR9.out.kx hx.out (fun k e => .inl (.inr (.inl (by omega)))))
                clear hx hk HS10 HR9
                go_wp2_with (first | go_skip | (refine wpList_store_to rfl 65 _ _ rfl (w.heap.size + 1) C9 rfl rfl 65 rc' HS11.out.k1 (ram06_size HC9.out.1) (by rw [HC9.out.1]; exact HS11.out.c3) HC9.out.2 ?_))
                intro wb hx hk
                have HS12 := Lib.hid (HS11.out.setM hx.out hk HC9.out.1 HC9.out.2 HR10.out)
                clear hx hk HS11 HR10
                go_wp2_with fail
                go_roundw
                case rel => exact ⟨k + 1, sg, mg, C9, _, _, by go_num, by omega, by rw [List.length_append, HAK.out]; rfl, HGWF.out, HS12.out, by rw [show 4 - (k + 1) = kk by have := HKK.out; omega]; exact HSTP.out⟩
                case measure => simp [intOf]; omega
      · rw [decide_eq_false hlv] at HL1
        have HRR := Lib.hid (HRRa.out)
        rw [if_neg hlv] at HRR
        clear hlv HRRa
        go_wp2_with (first | go_skip | (refine load_midW rfl 57 _ rfl (w.heap.size) 0 rfl s'.p.c.toList _ HRP.out Tryd.underlying57 rfl (vio14_sizeL _) ?_))
        refine (HL1.out _).mono ?_
        rintro e wl ⟨rfl, hb⟩
        have HS := Lib.hid (HSa.out.below hb)
        clear hb HSa HRP HL1
        have HRES := Lib.hid (show (s', m', acc) = R from HRR.out)
        have HSO := Lib.hid (NS.c_one (s'))
        have HCS := Lib.hid (ram06_size HS.out.c3)
        go_upto_region 19 with fail
        refine wp_region_held_drew (S := KX (fun k => k = w.heap.size + 1 + 1 ∨ k = w.heap.size + 1 + 1 + 1) wl) (by kernel_rfl) ((KX.refl (fun k => k = w.heap.size + 1 + 1 ∨ k = w.heap.size + 1 + 1 + 1) wl).drew) (fun hHeld => ?_)
        refine wpAnyH_take (i := 0) rfl (by kernel_rfl) (by kernel_rfl) (by kernel_rfl) (fun _ _ _ h => h) (yieldsIf_load_mid (by rfl) 59 _ rfl (w.heap.size) 0 rfl (s' : NS).c.toList _ (fun W hSw => range_of_all (hSw.heap HS.out.k0 (by omega))) Tryd.underlying59 rfl ?hi0z6) (by assumption) ?rest0z6
        case hi0z6 => exact nic16_size _
        simp only [Act.put, List.getElem_toArray, List.getElem_cons_zero, List.setIfInBounds_toArray, List.set_cons_zero, List.set_cons_succ]
        refine wpAnyH_take (i := 1) rfl (by kernel_rfl) (by kernel_rfl) (by kernel_rfl) (fun _ _ _ h => h) (yieldsIf_load_mid (by rfl) 65 _ rfl (w.heap.size + 1) 0 rfl (rc').toList _ (fun W hSw => range_of_all (hSw.heap HS.out.k1 (by omega))) Tryd.underlying65 rfl ?hi1z6) (by assumption) ?rest1z6
        case hi1z6 => exact HCS.out
        simp only [Act.put, List.getElem_toArray, List.getElem_cons_zero, List.getElem_cons_succ, List.setIfInBounds_toArray, List.set_cons_zero, List.set_cons_succ]
        refine wpAnyH_take (i := 2) (v := ?v2z6) rfl (by kernel_rfl) (by kernel_rfl) (by kernel_rfl) (fun _ _ _ h => h) (Or.inl ⟨by rfl, ?hy2z6⟩) (by assumption) ?rest2z6
        case hy2z6 => (intro W hSw; go_simp; first | done | with_reducible rfl)
        simp only [Act.put, List.getElem_toArray, List.getElem_cons_zero, List.getElem_cons_succ, List.setIfInBounds_toArray, List.set_cons_zero, List.set_cons_succ]
        refine wpAnyH_two_stores (i := 3) (j := 4) (w.heap.size + 1 + 1) (w.heap.size + 1 + 1 + 1) (s' : NS).c (rc') NS.zero.c #[(.slice none 0 0 : Value), .slice none 0 0, .int .i64 0] 59 65 rfl rfl (by kernel_rfl) (by kernel_rfl) rfl rfl rfl rfl 59 65 _ _ _ _ rfl rfl rfl rfl rfl rfl HS.out.k2 HS.out.k3 (nic16_size _) HCS.out rfl (by rw [HS.out.c3]; rfl) HSO.out HS.out.co (by omega) hHeld ?_
        intro wz hx hk1 hk2
        clear hHeld
        try simp only [List.setIfInBounds_toArray, List.set_cons_zero, List.set_cons_succ]
        refine wpAnyH_take (i := 5) (v := ?v5z6) rfl (by kernel_rfl) (by kernel_rfl) (by kernel_rfl) (fun _ _ _ h => h) (Or.inl ⟨by rfl, ?hy5z6⟩) (by assumption) ?rest5z6
        case hy5z6 => (intro W hSw; go_simp; first | done | with_reducible rfl)
        simp only [Act.put, List.getElem_toArray, List.getElem_cons_zero, List.getElem_cons_succ, List.setIfInBounds_toArray, List.set_cons_zero, List.set_cons_succ]
        refine wpAnyH_done (by kernel_rfl) ?_ _
        have HFN := Lib.hid (HS.out.fin hx)
        have HZ1 := Lib.hid hk1
        have HZ2 := Lib.hid hk2
        clear hx hk1 hk2
        go_wp2_with fail
        exact bodyPost_ret (v := .tuple #[.agg (s' : NS).c, .agg (rc'), .slice av (vs.length) cv]) (results_2cell_tmp Tryd.results20 _ _ (w.heap.size + 1 + 1) (w.heap.size + 1 + 1 + 1) 59 65 (s' : NS).c (rc') (0, 0) (0, 0) _ _ rfl rfl HZ1.out HZ2.out Tryd.underlying59 rfl (nic16_size _) Tryd.underlying65 rfl HCS.out) rfl (by rw [← HRES.out]; exact HFN.out)
    · obtain rfl : k = 4 := by omega
      clear hlt hk4 HL1 HRP
      have HRES := Lib.hid (show (s', m', acc) = R by have h := HRRa.out; rw [show 4 - 4 = 0 from rfl] at h; split at h <;> exact h)
      have HSO := Lib.hid (NS.c_one (s'))
      have HCS := Lib.hid (ram06_size HSa.out.c3)
      go_upto_region 19 with fail
      refine wp_region_held_drew (S := KX (fun k => k = w.heap.size + 1 + 1 ∨ k = w.heap.size + 1 + 1 + 1) wr) (by kernel_rfl) ((KX.refl (fun k => k = w.heap.size + 1 + 1 ∨ k = w.heap.size + 1 + 1 + 1) wr).drew) (fun hHeld => ?_)
      refine wpAnyH_take (i := 0) rfl (by kernel_rfl) (by kernel_rfl) (by kernel_rfl) (fun _ _ _ h => h) (yieldsIf_load_mid (by rfl) 59 _ rfl (w.heap.size) 0 rfl (s' : NS).c.toList _ (fun W hSw => range_of_all (hSw.heap HSa.out.k0 (by omega))) Tryd.underlying59 rfl ?hi0z7) (by assumption) ?rest0z7
      case hi0z7 => exact nic16_size _
      simp only [Act.put, List.getElem_toArray, List.getElem_cons_zero, List.setIfInBounds_toArray, List.set_cons_zero, List.set_cons_succ]
      refine wpAnyH_take (i := 1) rfl (by kernel_rfl) (by kernel_rfl) (by kernel_rfl) (fun _ _ _ h => h) (yieldsIf_load_mid (by rfl) 65 _ rfl (w.heap.size + 1) 0 rfl (rc').toList _ (fun W hSw => range_of_all (hSw.heap HSa.out.k1 (by omega))) Tryd.underlying65 rfl ?hi1z7) (by assumption) ?rest1z7
      case hi1z7 => exact HCS.out
      simp only [Act.put, List.getElem_toArray, List.getElem_cons_zero, List.getElem_cons_succ, List.setIfInBounds_toArray, List.set_cons_zero, List.set_cons_succ]
      refine wpAnyH_take (i := 2) (v := ?v2z7) rfl (by kernel_rfl) (by kernel_rfl) (by kernel_rfl) (fun _ _ _ h => h) (Or.inl ⟨by rfl, ?hy2z7⟩) (by assumption) ?rest2z7
      case hy2z7 => (intro W hSw; go_simp; first | done | with_reducible rfl)
      simp only [Act.put, List.getElem_toArray, List.getElem_cons_zero, List.getElem_cons_succ, List.setIfInBounds_toArray, List.set_cons_zero, List.set_cons_succ]
      refine wpAnyH_two_stores (i := 3) (j := 4) (w.heap.size + 1 + 1) (w.heap.size + 1 + 1 + 1) (s' : NS).c (rc') NS.zero.c #[(.slice none 0 0 : Value), .slice none 0 0, .int .i64 0] 59 65 rfl rfl (by kernel_rfl) (by kernel_rfl) rfl rfl rfl rfl 59 65 _ _ _ _ rfl rfl rfl rfl rfl rfl HSa.out.k2 HSa.out.k3 (nic16_size _) HCS.out rfl (by rw [HSa.out.c3]; rfl) HSO.out HSa.out.co (by omega) hHeld ?_
      intro wz hx hk1 hk2
      clear hHeld
      try simp only [List.setIfInBounds_toArray, List.set_cons_zero, List.set_cons_succ]
      refine wpAnyH_take (i := 5) (v := ?v5z7) rfl (by kernel_rfl) (by kernel_rfl) (by kernel_rfl) (fun _ _ _ h => h) (Or.inl ⟨by rfl, ?hy5z7⟩) (by assumption) ?rest5z7
      case hy5z7 => (intro W hSw; go_simp; first | done | with_reducible rfl)
      simp only [Act.put, List.getElem_toArray, List.getElem_cons_zero, List.getElem_cons_succ, List.setIfInBounds_toArray, List.set_cons_zero, List.set_cons_succ]
      refine wpAnyH_done (by kernel_rfl) ?_ _
      have HFN := Lib.hid (HSa.out.fin hx)
      have HZ1 := Lib.hid hk1
      have HZ2 := Lib.hid hk2
      clear hx hk1 hk2
      go_wp2_with fail
      exact bodyPost_ret (v := .tuple #[.agg (s' : NS).c, .agg (rc'), .slice av (vs.length) cv]) (results_2cell_tmp Tryd.results20 _ _ (w.heap.size + 1 + 1) (w.heap.size + 1 + 1 + 1) 59 65 (s' : NS).c (rc') (0, 0) (0, 0) _ _ rfl rfl HZ1.out HZ2.out Tryd.underlying59 rfl (nic16_size _) Tryd.underlying65 rfl HCS.out) rfl (by rw [← HRES.out]; exact HFN.out)
set_option maxRecDepth 100000 in
set_option maxHeartbeats 8000000 in
theorem ref16_Send_no {B : Nat} {F : Nat → Prop} {m : Mm} {w : World} (s : NS) (hs : s.p.wf) (rc : Array Value) (hrc : rc.size = 3) (hro : rc.all (·.oneCell') = true) (hno : ¬ (s.bell = true ∧ s.works true)) (h : RefF w B (.agg rc) m F) :
    Calls Tryd.prog 20 #[.agg s.c, .agg rc] w (Send16Post w B F (s, m, [])) := by
  obtain ⟨k0, k1, k2, k3, hb0⟩ := new4 w (.cells s.c 59) (.cells rc 65) (.cells NS.zero.c 59) (.cells #[(.slice none 0 0 : Value), .slice none 0 0, .int .i64 0] 65)
  have HS0 : Hid (R16 w ((((w.alloc (.cells s.c 59)).alloc (.cells rc 65)).alloc (.cells NS.zero.c 59)).alloc (.cells #[(.slice none 0 0 : Value), .slice none 0 0, .int .i64 0] 65)) B F s rc m (.slice none 0 0) [] []) := Lib.hid ⟨hb0, k0, k1, k2, k3, hrc, hro, by
    obtain ⟨n1, n2, b1, c1, b2, c2, he, g1, g2, g3, g4, r1, r2⟩ := h
    have l1 := r1.lt
    have l2 := r2.lt
    exact ⟨n1, n2, b1, c1, b2, c2, he, g1, g2, fun hj => by rcases hj with hj | hj | hj; exact g3 hj; omega; simp [Value.ownBlock] at hj, fun hj => by rcases hj with hj | hj | hj; exact g4 hj; omega; simp [Value.ownBlock] at hj, r1.below hb0, r2.below hb0⟩, World.ownsRow_nil _ _ _ _, rfl, fun k x hk => by simp at hk⟩
  have HC21 : Hid (∀ b, s.bell = b → s.c[21]? = some (.bool b)) := Lib.hid (fun b hb => by rw [← hb]; rfl)
  have HC14 : Hid (∀ b, s.p.b.rdy = b → s.c[14]? = some (.bool b)) := Lib.hid (fun b hb => by rw [← hb]; rfl)
  have HL1 : Hid (∀ W, Calls Tryd.prog 47 #[.agg s.p.c.toList.toArray] W fun e w' => e = .returned (.bool (decide s.p.live)) ∧ Below W.heap.size W w') := Lib.hid (fun W => by rw [Array.toArray_toList]; exact ref14_Live s.p hs.hst W)
  have HRP := Lib.hid (NS.range_p k0)
  have HNO := Lib.hid hno
  clear h k1 k2 k3 hb0 hs hrc hro hno
  by_cases hbl : s.bell = true
  · have hc21 := (cell_of_row _ _ 21 _ _ _ k0).trans (HC21.out true hbl)
    by_cases hlv : s.p.live
    · have HRD := Lib.hid (HC14.out false (by cases hr : s.p.b.rdy with | false => rfl | true => exact absurd ⟨hbl, hlv, hr⟩ HNO.out))
      rw [decide_eq_true hlv] at HL1
      clear hbl hlv HC21 HC14 HNO k0
      go_enter Tryd.func20, Tryd.ntmps20
      go_upto_region 1 with fail
      change Code.wp _ _ _ _ ((((w.alloc (.cells s.c 59)).alloc (.cells rc 65)).alloc (.cells NS.zero.c 59)).alloc (.cells #[(.slice none 0 0 : Value), .slice none 0 0, .int .i64 0] 65))
      generalize ((((w.alloc (.cells s.c 59)).alloc (.cells rc 65)).alloc (.cells NS.zero.c 59)).alloc (.cells #[(.slice none 0 0 : Value), .slice none 0 0, .int .i64 0] 65)) = w1 at hc21 HRP HS0 ⊢
      go_wp2_with (first | go_skip | (refine load_midW rfl 57 _ rfl (w.heap.size) 0 rfl s.p.c.toList _ HRP.out Tryd.underlying57 rfl (vio14_sizeL _) ?_))
      refine (HL1.out _).mono ?_
      rintro e w2 ⟨rfl, hb⟩
      have HS2 := Lib.hid (HS0.out.below hb)
      clear hb HS0 hc21 HRP HL1
      have hc14 := (cell_of_row _ _ 14 _ _ _ HS2.out.k0).trans HRD.out
      clear HRD
      have HSO := Lib.hid (NS.c_one (s))
      have HCS := Lib.hid (ram06_size HS2.out.c3)
      go_upto_region 3 with fail
      refine wp_region_held_drew (S := KX (fun k => k = w.heap.size + 1 + 1 ∨ k = w.heap.size + 1 + 1 + 1) w2) (by kernel_rfl) ((KX.refl (fun k => k = w.heap.size + 1 + 1 ∨ k = w.heap.size + 1 + 1 + 1) w2).drew) (fun hHeld => ?_)
      refine wpAnyH_take (i := 0) rfl (by kernel_rfl) (by kernel_rfl) (by kernel_rfl) (fun _ _ _ h => h) (yieldsIf_load_mid (by rfl) 59 _ rfl (w.heap.size) 0 rfl (s : NS).c.toList _ (fun W hSw => range_of_all (hSw.heap HS2.out.k0 (by omega))) Tryd.underlying59 rfl ?hi0z8) (by assumption) ?rest0z8
      case hi0z8 => exact nic16_size _
      simp only [Act.put, List.getElem_toArray, List.getElem_cons_zero, List.setIfInBounds_toArray, List.set_cons_zero, List.set_cons_succ]
      refine wpAnyH_take (i := 1) rfl (by kernel_rfl) (by kernel_rfl) (by kernel_rfl) (fun _ _ _ h => h) (yieldsIf_load_mid (by rfl) 65 _ rfl (w.heap.size + 1) 0 rfl (rc).toList _ (fun W hSw => range_of_all (hSw.heap HS2.out.k1 (by omega))) Tryd.underlying65 rfl ?hi1z8) (by assumption) ?rest1z8
      case hi1z8 => exact HCS.out
      simp only [Act.put, List.getElem_toArray, List.getElem_cons_zero, List.getElem_cons_succ, List.setIfInBounds_toArray, List.set_cons_zero, List.set_cons_succ]
      refine wpAnyH_two_stores (i := 2) (j := 3) (w.heap.size + 1 + 1) (w.heap.size + 1 + 1 + 1) (s : NS).c (rc) NS.zero.c #[(.slice none 0 0 : Value), .slice none 0 0, .int .i64 0] 59 65 rfl rfl (by kernel_rfl) (by kernel_rfl) rfl rfl rfl rfl 59 65 _ _ _ _ rfl rfl rfl rfl rfl rfl HS2.out.k2 HS2.out.k3 (nic16_size _) HCS.out rfl (by rw [HS2.out.c3]; rfl) HSO.out HS2.out.co (by omega) hHeld ?_
      intro wz hx hk1 hk2
      clear hHeld
      try simp only [List.setIfInBounds_toArray, List.set_cons_zero, List.set_cons_succ]
      refine wpAnyH_take (i := 4) (v := ?v4z8) rfl (by kernel_rfl) (by kernel_rfl) (by kernel_rfl) (fun _ _ _ h => h) (Or.inl ⟨by rfl, ?hy4z8⟩) (by assumption) ?rest4z8
      case hy4z8 => (intro W hSw; go_simp; first | done | with_reducible rfl)
      simp only [Act.put, List.getElem_toArray, List.getElem_cons_zero, List.getElem_cons_succ, List.setIfInBounds_toArray, List.set_cons_zero, List.set_cons_succ]
      refine wpAnyH_done (by kernel_rfl) ?_ _
      have HFN := Lib.hid (HS2.out.fin hx)
      have HZ1 := Lib.hid hk1
      have HZ2 := Lib.hid hk2
      clear hx hk1 hk2
      go_wp2_with fail
      exact bodyPost_ret (v := .tuple #[.agg (s : NS).c, .agg (rc), .slice none (0) 0]) (results_2cell_tmp Tryd.results20 _ _ (w.heap.size + 1 + 1) (w.heap.size + 1 + 1 + 1) 59 65 (s : NS).c (rc) (0, 0) (0, 0) _ _ rfl rfl HZ1.out HZ2.out Tryd.underlying59 rfl (nic16_size _) Tryd.underlying65 rfl HCS.out) rfl HFN.out
    · rw [decide_eq_false hlv] at HL1
      clear hbl hlv HC21 HC14 HNO k0
      go_enter Tryd.func20, Tryd.ntmps20
      go_upto_region 1 with fail
      change Code.wp _ _ _ _ ((((w.alloc (.cells s.c 59)).alloc (.cells rc 65)).alloc (.cells NS.zero.c 59)).alloc (.cells #[(.slice none 0 0 : Value), .slice none 0 0, .int .i64 0] 65))
      generalize ((((w.alloc (.cells s.c 59)).alloc (.cells rc 65)).alloc (.cells NS.zero.c 59)).alloc (.cells #[(.slice none 0 0 : Value), .slice none 0 0, .int .i64 0] 65)) = w1 at hc21 HRP HS0 ⊢
      go_wp2_with (first | go_skip | (refine load_midW rfl 57 _ rfl (w.heap.size) 0 rfl s.p.c.toList _ HRP.out Tryd.underlying57 rfl (vio14_sizeL _) ?_))
      refine (HL1.out _).mono ?_
      rintro e w2 ⟨rfl, hb⟩
      have HS2 := Lib.hid (HS0.out.below hb)
      clear hb HS0 hc21 HRP HL1
      have HSO := Lib.hid (NS.c_one (s))
      have HCS := Lib.hid (ram06_size HS2.out.c3)
      go_upto_region 3 with fail
      refine wp_region_held_drew (S := KX (fun k => k = w.heap.size + 1 + 1 ∨ k = w.heap.size + 1 + 1 + 1) w2) (by kernel_rfl) ((KX.refl (fun k => k = w.heap.size + 1 + 1 ∨ k = w.heap.size + 1 + 1 + 1) w2).drew) (fun hHeld => ?_)
      refine wpAnyH_take (i := 0) rfl (by kernel_rfl) (by kernel_rfl) (by kernel_rfl) (fun _ _ _ h => h) (yieldsIf_load_mid (by rfl) 59 _ rfl (w.heap.size) 0 rfl (s : NS).c.toList _ (fun W hSw => range_of_all (hSw.heap HS2.out.k0 (by omega))) Tryd.underlying59 rfl ?hi0z9) (by assumption) ?rest0z9
      case hi0z9 => exact nic16_size _
      simp only [Act.put, List.getElem_toArray, List.getElem_cons_zero, List.setIfInBounds_toArray, List.set_cons_zero, List.set_cons_succ]
      refine wpAnyH_take (i := 1) rfl (by kernel_rfl) (by kernel_rfl) (by kernel_rfl) (fun _ _ _ h => h) (yieldsIf_load_mid (by rfl) 65 _ rfl (w.heap.size + 1) 0 rfl (rc).toList _ (fun W hSw => range_of_all (hSw.heap HS2.out.k1 (by omega))) Tryd.underlying65 rfl ?hi1z9) (by assumption) ?rest1z9
      case hi1z9 => exact HCS.out
      simp only [Act.put, List.getElem_toArray, List.getElem_cons_zero, List.getElem_cons_succ, List.setIfInBounds_toArray, List.set_cons_zero, List.set_cons_succ]
      refine wpAnyH_two_stores (i := 2) (j := 3) (w.heap.size + 1 + 1) (w.heap.size + 1 + 1 + 1) (s : NS).c (rc) NS.zero.c #[(.slice none 0 0 : Value), .slice none 0 0, .int .i64 0] 59 65 rfl rfl (by kernel_rfl) (by kernel_rfl) rfl rfl rfl rfl 59 65 _ _ _ _ rfl rfl rfl rfl rfl rfl HS2.out.k2 HS2.out.k3 (nic16_size _) HCS.out rfl (by rw [HS2.out.c3]; rfl) HSO.out HS2.out.co (by omega) hHeld ?_
      intro wz hx hk1 hk2
      clear hHeld
      try simp only [List.setIfInBounds_toArray, List.set_cons_zero, List.set_cons_succ]
      refine wpAnyH_take (i := 4) (v := ?v4z9) rfl (by kernel_rfl) (by kernel_rfl) (by kernel_rfl) (fun _ _ _ h => h) (Or.inl ⟨by rfl, ?hy4z9⟩) (by assumption) ?rest4z9
      case hy4z9 => (intro W hSw; go_simp; first | done | with_reducible rfl)
      simp only [Act.put, List.getElem_toArray, List.getElem_cons_zero, List.getElem_cons_succ, List.setIfInBounds_toArray, List.set_cons_zero, List.set_cons_succ]
      refine wpAnyH_done (by kernel_rfl) ?_ _
      have HFN := Lib.hid (HS2.out.fin hx)
      have HZ1 := Lib.hid hk1
      have HZ2 := Lib.hid hk2
      clear hx hk1 hk2
      go_wp2_with fail
      exact bodyPost_ret (v := .tuple #[.agg (s : NS).c, .agg (rc), .slice none (0) 0]) (results_2cell_tmp Tryd.results20 _ _ (w.heap.size + 1 + 1) (w.heap.size + 1 + 1 + 1) 59 65 (s : NS).c (rc) (0, 0) (0, 0) _ _ rfl rfl HZ1.out HZ2.out Tryd.underlying59 rfl (nic16_size _) Tryd.underlying65 rfl HCS.out) rfl HFN.out
  · have hc21 := (cell_of_row _ _ 21 _ _ _ k0).trans (HC21.out false (by simpa using hbl))
    clear hbl HC21 HC14 HNO k0 HL1
    go_enter Tryd.func20, Tryd.ntmps20
    go_upto_region 1 with fail
    change Code.wp _ _ _ _ ((((w.alloc (.cells s.c 59)).alloc (.cells rc 65)).alloc (.cells NS.zero.c 59)).alloc (.cells #[(.slice none 0 0 : Value), .slice none 0 0, .int .i64 0] 65))
    generalize ((((w.alloc (.cells s.c 59)).alloc (.cells rc 65)).alloc (.cells NS.zero.c 59)).alloc (.cells #[(.slice none 0 0 : Value), .slice none 0 0, .int .i64 0] 65)) = w1 at hc21 HRP HS0 ⊢
    have HSO := Lib.hid (NS.c_one (s))
    have HCS := Lib.hid (ram06_size HS0.out.c3)
    go_upto_region 3 with fail
    refine wp_region_held_drew (S := KX (fun k => k = w.heap.size + 1 + 1 ∨ k = w.heap.size + 1 + 1 + 1) w1) (by kernel_rfl) ((KX.refl (fun k => k = w.heap.size + 1 + 1 ∨ k = w.heap.size + 1 + 1 + 1) w1).drew) (fun hHeld => ?_)
    refine wpAnyH_take (i := 0) rfl (by kernel_rfl) (by kernel_rfl) (by kernel_rfl) (fun _ _ _ h => h) (yieldsIf_load_mid (by rfl) 59 _ rfl (w.heap.size) 0 rfl (s : NS).c.toList _ (fun W hSw => range_of_all (hSw.heap HS0.out.k0 (by omega))) Tryd.underlying59 rfl ?hi0z10) (by assumption) ?rest0z10
    case hi0z10 => exact nic16_size _
    simp only [Act.put, List.getElem_toArray, List.getElem_cons_zero, List.setIfInBounds_toArray, List.set_cons_zero, List.set_cons_succ]
    refine wpAnyH_take (i := 1) rfl (by kernel_rfl) (by kernel_rfl) (by kernel_rfl) (fun _ _ _ h => h) (yieldsIf_load_mid (by rfl) 65 _ rfl (w.heap.size + 1) 0 rfl (rc).toList _ (fun W hSw => range_of_all (hSw.heap HS0.out.k1 (by omega))) Tryd.underlying65 rfl ?hi1z10) (by assumption) ?rest1z10
    case hi1z10 => exact HCS.out
    simp only [Act.put, List.getElem_toArray, List.getElem_cons_zero, List.getElem_cons_succ, List.setIfInBounds_toArray, List.set_cons_zero, List.set_cons_succ]
    refine wpAnyH_two_stores (i := 2) (j := 3) (w.heap.size + 1 + 1) (w.heap.size + 1 + 1 + 1) (s : NS).c (rc) NS.zero.c #[(.slice none 0 0 : Value), .slice none 0 0, .int .i64 0] 59 65 rfl rfl (by kernel_rfl) (by kernel_rfl) rfl rfl rfl rfl 59 65 _ _ _ _ rfl rfl rfl rfl rfl rfl HS0.out.k2 HS0.out.k3 (nic16_size _) HCS.out rfl (by rw [HS0.out.c3]; rfl) HSO.out HS0.out.co (by omega) hHeld ?_
    intro wz hx hk1 hk2
    clear hHeld
    try simp only [List.setIfInBounds_toArray, List.set_cons_zero, List.set_cons_succ]
    refine wpAnyH_take (i := 4) (v := ?v4z10) rfl (by kernel_rfl) (by kernel_rfl) (by kernel_rfl) (fun _ _ _ h => h) (Or.inl ⟨by rfl, ?hy4z10⟩) (by assumption) ?rest4z10
    case hy4z10 => (intro W hSw; go_simp; first | done | with_reducible rfl)
    simp only [Act.put, List.getElem_toArray, List.getElem_cons_zero, List.getElem_cons_succ, List.setIfInBounds_toArray, List.set_cons_zero, List.set_cons_succ]
    refine wpAnyH_done (by kernel_rfl) ?_ _
    have HFN := Lib.hid (HS0.out.fin hx)
    have HZ1 := Lib.hid hk1
    have HZ2 := Lib.hid hk2
    clear hx hk1 hk2
    go_wp2_with fail
    exact bodyPost_ret (v := .tuple #[.agg (s : NS).c, .agg (rc), .slice none (0) 0]) (results_2cell_tmp Tryd.results20 _ _ (w.heap.size + 1 + 1) (w.heap.size + 1 + 1 + 1) 59 65 (s : NS).c (rc) (0, 0) (0, 0) _ _ rfl rfl HZ1.out HZ2.out Tryd.underlying59 rfl (nic16_size _) Tryd.underlying65 rfl HCS.out) rfl HFN.out
theorem ref16_Send {B : Nat} {F : Nat → Prop} {v : Value} {m : Mm} {w : World} (s : NS) (hs : s.p.wf) (h : RefF w B v m F) (hF : ∀ k, F k → k < w.heap.size) (hB : B ≤ w.heap.size) :
    Calls Tryd.prog 20 #[.agg s.c, v] w (Send16Post w B F (nsend s m)) := by
  obtain ⟨rc, rfl, hrc, hro⟩ := h.form
  by_cases hc : s.bell = true ∧ s.works true
  · rw [show nsend s m = sendF 4 s m [] from if_pos hc]
    exact ref16_Send_go s hs rc hrc hro _ rfl hc.1 hc.2 h hF hB
  · rw [show nsend s m = (s, m, []) from if_neg hc]
    exact ref16_Send_no s hs rc hrc hro hc h
end Go.Proofs.YtcmbnkmbaghkdaaDoor
