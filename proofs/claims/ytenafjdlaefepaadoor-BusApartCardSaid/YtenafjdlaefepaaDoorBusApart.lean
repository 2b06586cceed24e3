/-
pinnacelaw07.BusApart, walked: it answers true.
Condition: the package's table of regions and the variable errors.errorType read as their texts lay them.
-/
import Derived.Test.YtenafjdlaefepaaDoorBusLaws
namespace Go.Proofs.YtenafjdlaefepaaDoor
open Go.RowKit

/-- Do mx bytes from at_ lie in device d's region? -/
def insideD (size at_ mx d : Nat) : Prop := fromD d ≤ at_ ∧ at_ + mx ≤ fromD d + roomD size d
theorem apart_end (size d d' : Nat) (h1 : 1 ≤ d) (h2 : d < d') (h7 : d' ≤ 7) : fromD d + roomD size d ≤ fromD d' := by
  have c : d = 1 ∨ d = 2 ∨ d = 3 ∨ d = 4 ∨ d = 5 ∨ d = 6 := by omega
  have c' : d' = 2 ∨ d' = 3 ∨ d' = 4 ∨ d' = 5 ∨ d' = 6 ∨ d' = 7 := by omega
  rcases c with rfl | rfl | rfl | rfl | rfl | rfl <;> rcases c' with rfl | rfl | rfl | rfl | rfl | rfl <;> first | (exfalso; omega) | (simp only [fromD, roomD]; omega)
theorem inside_one (size at_ mx d d' : Nat) (hm : 1 ≤ mx) (h : insideD size at_ mx d) (h' : insideD size at_ mx d') (h1 : 1 ≤ d) (h7 : d ≤ 7) (h1' : 1 ≤ d') (h7' : d' ≤ 7) : d = d' := by
  obtain ⟨a, b⟩ := h
  obtain ⟨a', b'⟩ := h'
  by_cases hlt : d < d'
  · have := apart_end size d d' h1 hlt h7'; omega
  · by_cases hgt : d' < d
    · have := apart_end size d' d h1' hgt h7; omega
    · omega
theorem findF_in (size at_ n : Nat) : ∀ c d, 1 ≤ d → d + c ≤ 8 → (findF size at_ n c d).2.2 = 0 → 1 ≤ (findF size at_ n c d).1 ∧ (findF size at_ n c d).1 ≤ 7 ∧ insideD size at_ n (findF size at_ n c d).1 ∧ (findF size at_ n c d).2.1 = at_ - fromD (findF size at_ n c d).1
  | 0, d, _, _, h => by simp [findF] at h
  | c + 1, d, h1, h8, h => by
    by_cases hin : fromD d ≤ at_ ∧ at_ + n ≤ fromD d + roomD size d
    · by_cases hb : byD d ≠ 0 ∧ byD d ≠ n
      · simp only [findF, if_pos hin, if_pos hb] at h; omega
      · simp only [findF, if_pos hin, if_neg hb]
        exact ⟨h1, by omega, hin, trivial⟩
    · have ih := findF_in size at_ n c (d + 1) (by omega) (by omega)
      simp only [findF, if_neg hin] at h ⊢
      exact ih h
theorem findN_in (size at_ : Nat) (n : Int) (h : (findN size at_ n).2.2 = 0) : (n = 1 ∨ n = 2 ∨ n = 4) ∧ 1 ≤ (findN size at_ n).1 ∧ (findN size at_ n).1 ≤ 7 ∧ insideD size at_ n.toNat (findN size at_ n).1 ∧ (findN size at_ n).2.1 = at_ - fromD (findN size at_ n).1 := by
  by_cases hn : n = 1 ∨ n = 2 ∨ n = 4
  · refine ⟨hn, ?_⟩
    by_cases hm : at_ % n.toNat = 0
    · have e : findN size at_ n = findF size at_ n.toNat 7 1 := by unfold findN; rw [if_pos hn, if_pos hm]
      rw [e] at h ⊢
      exact findF_in size at_ n.toNat 7 1 (by omega) (by omega) h
    · have e : findN size at_ n = (0, 0, 5) := by unfold findN; rw [if_pos hn, if_neg hm]
      rw [e] at h; simp at h
  · have e : findN size at_ n = (0, 0, 21) := by unfold findN; rw [if_neg hn]
    rw [e] at h; simp at h

/-- What the count is when the devices below k were gone over. -/
def countK (size at_ mx : Nat) (small : Prop) (k c : Nat) : Prop := (c = 0 ∧ ∀ d, 1 ≤ d → d < k → ¬ (insideD size at_ mx d ∧ small)) ∨ (c = 1 ∧ ∃ d, 1 ≤ d ∧ d < k ∧ insideD size at_ mx d ∧ small)
theorem countK_in (size at_ mx : Nat) (small : Prop) (k c : Nat) (hm : 1 ≤ mx) (h1 : 1 ≤ k) (h7 : k ≤ 7) (h : countK size at_ mx small k c) (hi : insideD size at_ mx k) (hs : small) : c = 0 ∧ countK size at_ mx small (k + 1) 1 := by
  refine ⟨?_, .inr ⟨rfl, k, h1, by omega, hi, hs⟩⟩
  rcases h with ⟨e, _⟩ | ⟨_, d, d1, dk, di, _⟩
  · exact e
  · have := inside_one size at_ mx d k hm di hi d1 (by omega) h1 h7; omega
theorem countK_out (size at_ mx : Nat) (small : Prop) (k c : Nat) (h : countK size at_ mx small k c) (hi : ¬ (insideD size at_ mx k ∧ small)) : countK size at_ mx small (k + 1) c := by
  rcases h with ⟨e, a⟩ | ⟨e, d, d1, dk, di, ds⟩
  · refine .inl ⟨e, fun d d1 dk => ?_⟩
    by_cases hd : d = k
    · subst hd; exact hi
    · exact a d d1 (by omega)
  · exact .inr ⟨e, d, d1, by omega, di, ds⟩
theorem countK_le (size at_ mx : Nat) (small : Prop) (k c : Nat) (h : countK size at_ mx small k c) : c ≤ 1 := by
  rcases h with ⟨e, _⟩ | ⟨e, _⟩ <;> omega

set_option maxRecDepth 100000 in
set_option maxHeartbeats 2000000 in
theorem law_BusApart (size at_ : Nat) (n : Int) (hs : size < 4294967296) (ha : at_ < 4294967296) (hnr : -9223372036854775808 ≤ n ∧ n ≤ 9223372036854775807) (w : World) (hr : RegAt w) (he : ErrAt w) :
    Calls Tryd.prog 8 #[.int .u32 size, .int .u32 at_, .int .i64 n] w fun e w' => e = .returned (.bool true) ∧ Below w.heap.size w w' := by
  obtain ⟨hnl, hnu⟩ := hnr
  have H1 := Lib.hid (bus_Find size at_ n w hs ha hr)
  have H2 := Lib.hid (fun (d : Nat) W h => bus_Base (d : Int) size W hs h)
  have H3 := Lib.hid (fun W h1 h2 => law7_sure W h1 h2)
  have HR := Lib.hid hr
  have HE := Lib.hid he
  clear hr he
  have HIN := Lib.hid (findN_in size at_ n)
  obtain ⟨q, hq⟩ : ∃ q, q = findN size at_ n := ⟨_, rfl⟩
  rw [← hq] at H1 HIN
  clear hq
  obtain ⟨d0, x0, f0⟩ := q
  simp only [findV] at H1
  simp only at HIN
  have hcase : n ≤ 0 ∨ (1 ≤ n ∧ n ≤ 4) ∨ 4 < n := by omega
  rcases hcase with hn | ⟨hn, hn4⟩ | hn
  · have hf0 : ¬ f0 = 0 := fun h => by have := (HIN.out h).1; omega
    have hsm : n ≤ 4 := by omega
    have eV : errV f0 = .iface 116 (.int .i64 (f0 : Int)) := by unfold errV; rw [if_neg hf0]
    rw [eV] at H1
    go_enter Tryd.func8, Tryd.ntmps8
    go_wp2_with fail
    refine H1.out.mono ?_
    rintro e w' ⟨rfl, hb⟩
    have HR1 := Lib.hid (HR.out.below hb)
    have HE1 := Lib.hid (HE.out.below hb)
    clear H1
    go_wp2_with fail
    go_loopw [10, 11] (fun m i wr => ∃ (c k : Nat), 1 ≤ k ∧ k ≤ 8 ∧ m = .int .i64 c ∧ i = .int .i64 k ∧ countK size at_ 1 (n ≤ 4) k c ∧ RegAt wr ∧ ErrAt wr ∧ Below w.heap.size w wr) (fun _ i _ => 8 - (intOf i).toNat)
    case atStart => exact ⟨0, 1, by omega, by omega, rfl, rfl, .inl ⟨rfl, fun d h1 h2 => by omega⟩, HR1.out, HE1.out, hb⟩
    case round =>
      obtain ⟨c, k, hk1, hk8, rfl, rfl, hcnt, hwr, hwe, hbel⟩ := hrel
      have hcle := countK_le _ _ _ _ _ _ hcnt
      have HC := Lib.hid hcnt
      have HWR := Lib.hid hwr
      have HWE := Lib.hid hwe
      clear hcnt hwr hwe HR1 HE1
      by_cases hk : k ≤ 7
      · have hf := fromD_lt k
        have hrm := roomD_lt size k hs
        have HIK : Hid (insideD size at_ 1 k ↔ fromD k ≤ at_ ∧ at_ + 1 ≤ fromD k + roomD size k) := Lib.hid Iff.rfl
        go_wp2_with fail
        refine (H2.out k _ HWR.out).mono ?_
        rintro e w2 ⟨rfl, hb2⟩
        rw [show ((k : Int)).toNat = k from rfl]
        have HR2 := Lib.hid (HWR.out.below hb2)
        have HE2 := Lib.hid (HWE.out.below hb2)
        have HB2 := Lib.hid (hbel.trans (hb2.mono hbel.size))
        obtain ⟨f, hfe⟩ : ∃ f, f = fromD k := ⟨_, rfl⟩
        obtain ⟨r, hre⟩ : ∃ r, r = roomD size k := ⟨_, rfl⟩
        rw [← hfe] at hf HIK ⊢
        rw [← hre] at hrm HIK ⊢
        have HFE := Lib.hid hfe
        clear hfe hre hb2 H2
        by_cases h1 : f ≤ at_
        · by_cases h2 : at_ + 1 ≤ f + r
          · obtain ⟨rfl, hc1⟩ := countK_in size at_ 1 (n ≤ 4) k c (by omega) hk1 hk HC.out (HIK.out.2 ⟨h1, h2⟩) hsm
            have HC1 := Lib.hid hc1
            clear hc1 HC
            go_wp2_with fail
            go_roundw
            case rel => exact ⟨1, k + 1, by omega, by omega, by go_num, by go_num, HC1.out, HR2.out, HE2.out, HB2.out⟩
            case measure => simp [intOf]; omega
          · have HC1 := Lib.hid (countK_out size at_ 1 (n ≤ 4) k c HC.out (fun h => h2 (HIK.out.1 h.1).2))
            go_wp2_with fail
            go_roundw
            case rel => exact ⟨c, k + 1, by omega, by omega, rfl, by go_num, HC1.out, HR2.out, HE2.out, HB2.out⟩
            case measure => simp [intOf]; omega
        · have HC1 := Lib.hid (countK_out size at_ 1 (n ≤ 4) k c HC.out (fun h => h1 (HIK.out.1 h.1).1))
          go_wp2_with fail
          go_roundw
          case rel => exact ⟨c, k + 1, by omega, by omega, rfl, by go_num, HC1.out, HR2.out, HE2.out, HB2.out⟩
          case measure => simp [intOf]; omega
      · obtain rfl : k = 8 := by omega
        clear HC H2
        go_wp2_with fail
        refine (H3.out _ HWR.out HWE.out).mono ?_
        rintro e w5 ⟨rfl, hb5⟩
        go_wp2_with fail
        go_ret
        exact ⟨rfl, hbel.trans (hb5.mono hbel.size)⟩
  · obtain ⟨mx, rfl⟩ : ∃ mx : Nat, n = (mx : Int) := ⟨n.toNat, by omega⟩
    have hsm : (mx : Int) ≤ 4 := by omega
    have hm1 : 1 ≤ mx := by omega
    rw [show ((mx : Int)).toNat = mx from rfl] at HIN
    by_cases hf0 : f0 = 0
    · subst hf0
      have eV : errV 0 = .nilIface := rfl
      rw [eV] at H1
      go_enter Tryd.func8, Tryd.ntmps8
      go_wp2_with fail
      refine H1.out.mono ?_
      rintro e w' ⟨rfl, hb⟩
      have HR1 := Lib.hid (HR.out.below hb)
      have HE1 := Lib.hid (HE.out.below hb)
      clear H1
      go_wp2_with fail
      go_loopw [10, 11] (fun m i wr => ∃ (c k : Nat), 1 ≤ k ∧ k ≤ 8 ∧ m = .int .i64 c ∧ i = .int .i64 k ∧ countK size at_ mx ((mx : Int) ≤ 4) k c ∧ RegAt wr ∧ ErrAt wr ∧ Below w.heap.size w wr) (fun _ i _ => 8 - (intOf i).toNat)
      case atStart => exact ⟨0, 1, by omega, by omega, rfl, rfl, .inl ⟨rfl, fun d h1 h2 => by omega⟩, HR1.out, HE1.out, hb⟩
      case round =>
        obtain ⟨c, k, hk1, hk8, rfl, rfl, hcnt, hwr, hwe, hbel⟩ := hrel
        have hcle := countK_le _ _ _ _ _ _ hcnt
        have HC := Lib.hid hcnt
        have HWR := Lib.hid hwr
        have HWE := Lib.hid hwe
        clear hcnt hwr hwe HR1 HE1
        by_cases hk : k ≤ 7
        · have hf := fromD_lt k
          have hrm := roomD_lt size k hs
          have HIK : Hid (insideD size at_ mx k ↔ fromD k ≤ at_ ∧ at_ + mx ≤ fromD k + roomD size k) := Lib.hid Iff.rfl
          go_wp2_with fail
          refine (H2.out k _ HWR.out).mono ?_
          rintro e w2 ⟨rfl, hb2⟩
          rw [show ((k : Int)).toNat = k from rfl]
          have HR2 := Lib.hid (HWR.out.below hb2)
          have HE2 := Lib.hid (HWE.out.below hb2)
          have HB2 := Lib.hid (hbel.trans (hb2.mono hbel.size))
          obtain ⟨f, hfe⟩ : ∃ f, f = fromD k := ⟨_, rfl⟩
          obtain ⟨r, hre⟩ : ∃ r, r = roomD size k := ⟨_, rfl⟩
          rw [← hfe] at hf HIK ⊢
          rw [← hre] at hrm HIK ⊢
          have HFE := Lib.hid hfe
          clear hfe hre hb2 H2
          by_cases h1 : f ≤ at_
          · by_cases h2 : at_ + mx ≤ f + r
            · obtain ⟨rfl, hc1⟩ := countK_in size at_ mx ((mx : Int) ≤ 4) k c (by omega) hk1 hk HC.out (HIK.out.2 ⟨h1, h2⟩) hsm
              have HC1 := Lib.hid hc1
              clear hc1 HC
              obtain ⟨g0, g1, g7, gi, gx⟩ := HIN.out trivial
              obtain rfl : d0 = k := inside_one size at_ mx d0 k (by omega) gi (HIK.out.2 ⟨h1, h2⟩) g1 g7 hk1 hk
              obtain rfl : x0 = at_ - f := by rw [gx, HFE.out]
              have ex : ((at_ : Int) - (f : Int)) % 4294967296 = ((at_ - f : Nat) : Int) := by omega
              have ex2 : (((at_ - f : Nat) : Int) != ((at_ - f : Nat) : Int)) = false := by simp
              clear g0 gi gx HFE HIK
              go_wp2_with fail
              go_roundw
              case rel => exact ⟨1, d0 + 1, by omega, by omega, by go_num, by go_num, HC1.out, HR2.out, HE2.out, HB2.out⟩
              case measure => simp [intOf]; omega
            · have HC1 := Lib.hid (countK_out size at_ mx ((mx : Int) ≤ 4) k c HC.out (fun h => h2 (HIK.out.1 h.1).2))
              go_wp2_with fail
              go_roundw
              case rel => exact ⟨c, k + 1, by omega, by omega, rfl, by go_num, HC1.out, HR2.out, HE2.out, HB2.out⟩
              case measure => simp [intOf]; omega
          · have HC1 := Lib.hid (countK_out size at_ mx ((mx : Int) ≤ 4) k c HC.out (fun h => h1 (HIK.out.1 h.1).1))
            go_wp2_with fail
            go_roundw
            case rel => exact ⟨c, k + 1, by omega, by omega, rfl, by go_num, HC1.out, HR2.out, HE2.out, HB2.out⟩
            case measure => simp [intOf]; omega
        · obtain rfl : k = 8 := by omega
          have hc1 : c = 1 := by
            rcases HC.out with ⟨_, no⟩ | ⟨e, _⟩
            · obtain ⟨g0, g1, g7, gi, _⟩ := HIN.out trivial
              exact absurd ⟨gi, hsm⟩ (no d0 g1 (by omega))
            · exact e
          subst hc1
          clear HC H2
          go_wp2_with fail
          refine (H3.out _ HWR.out HWE.out).mono ?_
          rintro e w5 ⟨rfl, hb5⟩
          go_wp2_with fail
          go_ret
          exact ⟨rfl, hbel.trans (hb5.mono hbel.size)⟩
    · have eV : errV f0 = .iface 116 (.int .i64 (f0 : Int)) := by unfold errV; rw [if_neg hf0]
      rw [eV] at H1
      go_enter Tryd.func8, Tryd.ntmps8
      go_wp2_with fail
      refine H1.out.mono ?_
      rintro e w' ⟨rfl, hb⟩
      have HR1 := Lib.hid (HR.out.below hb)
      have HE1 := Lib.hid (HE.out.below hb)
      clear H1
      go_wp2_with fail
      go_loopw [10, 11] (fun m i wr => ∃ (c k : Nat), 1 ≤ k ∧ k ≤ 8 ∧ m = .int .i64 c ∧ i = .int .i64 k ∧ countK size at_ mx ((mx : Int) ≤ 4) k c ∧ RegAt wr ∧ ErrAt wr ∧ Below w.heap.size w wr) (fun _ i _ => 8 - (intOf i).toNat)
      case atStart => exact ⟨0, 1, by omega, by omega, rfl, rfl, .inl ⟨rfl, fun d h1 h2 => by omega⟩, HR1.out, HE1.out, hb⟩
      case round =>
        obtain ⟨c, k, hk1, hk8, rfl, rfl, hcnt, hwr, hwe, hbel⟩ := hrel
        have hcle := countK_le _ _ _ _ _ _ hcnt
        have HC := Lib.hid hcnt
        have HWR := Lib.hid hwr
        have HWE := Lib.hid hwe
        clear hcnt hwr hwe HR1 HE1
        by_cases hk : k ≤ 7
        · have hf := fromD_lt k
          have hrm := roomD_lt size k hs
          have HIK : Hid (insideD size at_ mx k ↔ fromD k ≤ at_ ∧ at_ + mx ≤ fromD k + roomD size k) := Lib.hid Iff.rfl
          go_wp2_with fail
          refine (H2.out k _ HWR.out).mono ?_
          rintro e w2 ⟨rfl, hb2⟩
          rw [show ((k : Int)).toNat = k from rfl]
          have HR2 := Lib.hid (HWR.out.below hb2)
          have HE2 := Lib.hid (HWE.out.below hb2)
          have HB2 := Lib.hid (hbel.trans (hb2.mono hbel.size))
          obtain ⟨f, hfe⟩ : ∃ f, f = fromD k := ⟨_, rfl⟩
          obtain ⟨r, hre⟩ : ∃ r, r = roomD size k := ⟨_, rfl⟩
          rw [← hfe] at hf HIK ⊢
          rw [← hre] at hrm HIK ⊢
          have HFE := Lib.hid hfe
          clear hfe hre hb2 H2
          by_cases h1 : f ≤ at_
          · by_cases h2 : at_ + mx ≤ f + r
            · obtain ⟨rfl, hc1⟩ := countK_in size at_ mx ((mx : Int) ≤ 4) k c (by omega) hk1 hk HC.out (HIK.out.2 ⟨h1, h2⟩) hsm
              have HC1 := Lib.hid hc1
              clear hc1 HC
              go_wp2_with fail
              go_roundw
              case rel => exact ⟨1, k + 1, by omega, by omega, by go_num, by go_num, HC1.out, HR2.out, HE2.out, HB2.out⟩
              case measure => simp [intOf]; omega
            · have HC1 := Lib.hid (countK_out size at_ mx ((mx : Int) ≤ 4) k c HC.out (fun h => h2 (HIK.out.1 h.1).2))
              go_wp2_with fail
              go_roundw
              case rel => exact ⟨c, k + 1, by omega, by omega, rfl, by go_num, HC1.out, HR2.out, HE2.out, HB2.out⟩
              case measure => simp [intOf]; omega
          · have HC1 := Lib.hid (countK_out size at_ mx ((mx : Int) ≤ 4) k c HC.out (fun h => h1 (HIK.out.1 h.1).1))
            go_wp2_with fail
            go_roundw
            case rel => exact ⟨c, k + 1, by omega, by omega, rfl, by go_num, HC1.out, HR2.out, HE2.out, HB2.out⟩
            case measure => simp [intOf]; omega
        · obtain rfl : k = 8 := by omega
          clear HC H2
          go_wp2_with fail
          refine (H3.out _ HWR.out HWE.out).mono ?_
          rintro e w5 ⟨rfl, hb5⟩
          go_wp2_with fail
          go_ret
          exact ⟨rfl, hbel.trans (hb5.mono hbel.size)⟩
  · obtain ⟨mx, rfl⟩ : ∃ mx : Nat, n = (mx : Int) := ⟨n.toNat, by omega⟩
    have hf0 : ¬ f0 = 0 := fun h => by have := (HIN.out h).1; omega
    have hm1 : 4 < mx := by omega
    have eV : errV f0 = .iface 116 (.int .i64 (f0 : Int)) := by unfold errV; rw [if_neg hf0]
    rw [eV] at H1
    go_enter Tryd.func8, Tryd.ntmps8
    go_wp2_with fail
    refine H1.out.mono ?_
    rintro e w' ⟨rfl, hb⟩
    have HR1 := Lib.hid (HR.out.below hb)
    have HE1 := Lib.hid (HE.out.below hb)
    clear H1
    go_wp2_with fail
    go_loopw [10, 11] (fun m i wr => ∃ (c k : Nat), 1 ≤ k ∧ k ≤ 8 ∧ m = .int .i64 c ∧ i = .int .i64 k ∧ countK size at_ mx ((mx : Int) ≤ 4) k c ∧ RegAt wr ∧ ErrAt wr ∧ Below w.heap.size w wr) (fun _ i _ => 8 - (intOf i).toNat)
    case atStart => exact ⟨0, 1, by omega, by omega, rfl, rfl, .inl ⟨rfl, fun d h1 h2 => by omega⟩, HR1.out, HE1.out, hb⟩
    case round =>
      obtain ⟨c, k, hk1, hk8, rfl, rfl, hcnt, hwr, hwe, hbel⟩ := hrel
      have hcle := countK_le _ _ _ _ _ _ hcnt
      have HC := Lib.hid hcnt
      have HWR := Lib.hid hwr
      have HWE := Lib.hid hwe
      clear hcnt hwr hwe HR1 HE1
      by_cases hk : k ≤ 7
      · have hf := fromD_lt k
        have hrm := roomD_lt size k hs
        have HIK : Hid (insideD size at_ mx k ↔ fromD k ≤ at_ ∧ at_ + mx ≤ fromD k + roomD size k) := Lib.hid Iff.rfl
        go_wp2_with fail
        refine (H2.out k _ HWR.out).mono ?_
        rintro e w2 ⟨rfl, hb2⟩
        rw [show ((k : Int)).toNat = k from rfl]
        have HR2 := Lib.hid (HWR.out.below hb2)
        have HE2 := Lib.hid (HWE.out.below hb2)
        have HB2 := Lib.hid (hbel.trans (hb2.mono hbel.size))
        obtain ⟨f, hfe⟩ : ∃ f, f = fromD k := ⟨_, rfl⟩
        obtain ⟨r, hre⟩ : ∃ r, r = roomD size k := ⟨_, rfl⟩
        rw [← hfe] at hf HIK ⊢
        rw [← hre] at hrm HIK ⊢
        have HFE := Lib.hid hfe
        clear hfe hre hb2 H2
        by_cases h1 : f ≤ at_
        · by_cases h2 : at_ + mx ≤ f + r
          · have HC1 := Lib.hid (countK_out size at_ mx ((mx : Int) ≤ 4) k c HC.out (fun h => by have := h.2; omega))
            go_wp2_with fail
            go_roundw
            case rel => exact ⟨c, k + 1, by omega, by omega, rfl, by go_num, HC1.out, HR2.out, HE2.out, HB2.out⟩
            case measure => simp [intOf]; omega
          · have HC1 := Lib.hid (countK_out size at_ mx ((mx : Int) ≤ 4) k c HC.out (fun h => h2 (HIK.out.1 h.1).2))
            go_wp2_with fail
            go_roundw
            case rel => exact ⟨c, k + 1, by omega, by omega, rfl, by go_num, HC1.out, HR2.out, HE2.out, HB2.out⟩
            case measure => simp [intOf]; omega
        · have HC1 := Lib.hid (countK_out size at_ mx ((mx : Int) ≤ 4) k c HC.out (fun h => h1 (HIK.out.1 h.1).1))
          go_wp2_with fail
          go_roundw
          case rel => exact ⟨c, k + 1, by omega, by omega, rfl, by go_num, HC1.out, HR2.out, HE2.out, HB2.out⟩
          case measure => simp [intOf]; omega
      · obtain rfl : k = 8 := by omega
        clear HC H2
        go_wp2_with fail
        refine (H3.out _ HWR.out HWE.out).mono ?_
        rintro e w5 ⟨rfl, hb5⟩
        go_wp2_with fail
        go_ret
        exact ⟨rfl, hbel.trans (hb5.mono hbel.size)⟩
end Go.Proofs.YtenafjdlaefepaaDoor
