/-
pinnacelaw13.RingBack, walked: it answers true.
Condition: the table of regions of package bus, and the handle of error, read as their texts lay them.
-/
import Derived.Test.YtcbjlpkkebcmjaaDoorSure13
import Derived.Test.YtcbjlpkkebcmjaaDoorRingScat
import Derived.Test.YtcbjlpkkebcmjaaDoorNum13
import Derived.Test.YtcbjlpkkebcmjaaDoorG4


namespace Go.Proofs.YtcbjlpkkebcmjaaDoor
open Go.RowKit
set_option linter.unusedVariables false

theorem BytesLie.at_ {w W : World} {ao : Option Addr} {l : List UInt8} {g : Nat} {m : Mm} {F : Nat → Prop} (h : BytesLie w ao l) (hl : LawMem w W g m F) : BytesAt W ao l F := fun hne => by
  obtain ⟨b, o, h1, h2, h3⟩ := h hne
  exact ⟨b, o, h1, Nat.lt_of_lt_of_le h2 hl.fr.size, fun hf => absurd (hl.lo b hf) (Nat.not_le_of_lt h2), fun j x hj => h3 W hl.fr j x hj⟩
/-- The sizes that the law lays. -/
def backN (K : Nat → Int) (k : Nat) : Nat := (K k % 18446744073709551616 % 300).toNat
theorem backN_lt (K : Nat → Int) (k : Nat) : backN K k < 300 := by unfold backN; omega
def backL (K : Nat → Int) : Nat → List Nat
  | 0 => []
  | k + 1 => backL K k ++ [backN K k]
def backA (K : Nat → Int) (k : Nat) : Nat := 2147483648 + (backL K k).sum
theorem backL_length (K : Nat → Int) (k : Nat) : (backL K k).length = k := by
  induction k with
  | zero => rfl
  | succ k ih => simp [backL, ih]
theorem LawMem.grown {w0 W W' : World} {g : Nat} {m : Mm} {F : Nat → Prop} {v : Value} (h : LawMem w0 W g m F) (hg : W.grownBy W' v.ownBlock) (hv : ∀ b, v.ownBlock = some b → w0.heap.size ≤ b ∧ ¬ F b) : LawMem w0 W' g m F :=
  ⟨h.ram.grown hg (fun b hb => (hv b hb).2), h.lo, ⟨hg.os.trans h.fr.os, hg.tape.trans h.fr.tape, hg.output.trans h.fr.output, Nat.le_trans h.fr.size hg.size, fun k hk => (hg.block k (Nat.lt_of_lt_of_le hk h.fr.size) (fun e => absurd (hv k e.symm).1 (Nat.not_le_of_lt hk))).trans (h.fr.block k hk)⟩⟩
theorem roomR_wL (o : Nat) (ns : List Nat) : roomR (wL o ns) = 0 := by
  induction ns generalizing o with
  | nil => rfl
  | cons x t ih => simp only [wL, roomR, ih, if_true]
theorem backL_sum (K : Nat → Int) (k : Nat) : (backL K k).sum ≤ 300 * k := by
  induction k with
  | zero => simp [backL]
  | succ k ih => have := backN_lt K k; simp [backL]; omega
theorem backL_step (K : Nat → Int) (k : Nat) : (backL K (k + 1)).sum = (backL K k).sum + backN K k := by simp [backL]
set_option maxRecDepth 100000 in
set_option maxHeartbeats 8000000 in
theorem law_RingBack (ip bp : Option Addr) (nh hc bc : Nat) (l : List UInt8) (w : World) (HI : IntsAt w ip nh) (HB : BytesLie w bp l) (hnh : nh ≤ maxLen) (hlc : l.length ≤ bc) (hbc : bc ≤ maxLen) (hr : RegAt w) (he : ErrAt w) :
    Calls Tryd.prog 9 #[.slice ip nh hc, .slice bp l.length bc] w fun e w' => e = .returned (.bool true) ∧ Below w.heap.size w w' := by
  have HR := Lib.hid hr
  have HE := Lib.hid he
  have HBL := Lib.hid HB
  have HLC := Lib.hid hlc
  obtain ⟨K, hK⟩ := HI.fn
  have HK := Lib.hid hK
  have hnh2 : (nh : Int) ≤ 9223372036854775807 := by simp only [maxLen] at hnh; omega
  have hnh0 : (0 : Int) ≤ (nh : Int) := by omega
  have hll2 : (l.length : Int) ≤ 9223372036854775807 := by simp only [maxLen] at hbc; omega
  obtain ⟨ll, hll⟩ : ∃ ll, ll = l.length := ⟨_, rfl⟩
  have HLL := Lib.hid hll
  rw [← hll] at hll2 ⊢
  have hll0 : (0 : Int) ≤ (ll : Int) := by omega
  have HNIL := Lib.hid (both_ok none [] 0 w (fun k A B hk => by simp at hk) (by simp [maxLen]))
  clear hr HI HB hK hnh hlc hbc hll he
  have hen := err_nil_eql
  go_enter Tryd.func9, Tryd.ntmps9
  go_wp2_with fail
  refine (HNIL.out).mono ?_
  rintro e w2 ⟨g, F2, v, rfl, h1, h2⟩
  have L2 : Hid (LawMem w w2 g (Mm.new 2) F2) := Lib.hid h1
  obtain ⟨C, rfl, hCs, hC1⟩ := h2.form
  have HCS := Lib.hid (And.intro hCs hC1)
  clear h1 h2 hCs hC1 HNIL
  have K2 := Lib.hid (heap_alloc_new w2 (.cells #[.slice none 0 0, .slice none 0 0, .int .i64 0] 83))
  have L2a := Lib.hid (L2.out.below ((Below.refl w2.heap.size w2).alloc (Nat.le_refl _) (.cells #[.slice none 0 0, .slice none 0 0, .int .i64 0] 83)))
  have HX2 := Lib.hid (And.intro L2.out.fr.size (show ¬ F2 w2.heap.size from fun hf => absurd (L2.out.ram.lt _ hf) (Nat.lt_irrefl _)))
  go_wp2_with (refine wpList_store_to rfl 83 _ _ rfl w2.heap.size C rfl rfl 83 #[.slice none 0 0, .slice none 0 0, .int .i64 0] K2.out (by rw [HCS.out.1]; kernel_rfl) (by rw [HCS.out.1]; rfl) HCS.out.2 ?_)
  intro w3 hx hk
  have L3 := Lib.hid (L2a.out.own hx.out HX2.out.1 HX2.out.2)
  clear hx hk K2 L2a HX2 L2
  go_wp2_with fail
  go_loopw [7, 8, 9, 10, 11] (fun vw vr va vl vi wr => ∃ (i nr : Nat) (wv rv : Option Addr) (wc rc : Nat), i ≤ nh ∧ i ≤ 20 ∧ vi = .int .i64 i ∧ va = .int .u32 ((backA K i : Nat) : Int) ∧ vl = .int .i64 ((ll : Int) - ((backL K i).sum : Nat)) ∧ LawMem w wr g (Mm.new 2) F2 ∧ vw = .slice wv i wc ∧ vr = .slice rv nr rc ∧ wr.ownsRow w.heap.size 121 3 vw i (flatS (wL 0 (backL K i))) ∧ wr.ownsRow w.heap.size 121 3 vr nr (flatS (rL 0 ll (backL K i))) ∧ (∀ b, vw.ownBlock = some b → ¬ F2 b) ∧ (∀ b, vr.ownBlock = some b → ¬ F2 b) ∧ ∀ b, vw.ownBlock = some b → ¬ vr.ownBlock = some b) (fun _ _ _ _ vi _ => 20 - (intOf vi).toNat)
  case atStart => exact ⟨0, 0, none, none, 0, 0, by omega, by omega, rfl, rfl, by simp [backL], L3.out, rfl, rfl, World.ownsRow_nil _ _ _ _, World.ownsRow_nil _ _ _ _, fun b hb => by simp [Value.ownBlock] at hb, fun b hb => by simp [Value.ownBlock] at hb, fun b hb => by simp [Value.ownBlock] at hb⟩
  case round =>
    obtain ⟨i, nr, wv, rv, wc, rc, hin, hi20, rfl, rfl, rfl, hlm, rfl, rfl, how, hor, hfw, hfr, hne⟩ := hrel
    have HLM := Lib.hid hlm
    have HOW := Lib.hid how
    have HOR := Lib.hid hor
    have HF := Lib.hid (And.intro hfw (And.intro hfr hne))
    have HSUM := Lib.hid (backL_sum K i)
    have HLEN := Lib.hid (backL_length K i)
    have hi0 : (0 : Int) ≤ (i : Int) := by omega
    have hii20 : (i : Int) ≤ 20 := by omega
    clear hlm how hor hfw hfr hne L3
    obtain ⟨S, hS⟩ : ∃ S, S = (backL K i).sum := ⟨_, rfl⟩
    have HS := Lib.hid hS
    rw [← hS]
    have hS6 : S ≤ 6000 := by have := HSUM.out; omega
    clear hS
    have HA : Hid (backA K i = 2147483648 + S) := Lib.hid (by rw [HS.out]; rfl)
    have hA0 : 2147483648 ≤ backA K i := by rw [HA.out]; omega
    have hA1 : backA K i ≤ 2147490000 := by rw [HA.out]; omega
    generalize backA K i = A at HA hA0 hA1 ⊢
    by_cases hin2 : i < nh
    · have hinI : (i : Int) < (nh : Int) := by omega
      by_cases hi6 : i < 20
      · have hi6I : (i : Int) < 20 := by omega
        obtain ⟨bh, oh, rfl, hch⟩ := HK.out i hin2
        have ch := hch wr HLM.out.fr
        have HNL := Lib.hid (backN_lt K i)
        have hnv : wrap64 ((IntKind.u64.wrap (K i)).tmod 300) = ((backN K i : Nat) : Int) := by
          have e : IntKind.u64.wrap (K i) = K i % 18446744073709551616 := by rw [IntKind.wrap_u64]
          rw [e, Int.tmod_eq_emod_of_nonneg (by omega)]
          unfold backN wrap64
          omega
        have HSS := Lib.hid (backL_step K i)
        have HAS : Hid ((A : Int) + ((backN K i : Nat) : Int) = ((backA K (i + 1) : Nat) : Int)) := Lib.hid (by unfold backA; rw [backL_step, HA.out, HS.out]; omega)
        clear hin2 hi6 hch
        go_upto_region 11 with fail
        rw [hnv]
        have HNN := Lib.hid hnv
        clear hnv ch
        generalize hn : backN K i = n at HNL HSS HAS
        have HN := Lib.hid hn
        have hn3 : n < 300 := HNL.out
        have hn0 : (0 : Int) ≤ (n : Int) := by omega
        clear hn
        obtain ⟨ii, hi1, hi2, hi3, hi4⟩ := info_seg
        have HB1 := Lib.hid ((Below.refl wr.heap.size wr).alloc (Nat.le_refl _) (.cells #[.int .u32 A, .int .i64 n, .bool true] 121))
        have hnew := Lib.hid (heap_alloc_new wr (.cells #[.int .u32 A, .int .i64 n, .bool true] 121))
        have HOW1 := Lib.hid (ownsRow_keep HOW.out (fun q hq => HB1.out.block q (ownsRow_lt HOW.out hq).2))
        have HOR1 := Lib.hid (ownsRow_keep HOR.out (fun q hq => HB1.out.block q (ownsRow_lt HOR.out hq).2))
        have LM1 := Lib.hid (HLM.out.below HB1.out)
        have HXO := Lib.hid (show ∀ u ∈ (#[.int .u32 A, .int .i64 n, .bool true] : Array Value).toList, u.oneCell' = true by simp [Value.oneCell'])
        have HLW := Lib.hid (fun q hq => ownsRow_lt HOW.out (b := q) hq)
        have HLR := Lib.hid (fun q hq => ownsRow_lt HOR.out (b := q) hq)
        have HSZ := Lib.hid (show w.heap.size ≤ wr.heap.size from HLM.out.fr.size)
        go_upto_region 12 with (first | go_skip | (refine wpList_append_own_at (w := wr.alloc (.cells #[.int .u32 A, .int .i64 n, .bool true] 121)) rfl _ _ 97 rfl w.heap.size 121 ii _ 3 24 Tryd.underlying97 hi1 hi2 hi3 hi4 rfl (by omega) (.slice wv i wc) i (flatS (wL 0 (backL K i))) rfl HOW1.out ⟨wr.heap.size, 0, none⟩ 1 1 (#[.int .u32 A, .int .i64 n, .bool true] : Array Value).toList rfl rfl ?hc2 HXO.out (by simp only [maxLen]; omega) (by omega) ?hb2 ?hK2))
        case hb2 => have := HSZ.out; omega
        intro v' w5 hown hgr _ hvb
        obtain ⟨av', cv', rfl⟩ := ownsRow_form hown
        have HOW5 : Hid (w5.ownsRow w.heap.size 121 3 (.slice av' (i + 1) cv') (i + 1) (flatS (wL 0 (backL K (i + 1))))) := Lib.hid (by
          have h := hown
          have e : backL K (i + 1) = backL K i ++ [n] := by rw [← HN.out]; rfl
          rw [e, wL_snoc, flatS_snoc, ← HS.out, Nat.zero_add, ← HA.out]
          exact h)
        have HOR5 := Lib.hid (ownsRow_keep HOR1.out (fun q hq => hgr.block q (by have := (HLR.out q hq).2; simp; omega) (fun e => HF.out.2.2 q e.symm hq)))
        have LM5 := Lib.hid (LM1.out.grown hgr (fun b hb => ⟨(HLW.out b hb).1, HF.out.1 b hb⟩))
        have HVB : Hid (∀ b, (Value.slice av' (i + 1) cv').ownBlock = some b → ¬ F2 b ∧ ¬ (Value.slice rv nr rc).ownBlock = some b) := Lib.hid (fun b hb => by
          rcases hvb with e | e
          · exact ⟨HF.out.1 b (by rw [← e]; exact hb), HF.out.2.2 b (by rw [← e]; exact hb)⟩
          · have e3 : b = _ := Option.some.inj (hb.symm.trans e)
            refine ⟨fun hf => ?_, fun hq => ?_⟩
            · have hz := LM1.out.ram.lt b hf
              simp at hz
              omega
            · have := (HLR.out b hq).2
              omega)
        clear hown hgr hvb hi1 hi2 hi3 hi4 HOW1 HOR1 LM1 hnew HB1 HXO
        by_cases hpos : S < ll
        · have hposI : (0 : Int) < (ll : Int) - (S : Int) := by omega
          obtain ⟨jj, hj1, hj2, hj3, hj4⟩ := info_seg
          go_upto_region 13 with fail
          by_cases hm : ¬ ll < S + n
          · have hmI : ¬ (ll : Int) - (S : Int) < (n : Int) := by omega
            have HQ : Hid (((min n (ll - S) : Nat) : Int) = (n : Int)) := Lib.hid (by omega)
            have HRN : Hid (flatS (rL 0 ll (backL K (i + 1))) = flatS (rL 0 ll (backL K i)) ++ [.int .u32 A, .int .i64 (n : Int), .bool false]) := Lib.hid (by
              have e : backL K (i + 1) = backL K i ++ [n] := by rw [← HN.out]; rfl
              rw [e, rL_snoc, ← HS.out]
              unfold rOne
              rw [if_pos (by omega), Nat.zero_add, ← HA.out, flatS_snoc, ← HQ.out]
              rfl)
            have HB6 := Lib.hid ((Below.refl w5.heap.size w5).alloc (Nat.le_refl _) (.cells #[.int .u32 A, .int .i64 (n : Int), .bool false] 121))
            have hnew := Lib.hid (heap_alloc_new w5 (.cells #[.int .u32 A, .int .i64 (n : Int), .bool false] 121))
            have HOW6 := Lib.hid (ownsRow_keep HOW5.out (fun q hq => HB6.out.block q (ownsRow_lt HOW5.out hq).2))
            have HOR6 := Lib.hid (ownsRow_keep HOR5.out (fun q hq => HB6.out.block q (ownsRow_lt HOR5.out hq).2))
            have LM6 := Lib.hid (LM5.out.below HB6.out)
            have HXO := Lib.hid (show ∀ u ∈ (#[.int .u32 A, .int .i64 (n : Int), .bool false] : Array Value).toList, u.oneCell' = true by simp [Value.oneCell'])
            have HLW6 := Lib.hid (fun q hq => ownsRow_lt HOW5.out (b := q) hq)
            have HLR6 := Lib.hid (fun q hq => ownsRow_lt HOR5.out (b := q) hq)
            have HSZ6 := Lib.hid (show w.heap.size ≤ w5.heap.size from LM5.out.fr.size)
            have HNR : Hid (nr ≤ i) := Lib.hid (by
              have h1 := HOR5.out.1
              rw [flatS_length] at h1
              have h2 := rL_length (backL K i) 0 ll
              rw [HLEN.out] at h2
              omega)
            have hnr := HNR.out
            clear hm hpos
            go_upto_region 14 with (first | go_skip | (refine wpList_append_own_at (w := w5.alloc (.cells #[.int .u32 A, .int .i64 (n : Int), .bool false] 121)) rfl _ _ 97 rfl w.heap.size 121 jj _ 3 24 Tryd.underlying97 hj1 hj2 hj3 hj4 rfl (by omega) (.slice rv nr rc) nr (flatS (rL 0 ll (backL K i))) rfl HOR6.out ⟨w5.heap.size, 0, none⟩ 1 1 (#[.int .u32 A, .int .i64 (n : Int), .bool false] : Array Value).toList rfl rfl ?hcp HXO.out (by simp only [maxLen]; omega) (by omega) ?hbp ?hKp))
            case hbp => have := HSZ6.out; omega
            intro v' w7 hown hgr _ hvb
            obtain ⟨ar', cr', rfl⟩ := ownsRow_form hown
            have HOR7 : Hid (w7.ownsRow w.heap.size 121 3 (.slice ar' (nr + 1) cr') (nr + 1) (flatS (rL 0 ll (backL K (i + 1))))) := Lib.hid (by rw [HRN.out]; exact hown)
            have HOW7 := Lib.hid (ownsRow_keep HOW6.out (fun q hq => hgr.block q (by have := (HLW6.out q hq).2; simp; omega) (fun e => (HVB.out q hq).2 e.symm)))
            have LM7 := Lib.hid (LM6.out.grown hgr (fun b hb => ⟨(HLR6.out b hb).1, HF.out.2.1 b hb⟩))
            have HVR : Hid (∀ b, (Value.slice ar' (nr + 1) cr').ownBlock = some b → ¬ F2 b ∧ ¬ (Value.slice av' (i + 1) cv').ownBlock = some b) := Lib.hid (fun b hb => by
              rcases hvb with e | e
              · exact ⟨HF.out.2.1 b (by rw [← e]; exact hb), fun hq => (HVB.out b hq).2 (by rw [← e]; exact hb)⟩
              · have e3 : b = _ := Option.some.inj (hb.symm.trans e)
                refine ⟨fun hf => ?_, fun hq => ?_⟩
                · have hz := LM6.out.ram.lt b hf
                  simp at hz
                  omega
                · have := (HLW6.out b hq).2
                  omega)
            clear hown hgr hvb hj1 hj2 hj3 hj4 HOW6 HOR6 LM6 hnew HB6 HXO hnr
            go_wp2_with fail
            go_roundw
            case rel =>
              refine ⟨i + 1, nr + 1, av', ar', cv', cr', by omega, by omega, by go_num, ?_, ?_, LM7.out, rfl, rfl, HOW7.out, HOR7.out, fun b hb => (HVB.out b hb).1, fun b hb => (HVR.out b hb).1, fun b hb hq => (HVR.out b hq).2 hb⟩
              · rw [HAS.out]
              · congr 1; have := HSS.out; have := HS.out; have := HN.out; omega
            case measure => simp [intOf]; omega
          · have hmI : (ll : Int) - (S : Int) < (n : Int) := by omega
            have HQ : Hid (((min n (ll - S) : Nat) : Int) = ((ll : Int) - (S : Int))) := Lib.hid (by omega)
            have HRN : Hid (flatS (rL 0 ll (backL K (i + 1))) = flatS (rL 0 ll (backL K i)) ++ [.int .u32 A, .int .i64 ((ll : Int) - (S : Int)), .bool false]) := Lib.hid (by
              have e : backL K (i + 1) = backL K i ++ [n] := by rw [← HN.out]; rfl
              rw [e, rL_snoc, ← HS.out]
              unfold rOne
              rw [if_pos (by omega), Nat.zero_add, ← HA.out, flatS_snoc, ← HQ.out]
              rfl)
            have HB6 := Lib.hid ((Below.refl w5.heap.size w5).alloc (Nat.le_refl _) (.cells #[.int .u32 A, .int .i64 ((ll : Int) - (S : Int)), .bool false] 121))
            have hnew := Lib.hid (heap_alloc_new w5 (.cells #[.int .u32 A, .int .i64 ((ll : Int) - (S : Int)), .bool false] 121))
            have HOW6 := Lib.hid (ownsRow_keep HOW5.out (fun q hq => HB6.out.block q (ownsRow_lt HOW5.out hq).2))
            have HOR6 := Lib.hid (ownsRow_keep HOR5.out (fun q hq => HB6.out.block q (ownsRow_lt HOR5.out hq).2))
            have LM6 := Lib.hid (LM5.out.below HB6.out)
            have HXO := Lib.hid (show ∀ u ∈ (#[.int .u32 A, .int .i64 ((ll : Int) - (S : Int)), .bool false] : Array Value).toList, u.oneCell' = true by simp [Value.oneCell'])
            have HLW6 := Lib.hid (fun q hq => ownsRow_lt HOW5.out (b := q) hq)
            have HLR6 := Lib.hid (fun q hq => ownsRow_lt HOR5.out (b := q) hq)
            have HSZ6 := Lib.hid (show w.heap.size ≤ w5.heap.size from LM5.out.fr.size)
            have HNR : Hid (nr ≤ i) := Lib.hid (by
              have h1 := HOR5.out.1
              rw [flatS_length] at h1
              have h2 := rL_length (backL K i) 0 ll
              rw [HLEN.out] at h2
              omega)
            have hnr := HNR.out
            clear hm hpos
            go_upto_region 14 with (first | go_skip | (refine wpList_append_own_at (w := w5.alloc (.cells #[.int .u32 A, .int .i64 ((ll : Int) - (S : Int)), .bool false] 121)) rfl _ _ 97 rfl w.heap.size 121 jj _ 3 24 Tryd.underlying97 hj1 hj2 hj3 hj4 rfl (by omega) (.slice rv nr rc) nr (flatS (rL 0 ll (backL K i))) rfl HOR6.out ⟨w5.heap.size, 0, none⟩ 1 1 (#[.int .u32 A, .int .i64 ((ll : Int) - (S : Int)), .bool false] : Array Value).toList rfl rfl ?hcq HXO.out (by simp only [maxLen]; omega) (by omega) ?hbq ?hKq))
            case hbq => have := HSZ6.out; omega
            intro v' w7 hown hgr _ hvb
            obtain ⟨ar', cr', rfl⟩ := ownsRow_form hown
            have HOR7 : Hid (w7.ownsRow w.heap.size 121 3 (.slice ar' (nr + 1) cr') (nr + 1) (flatS (rL 0 ll (backL K (i + 1))))) := Lib.hid (by rw [HRN.out]; exact hown)
            have HOW7 := Lib.hid (ownsRow_keep HOW6.out (fun q hq => hgr.block q (by have := (HLW6.out q hq).2; simp; omega) (fun e => (HVB.out q hq).2 e.symm)))
            have LM7 := Lib.hid (LM6.out.grown hgr (fun b hb => ⟨(HLR6.out b hb).1, HF.out.2.1 b hb⟩))
            have HVR : Hid (∀ b, (Value.slice ar' (nr + 1) cr').ownBlock = some b → ¬ F2 b ∧ ¬ (Value.slice av' (i + 1) cv').ownBlock = some b) := Lib.hid (fun b hb => by
              rcases hvb with e | e
              · exact ⟨HF.out.2.1 b (by rw [← e]; exact hb), fun hq => (HVB.out b hq).2 (by rw [← e]; exact hb)⟩
              · have e3 : b = _ := Option.some.inj (hb.symm.trans e)
                refine ⟨fun hf => ?_, fun hq => ?_⟩
                · have hz := LM6.out.ram.lt b hf
                  simp at hz
                  omega
                · have := (HLW6.out b hq).2
                  omega)
            clear hown hgr hvb hj1 hj2 hj3 hj4 HOW6 HOR6 LM6 hnew HB6 HXO hnr
            go_wp2_with fail
            go_roundw
            case rel =>
              refine ⟨i + 1, nr + 1, av', ar', cv', cr', by omega, by omega, by go_num, ?_, ?_, LM7.out, rfl, rfl, HOW7.out, HOR7.out, fun b hb => (HVB.out b hb).1, fun b hb => (HVR.out b hb).1, fun b hb hq => (HVR.out b hq).2 hb⟩
              · rw [HAS.out]
              · congr 1; have := HSS.out; have := HS.out; have := HN.out; omega
            case measure => simp [intOf]; omega
        · have hposI : ¬ (0 : Int) < (ll : Int) - (S : Int) := by omega
          have HRN : Hid (rL 0 ll (backL K (i + 1)) = rL 0 ll (backL K i)) := Lib.hid (by
            have e : backL K (i + 1) = backL K i ++ [n] := by rw [← HN.out]; rfl
            rw [e, rL_snoc, ← HS.out]
            unfold rOne
            rw [if_neg (by omega), List.append_nil])
          clear hpos
          go_wp2_with fail
          go_roundw
          case rel =>
            refine ⟨i + 1, nr, av', rv, cv', rc, by omega, by omega, by go_num, ?_, ?_, LM5.out, rfl, rfl, HOW5.out, ?_, fun b hb => (HVB.out b hb).1, HF.out.2.1, fun b hb => (HVB.out b hb).2⟩
            · rw [HAS.out]
            · congr 1; have := HSS.out; have := HS.out; have := HN.out; omega
            · rw [HRN.out]; exact HOR5.out
          case measure => simp [intOf]; omega
      · have hi6I : ¬ (i : Int) < 20 := by omega
        clear hi6
        have HNI := Lib.hid (show (wL 0 (backL K i)).length = i by rw [wL_length, HLEN.out])
        obtain ⟨wv2, wc2, hwe, hwc, hwl, hws⟩ := SegsAt.of_owns HOW.out HF.out.1
        obtain ⟨rfl, rfl⟩ : wv = wv2 ∧ wc = wc2 := by simpa using hwe
        obtain ⟨rv2, rc2, hre, hrc, hrl, hrs⟩ := SegsAt.of_owns HOR.out HF.out.2.1
        obtain ⟨rfl, rfl⟩ : rv = rv2 ∧ rc = rc2 := by simpa using hre
        have HRS := Lib.hid hrs
        have HRL := Lib.hid hrl
        have HBY := Lib.hid (HBL.out.at_ HLM.out)
        have HWM := Lib.hid (show roomW (wL 0 (backL K i)) = S by rw [roomW_wL, HS.out])
        have HRM := Lib.hid (roomR_wL 0 (backL K i))
        have HOKW := Lib.hid (wL_ok (backL K i) 0 (Mm.new 2) rfl (by rw [← HS.out]; omega))
        by_cases hpos : S < ll
        · have hposI : (0 : Int) < (ll : Int) - (S : Int) := by omega
          have HSC := Lib.hid (ring_Scatter_long wv (wL 0 (backL K i)) wc bp ll bc HLM.out.ram (HLM.out.regs HR.out).1 hws HOKW.out.w (by rw [HNI.out]; omega) (by rw [HRM.out]; omega) (by rw [HWM.out]; omega) (by rw [HWM.out]; exact hpos))
          rw [HNI.out] at HSC
          clear hws hwe hre hrs hpos hwc hrc hwl hrl
          go_wp2_with fail
          refine (HSC.out).mono ?_
          rintro e w6 ⟨rfl, hb⟩
          have LM6 := Lib.hid (HLM.out.below hb)
          clear hb HSC
          have HNU := Lib.hid (num13_errno 2 w6 (HE.out.below LM6.out.fr))
          go_wp2_with fail
          refine (HNU.out).mono ?_
          rintro e w7 ⟨rfl, hb⟩
          have LM7 := Lib.hid (LM6.out.below hb)
          clear hb HNU
          have HSU := Lib.hid (sure13_ok w7 (LM7.out.regs HR.out).1)
          go_wp2_with fail
          refine (HSU.out).mono ?_
          rintro e w8 ⟨rfl, hb⟩
          have HFR := Lib.hid (LM7.out.below hb).fr
          go_wp2_with fail
          go_ret
          exact ⟨rfl, HFR.out⟩
        · have hposI : ¬ (0 : Int) < (ll : Int) - (S : Int) := by omega
          have HLS := Lib.hid (show l.length ≤ (backL K i).sum by rw [← HLL.out, ← HS.out]; omega)
          have HSC := Lib.hid (ring_Scatter_ok wv (wL 0 (backL K i)) wc bp l bc HLM.out.ram (HLM.out.regs HR.out).1 (HLM.out.regs HR.out).2 hws HOKW.out.w (by rw [HNI.out]; omega) (by rw [HRM.out]; omega) (by rw [HWM.out]; omega) HBY.out HLC.out (by rw [roomW_wL]; exact HLS.out))
          rw [HNI.out, ← HLL.out] at HSC
          clear hws hwe hre hrs hpos hwc hrc hwl hrl
          go_wp2_with fail
          refine (HSC.out).mono ?_
          rintro e w6 ⟨F6, rfl, h1, h2⟩
          have LM6 := Lib.hid (HLM.out.step h1 h2)
          have HRS6 := Lib.hid (HRS.out.step h2)
          have HM6 := Lib.hid (show (rscat (Mm.new 2) (wL 0 (backL K i)) l).n = 2 from rscat_n _ _ _)
          have HG6 : Hid (gath (rscat (Mm.new 2) (wL 0 (backL K i)) l) (rL 0 ll (backL K i)) = l) := Lib.hid (by rw [HLL.out]; exact back_law _ _ _ HLS.out)
          clear h1 h2 HSC
          generalize rscat (Mm.new 2) (wL 0 (backL K i)) l = m6 at LM6 HM6 HG6
          have HGA := Lib.hid (ring_Gather rv (rL 0 ll (backL K i)) rc LM6.out.ram (LM6.out.regs HR.out).1 (LM6.out.regs HR.out).2 HRS6.out (rL_ok (backL K i) 0 ll m6 HM6.out (by rw [← HS.out]; omega)) (by have := rL_length (backL K i) 0 ll; rw [HLEN.out] at this; omega) (by rw [HG6.out, ← HLL.out]; omega))
          rw [HG6.out, HRL.out] at HGA
          go_wp2_with fail
          refine (HGA.out).mono ?_
          rintro e w7 ⟨v8, F8, rfl, h1, h2, h3, h4⟩
          obtain ⟨ao8, c8, rfl, hc8, hl8, hba⟩ := BytesAt.of_owns h3 h4
          have LM7 := Lib.hid (LM6.out.step h1 h2)
          have hstr := str_of_bytes (cap := c8) hba
          have hstr2 := str_of_bytes (cap := bc) (HBL.out.at_ LM7.out)
          rw [← HLL.out] at hstr hstr2 ⊢
          clear h1 h2 h3 h4 hc8 hl8 hba HGA
          have HSU := Lib.hid (sure13_ok w7 (LM7.out.regs HR.out).1)
          go_wp2_with fail
          refine (HSU.out).mono ?_
          rintro e w8 ⟨rfl, hb⟩
          have HFR := Lib.hid (LM7.out.below hb).fr
          go_wp2_with fail
          go_ret
          exact ⟨rfl, HFR.out⟩
    · have hinI : ¬ (i : Int) < (nh : Int) := by omega
      clear hin2
      have HNI := Lib.hid (show (wL 0 (backL K i)).length = i by rw [wL_length, HLEN.out])
      obtain ⟨wv2, wc2, hwe, hwc, hwl, hws⟩ := SegsAt.of_owns HOW.out HF.out.1
      obtain ⟨rfl, rfl⟩ : wv = wv2 ∧ wc = wc2 := by simpa using hwe
      obtain ⟨rv2, rc2, hre, hrc, hrl, hrs⟩ := SegsAt.of_owns HOR.out HF.out.2.1
      obtain ⟨rfl, rfl⟩ : rv = rv2 ∧ rc = rc2 := by simpa using hre
      have HRS := Lib.hid hrs
      have HRL := Lib.hid hrl
      have HBY := Lib.hid (HBL.out.at_ HLM.out)
      have HWM := Lib.hid (show roomW (wL 0 (backL K i)) = S by rw [roomW_wL, HS.out])
      have HRM := Lib.hid (roomR_wL 0 (backL K i))
      have HOKW := Lib.hid (wL_ok (backL K i) 0 (Mm.new 2) rfl (by rw [← HS.out]; omega))
      by_cases hpos : S < ll
      · have hposI : (0 : Int) < (ll : Int) - (S : Int) := by omega
        have HSC := Lib.hid (ring_Scatter_long wv (wL 0 (backL K i)) wc bp ll bc HLM.out.ram (HLM.out.regs HR.out).1 hws HOKW.out.w (by rw [HNI.out]; omega) (by rw [HRM.out]; omega) (by rw [HWM.out]; omega) (by rw [HWM.out]; exact hpos))
        rw [HNI.out] at HSC
        clear hws hwe hre hrs hpos hwc hrc hwl hrl
        go_wp2_with fail
        refine (HSC.out).mono ?_
        rintro e w6 ⟨rfl, hb⟩
        have LM6 := Lib.hid (HLM.out.below hb)
        clear hb HSC
        have HNU := Lib.hid (num13_errno 2 w6 (HE.out.below LM6.out.fr))
        go_wp2_with fail
        refine (HNU.out).mono ?_
        rintro e w7 ⟨rfl, hb⟩
        have LM7 := Lib.hid (LM6.out.below hb)
        clear hb HNU
        have HSU := Lib.hid (sure13_ok w7 (LM7.out.regs HR.out).1)
        go_wp2_with fail
        refine (HSU.out).mono ?_
        rintro e w8 ⟨rfl, hb⟩
        have HFR := Lib.hid (LM7.out.below hb).fr
        go_wp2_with fail
        go_ret
        exact ⟨rfl, HFR.out⟩
      · have hposI : ¬ (0 : Int) < (ll : Int) - (S : Int) := by omega
        have HLS := Lib.hid (show l.length ≤ (backL K i).sum by rw [← HLL.out, ← HS.out]; omega)
        have HSC := Lib.hid (ring_Scatter_ok wv (wL 0 (backL K i)) wc bp l bc HLM.out.ram (HLM.out.regs HR.out).1 (HLM.out.regs HR.out).2 hws HOKW.out.w (by rw [HNI.out]; omega) (by rw [HRM.out]; omega) (by rw [HWM.out]; omega) HBY.out HLC.out (by rw [roomW_wL]; exact HLS.out))
        rw [HNI.out, ← HLL.out] at HSC
        clear hws hwe hre hrs hpos hwc hrc hwl hrl
        go_wp2_with fail
        refine (HSC.out).mono ?_
        rintro e w6 ⟨F6, rfl, h1, h2⟩
        have LM6 := Lib.hid (HLM.out.step h1 h2)
        have HRS6 := Lib.hid (HRS.out.step h2)
        have HM6 := Lib.hid (show (rscat (Mm.new 2) (wL 0 (backL K i)) l).n = 2 from rscat_n _ _ _)
        have HG6 : Hid (gath (rscat (Mm.new 2) (wL 0 (backL K i)) l) (rL 0 ll (backL K i)) = l) := Lib.hid (by rw [HLL.out]; exact back_law _ _ _ HLS.out)
        clear h1 h2 HSC
        generalize rscat (Mm.new 2) (wL 0 (backL K i)) l = m6 at LM6 HM6 HG6
        have HGA := Lib.hid (ring_Gather rv (rL 0 ll (backL K i)) rc LM6.out.ram (LM6.out.regs HR.out).1 (LM6.out.regs HR.out).2 HRS6.out (rL_ok (backL K i) 0 ll m6 HM6.out (by rw [← HS.out]; omega)) (by have := rL_length (backL K i) 0 ll; rw [HLEN.out] at this; omega) (by rw [HG6.out, ← HLL.out]; omega))
        rw [HG6.out, HRL.out] at HGA
        go_wp2_with fail
        refine (HGA.out).mono ?_
        rintro e w7 ⟨v8, F8, rfl, h1, h2, h3, h4⟩
        obtain ⟨ao8, c8, rfl, hc8, hl8, hba⟩ := BytesAt.of_owns h3 h4
        have LM7 := Lib.hid (LM6.out.step h1 h2)
        have hstr := str_of_bytes (cap := c8) hba
        have hstr2 := str_of_bytes (cap := bc) (HBL.out.at_ LM7.out)
        rw [← HLL.out] at hstr hstr2 ⊢
        clear h1 h2 h3 h4 hc8 hl8 hba HGA
        have HSU := Lib.hid (sure13_ok w7 (LM7.out.regs HR.out).1)
        go_wp2_with fail
        refine (HSU.out).mono ?_
        rintro e w8 ⟨rfl, hb⟩
        have HFR := Lib.hid (LM7.out.below hb).fr
        go_wp2_with fail
        go_ret
        exact ⟨rfl, HFR.out⟩
end Go.Proofs.YtcbjlpkkebcmjaaDoor
