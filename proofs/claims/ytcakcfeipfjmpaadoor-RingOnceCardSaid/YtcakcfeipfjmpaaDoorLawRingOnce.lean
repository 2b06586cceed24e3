/-
pinnacelaw13.RingOnce, walked: it answers true.
Condition: the table of regions of package bus reads as its text lays it.
-/
import Derived.Test.YtcakcfeipfjmpaaDoorSure13
import Derived.Test.YtcakcfeipfjmpaaDoorSure06
import Derived.Test.YtcakcfeipfjmpaaDoorOpenLens
import Derived.Test.YtcakcfeipfjmpaaDoorOpenBools
namespace Go.Proofs.YtcakcfeipfjmpaaDoor
open Go.RowKit
set_option linter.unusedVariables false

theorem IntsAt.fn {w : World} {p : Option Addr} {n : Nat} (h : IntsAt w p n) : ∃ (K : Nat → Int), ∀ k, k < n → ∃ b o, p = some ⟨b, o, none⟩ ∧ ∀ W, Below w.heap.size w W → W.cell? ⟨b, o + k, none⟩ = some (.int .i64 (K k)) := by
  have key : ∀ k, ∃ x : Int, k < n → ∃ b o, p = some ⟨b, o, none⟩ ∧ ∀ W, Below w.heap.size w W → W.cell? ⟨b, o + k, none⟩ = some (.int .i64 x) := by
    intro k
    by_cases hk : k < n
    · obtain ⟨b, o, K, hp, _, _, hc⟩ := h k hk
      exact ⟨K, fun _ => ⟨b, o, hp, hc⟩⟩
    · exact ⟨0, fun h => absurd h hk⟩
  obtain ⟨x, hx⟩ := Classical.axiomOfChoice key
  exact ⟨x, hx⟩
theorem ring_st0 (hs : Nat → Nat) : RingSt (Mm.new 2) hs 0 0 := ⟨rfl, by omega, by omega, by decide +kernel, fun j h1 h2 => absurd h2 (by omega)⟩
set_option maxRecDepth 100000 in
set_option maxHeartbeats 8000000 in
theorem law_RingOnce (hp bp : Option Addr) (nh hc nb bc : Nat) (w : World) (HI : IntsAt w hp nh) (HB : BoolsArg w bp nb) (hnh : nh ≤ maxLen) (hnb : nb ≤ maxLen) (hr : RegAt w) :
    Calls Tryd.prog 6 #[.slice hp nh hc, .slice bp nb bc] w fun e w' => e = .returned (.bool true) ∧ Below w.heap.size w w' := by
  have HR := Lib.hid hr
  obtain ⟨K, hK⟩ := HI.fn
  have HK := Lib.hid hK
  have HBO := Lib.hid HB
  have hnh2 : (nh : Int) ≤ 9223372036854775807 := by simp only [maxLen] at hnh; omega
  have hnb2 : (nb : Int) ≤ 9223372036854775807 := by simp only [maxLen] at hnb; omega
  have hnh0 : (0 : Int) ≤ (nh : Int) := by omega
  have hnb0 : (0 : Int) ≤ (nb : Int) := by omega
  obtain ⟨hs, hhs⟩ : ∃ hs : Nat → Nat, ∀ k, ((hs k % 4 : Nat) : Int) = K k % 4 := ⟨fun k => (K k % 4).toNat, fun k => by show (((K k % 4).toNat % 4 : Nat) : Int) = K k % 4; omega⟩
  have HHS := Lib.hid hhs
  have HNIL := Lib.hid (both_ok none [] 0 w (fun k A B hk => by simp at hk) (by simp [maxLen]))
  clear hr HI HB hK hnh hnb hhs
  have hen := err_nil_eql
  go_enter Tryd.func6, Tryd.ntmps6
  go_wp2_with fail
  refine (HNIL.out).mono ?_
  rintro e w2 ⟨g, F2, v, rfl, h1, h2⟩
  have L2 : Hid (LawMem w w2 g (Mm.new 2) F2) := Lib.hid h1
  obtain ⟨C, rfl, hCs, hC1⟩ := h2.form
  have HCS := Lib.hid (And.intro hCs hC1)
  clear h1 h2 hCs hC1 HNIL
  have K2 := Lib.hid (heap_alloc_new w2 (.cells #[.slice none 0 0, .slice none 0 0, .int .i64 0] 30))
  have L2a := Lib.hid (L2.out.below ((Below.refl w2.heap.size w2).alloc (Nat.le_refl _) (.cells #[.slice none 0 0, .slice none 0 0, .int .i64 0] 30)))
  have HX2 := Lib.hid (And.intro L2.out.fr.size (show ¬ F2 w2.heap.size from fun hf => absurd (L2.out.ram.lt _ hf) (Nat.lt_irrefl _)))
  go_wp2_with (refine wpList_store_to rfl 30 _ _ rfl w2.heap.size C rfl rfl 30 #[.slice none 0 0, .slice none 0 0, .int .i64 0] K2.out (by rw [HCS.out.1]; kernel_rfl) (by rw [HCS.out.1]; rfl) HCS.out.2 ?_)
  intro w3 hx hk
  have L3 := Lib.hid (L2a.out.own hx.out HX2.out.1 HX2.out.2)
  clear hx hk K2 L2a HX2 L2
  go_wp2_with fail
  refine (laid13 _).mono ?_
  rintro e w4 ⟨rfl, hb⟩
  have L4 := Lib.hid (L3.out.below hb)
  clear hb L3
  have K4 := Lib.hid (heap_alloc_new w4 (.cells #[.int .i64 0, .int .u32 0, .int .u32 0, .int .u32 0, .int .u16 0, .int .u16 0] 53))
  have L4a := Lib.hid (L4.out.below ((Below.refl w4.heap.size w4).alloc (Nat.le_refl _) (.cells #[.int .i64 0, .int .u32 0, .int .u32 0, .int .u32 0, .int .u16 0, .int .u16 0] 53)))
  have HX4 := Lib.hid (And.intro L4.out.fr.size (show ¬ F2 w4.heap.size from fun hf => absurd (L4.out.ram.lt _ hf) (Nat.lt_irrefl _)))
  go_wp2_with (refine wpList_store_to rfl 53 _ _ rfl w4.heap.size (lrow 0 0) rfl rfl 53 #[.int .i64 0, .int .u32 0, .int .u32 0, .int .u32 0, .int .u16 0, .int .u16 0] K4.out (by kernel_rfl) rfl (lrow_one _ _) ?_)
  intro w5 hx hk
  have L5 := Lib.hid (L4a.out.own hx.out HX4.out.1 HX4.out.2)
  have K5 := Lib.hid hk
  clear hx hk K4 L4a L4
  generalize w4.heap.size = b7 at K5 HX4 ⊢
  go_wp2_with fail
  go_loopw [8, 9, 10, 11] (fun vo vt vb vi wr => ∃ (o t i : Nat) (m : Mm) (F' : Nat → Prop), vo = .int .i64 o ∧ vt = .int .i64 t ∧ vb = .int .i64 t ∧ vi = .int .i64 i ∧ i ≤ 60 ∧ o ≤ i ∧ o ≤ nh ∧ RingSt m hs t o ∧ LawMem w wr g m F' ∧ ¬ F' b7 ∧ wr.heap[b7]? = some (.cells (lrow t t) 53 (0, 0))) (fun _ _ _ vi _ => 60 - (intOf vi).toNat)
  case atStart => exact ⟨0, 0, 0, _, F2, rfl, rfl, rfl, rfl, by omega, by omega, by omega, ring_st0 hs, L5.out, HX4.out.2, K5.out⟩
  case round =>
    clear K5 L5
    obtain ⟨o, t, i, m, F, rfl, rfl, rfl, rfl, hi60, hoi, hon, hst, hlm, hnf, hk⟩ := hrel
    have HST := Lib.hid hst
    have HLM := Lib.hid hlm
    have HNF := Lib.hid hnf
    have HKR := Lib.hid hk
    have hto := hst.le
    have hub := hst.ub
    have ho0 : (0 : Int) ≤ (o : Int) := by omega
    have ht0 : (0 : Int) ≤ (t : Int) := by omega
    have hi0 : (0 : Int) ≤ (i : Int) := by omega
    have ho60 : (o : Int) ≤ 60 := by omega
    have ht60 : (t : Int) ≤ 60 := by omega
    have hii60 : (i : Int) ≤ 60 := by omega
    clear hst hlm hnf hk
    by_cases hin : i < nb
    · have hin2 : (i : Int) < (nb : Int) := by omega
      by_cases hi6 : i < 60
      · have hi62 : (i : Int) < 60 := by omega
        obtain ⟨bb, ob, tv, rfl, hcb⟩ := HBO.out i hin
        have cb := hcb wr HLM.out.fr
        clear hin hi6 hcb
        cases tv with
        | false =>
          by_cases hto1 : t = o
          · have HTO := Lib.hid hto1
            have hto3 : ¬ (t : Int) < (o : Int) := by omega
            clear hto1
            have HNX := Lib.hid (next_laid_none t t HLM.out.ram (HLM.out.regs HR.out).1 (HLM.out.regs HR.out).2 HST.out.n (by omega) (by rw [HST.out.c, HTO.out]))
            go_wp2_with (first | go_skip | (refine wpList_load_row rfl 53 _ rfl b7 rfl 53 (lrow t t) (0, 0) _ HKR.out Tryd.underlying53 rfl (by kernel_rfl) ?_))
            refine (HNX.out).mono ?_
            rintro e w6 ⟨F6, rfl, h1, h2⟩
            have L6 := Lib.hid (HLM.out.step h1 h2)
            have K6 := Lib.hid (h2.heap HKR.out HNF.out)
            have N6 := Lib.hid (h2.off (lt_heap HKR.out) HNF.out)
            clear h1 h2 HNX HLM HKR HNF cb
            have KNa := Lib.hid (heap_alloc_new w6 (.cells #[.int .i64 0, .int .u32 0, .int .u32 0, .int .u32 0, .int .u16 0, .int .u16 0] 53))
            have HBNa := Lib.hid ((Below.refl w6.heap.size w6).alloc (Nat.le_refl _) (.cells #[.int .i64 0, .int .u32 0, .int .u32 0, .int .u32 0, .int .u16 0, .int .u16 0] 53))
            have LNa := Lib.hid (L6.out.below HBNa.out)
            have KQa := Lib.hid (keepB K6.out HBNa.out)
            have HXa := Lib.hid (And.intro L6.out.fr.size (And.intro (show ¬ F6 w6.heap.size from fun hf => absurd (L6.out.ram.lt _ hf) (Nat.lt_irrefl _)) (lt_heap K6.out)))
            go_wp2_with (first | go_skip | (refine wpList_store_to rfl 53 _ _ rfl w6.heap.size (lrow t t) rfl rfl 53 #[.int .i64 0, .int .u32 0, .int .u32 0, .int .u32 0, .int .u16 0, .int .u16 0] KNa.out (by kernel_rfl) rfl (lrow_one _ _) ?_))
            intro w7 hx hk
            have La := Lib.hid (LNa.out.own hx.out HXa.out.1 HXa.out.2.1)
            have Ka := Lib.hid hk
            have Ra := Lib.hid (hx.out.heap KQa.out (by have := HXa.out.2.2; omega))
            clear hx hk KNa LNa HBNa KQa
            generalize w6.heap.size = bxa at Ka HXa ⊢

            go_wp2_with fail
            go_roundw
            case rel => exact ⟨o, t, i + 1, m, F6, rfl, rfl, rfl, by go_num, by omega, by omega, by omega, HST.out, La.out, N6.out, Ra.out⟩
            case measure => simp [intOf]; omega

          · have hto2 : t < o := by omega
            have htn : t < nh := by omega
            obtain ⟨bh, oh, rfl, hch⟩ := HK.out t htn
            have hand : bits BinOp.and .i64 (K t) 3 = ((hs t % 4 : Nat) : Int) := (i64_and3 _).trans (HHS.out t).symm
            have HAT := Lib.hid (HST.out.at_ t (Nat.le_refl _) hto2)
            have hx4 : hs t % 4 < 4 := Nat.mod_lt _ (by omega)
            have HNX := Lib.hid (next_laid_some t t o (hs t % 4) HLM.out.ram (HLM.out.regs HR.out).1 (HLM.out.regs HR.out).2 HST.out.n (by omega) HST.out.c hto2 (by omega) HAT.out hx4)
            have HGI := Lib.hid (fun W F' (hl : LawMem w W g m F') (hz : _) => give_laid (t + 1) t (hs t % 4) (t + 1) ((t : Int) + 1) hz hl.ram (hl.regs HR.out).1 (hl.regs HR.out).2 HST.out.n (by omega) hx4)
            have HGR := Lib.hid (gave_read m t (hs t % 4) (t + 1) hx4 (by omega) (by omega))
            have HTK := Lib.hid (HST.out.took hto2 t (hs t % 4) (t + 1) (by omega))
            have HCH := Lib.hid (fun W (h : Below w.heap.size w W) => hch W h)
            generalize hs t % 4 = x at hand hx4 HNX HGI HGR HTK
            have hx40 : (0 : Int) ≤ (x : Int) := by omega
            have hx44 : (x : Int) < 4 := by omega
            generalize HM3 : gaveM m t x (t + 1) = m3 at HGI HGR HTK
            have hto3 : (t : Int) < (o : Int) := by omega
            clear hch HAT HM3
            go_wp2_with (first | go_skip | (refine wpList_load_row rfl 53 _ rfl b7 rfl 53 (lrow t t) (0, 0) _ HKR.out Tryd.underlying53 rfl (by kernel_rfl) ?_))
            refine (HNX.out).mono ?_
            rintro e w6 ⟨F6, rfl, h1, h2⟩
            have L6 := Lib.hid (HLM.out.step h1 h2)
            have K6 := Lib.hid (h2.heap HKR.out HNF.out)
            have N6 := Lib.hid (h2.off (lt_heap HKR.out) HNF.out)
            clear h1 h2 HNX HLM HKR HNF cb
            have KNa := Lib.hid (heap_alloc_new w6 (.cells #[.int .i64 0, .int .u32 0, .int .u32 0, .int .u32 0, .int .u16 0, .int .u16 0] 53))
            have HBNa := Lib.hid ((Below.refl w6.heap.size w6).alloc (Nat.le_refl _) (.cells #[.int .i64 0, .int .u32 0, .int .u32 0, .int .u32 0, .int .u16 0, .int .u16 0] 53))
            have LNa := Lib.hid (L6.out.below HBNa.out)
            have KQa := Lib.hid (keepB K6.out HBNa.out)
            have HXa := Lib.hid (And.intro L6.out.fr.size (And.intro (show ¬ F6 w6.heap.size from fun hf => absurd (L6.out.ram.lt _ hf) (Nat.lt_irrefl _)) (lt_heap K6.out)))
            go_wp2_with (first | go_skip | (refine wpList_store_to rfl 53 _ _ rfl w6.heap.size (lrow (t + 1) t) rfl rfl 53 #[.int .i64 0, .int .u32 0, .int .u32 0, .int .u32 0, .int .u16 0, .int .u16 0] KNa.out (by kernel_rfl) rfl (lrow_one _ _) ?_))
            intro w7 hx hk
            have La := Lib.hid (LNa.out.own hx.out HXa.out.1 HXa.out.2.1)
            have Ka := Lib.hid hk
            have Ra := Lib.hid (hx.out.heap KQa.out (by have := HXa.out.2.2; omega))
            clear hx hk KNa LNa HBNa KQa
            generalize w6.heap.size = bxa at Ka HXa ⊢

            have ch := HCH.out w7 La.out.fr
            have HGI1 := Lib.hid (HGI.out w7 F6 La.out)
            go_wp2_with (first | go_skip | (refine wpList_load_row rfl 53 _ rfl bxa rfl 53 (lrow (t + 1) t) (0, 0) _ Ka.out Tryd.underlying53 rfl (by kernel_rfl) ?_))
            refine (HGI1.out (by omega)).mono ?_
            rintro e w8 ⟨F8, rfl, h1, h2⟩
            have L8 := Lib.hid (La.out.step h1 h2)
            have K8 := Lib.hid (h2.heap Ra.out N6.out)
            have N8 := Lib.hid (h2.off (lt_heap Ra.out) N6.out)
            clear h1 h2 HGI HGI1 La Ka Ra ch HXa L6 K6
            have KNb := Lib.hid (heap_alloc_new w8 (.cells #[.int .i64 0, .int .u32 0, .int .u32 0, .int .u32 0, .int .u16 0, .int .u16 0] 53))
            have HBNb := Lib.hid ((Below.refl w8.heap.size w8).alloc (Nat.le_refl _) (.cells #[.int .i64 0, .int .u32 0, .int .u32 0, .int .u32 0, .int .u16 0, .int .u16 0] 53))
            have LNb := Lib.hid (L8.out.below HBNb.out)
            have KQb := Lib.hid (keepB K8.out HBNb.out)
            have HXb := Lib.hid (And.intro L8.out.fr.size (And.intro (show ¬ F8 w8.heap.size from fun hf => absurd (L8.out.ram.lt _ hf) (Nat.lt_irrefl _)) (lt_heap K8.out)))
            go_wp2_with (first | go_skip | (refine wpList_store_to rfl 53 _ _ rfl w8.heap.size (lrow (t + 1) (t + 1)) rfl rfl 53 #[.int .i64 0, .int .u32 0, .int .u32 0, .int .u32 0, .int .u16 0, .int .u16 0] KNb.out (by kernel_rfl) rfl (lrow_one _ _) ?_))
            intro w9 hx hk
            have Lb := Lib.hid (LNb.out.own hx.out HXb.out.1 HXb.out.2.1)
            have Kb := Lib.hid hk
            have Rb := Lib.hid (hx.out.heap KQb.out (by have := HXb.out.2.2; omega))
            clear hx hk KNb LNb HBNb KQb
            generalize w8.heap.size = bxb at Kb HXb ⊢

            go_wp2_with (first | go_skip | (refine wpList_load_row rfl 53 _ rfl bxb rfl 53 (lrow (t + 1) (t + 1)) (0, 0) _ Kb.out Tryd.underlying53 rfl (by kernel_rfl) ?_) | (refine wpList_store_to rfl 53 _ _ rfl b7 (lrow (t + 1) (t + 1)) rfl rfl 53 (lrow t t) Rb.out (by kernel_rfl) rfl (lrow_one _ _) ?_))
            intro w10 hx hk
            have L10 := Lib.hid (Lb.out.own hx.out HX4.out.1 N8.out)
            have K10 := Lib.hid hk
            clear hx hk Kb Rb Lb HXb K8 L8
            have HLD := Lib.hid (fun W F' (hl : LawMem w W g m3 F') (a k : Nat) (ai ki : Int) (ea : ai = a) (ek : ki = k) (ha : a + k ≤ 8192) (hk : okN k) (hr : a % k = 0) => load_at hl.ram a k ai ki ea ek (by omega) hk (by rw [HTK.out.n]; omega) hr)
            go_wp2_with fail
            refine (HLD.out w10 F8 L10.out (516 + 8 * (t % 4)) 4 _ 4 (by omega) rfl (by omega) (.inr (.inr rfl)) (by omega)).mono ?_
            rintro e w11 ⟨F11, rfl, h1, h2⟩
            rw [HGR.out.1]
            have L11 := Lib.hid (L10.out.step h1 h2)
            have K11 := Lib.hid (h2.heap K10.out N8.out)
            have N11 := Lib.hid (h2.off (lt_heap K10.out) N8.out)
            clear h1 h2 L10 K10 N8
            go_wp2_with fail
            refine (HLD.out w11 F11 L11.out (520 + 8 * (t % 4)) 4 _ 4 (by omega) rfl (by omega) (.inr (.inr rfl)) (by omega)).mono ?_
            rintro e w12 ⟨F12, rfl, h1, h2⟩
            rw [HGR.out.2.1]
            have L12 := Lib.hid (L11.out.step h1 h2)
            have K12 := Lib.hid (h2.heap K11.out N11.out)
            have N12 := Lib.hid (h2.off (lt_heap K11.out) N11.out)
            clear h1 h2 L11 K11 N11
            go_wp2_with fail
            refine (HLD.out w12 F12 L12.out 514 2 _ 2 (by omega) rfl (by omega) (.inr (.inl rfl)) (by omega)).mono ?_
            rintro e w13 ⟨F13, rfl, h1, h2⟩
            rw [HGR.out.2.2]
            have L13 := Lib.hid (L12.out.step h1 h2)
            have K13 := Lib.hid (h2.heap K12.out N12.out)
            have N13 := Lib.hid (h2.off (lt_heap K12.out) N12.out)
            clear h1 h2 L12 K12 N12 HLD
            go_wp2_with fail
            go_roundw
            case rel => exact ⟨o, t + 1, i + 1, m3, F13, rfl, by go_num, by go_num, by go_num, by omega, by omega, by omega, HTK.out, L13.out, N13.out, K13.out⟩
            case measure => simp [intOf]; omega


        | true =>
          by_cases hd4 : o - t < 4
          · have hd42 : (o : Int) - (t : Int) < 4 := by omega
            by_cases hon2 : o < nh
            · have hon3 : (o : Int) < (nh : Int) := by omega
              obtain ⟨bh, oh, rfl, hch⟩ := HK.out o hon2
              have ch := hch wr HLM.out.fr
              have hand : bits BinOp.and .i64 (K o) 3 = ((hs o % 4 : Nat) : Int) := (i64_and3 _).trans (HHS.out o).symm
              have HOF := Lib.hid (HST.out.offer hd4 (by omega))
              have hx4 : hs o % 4 < 4 := Nat.mod_lt _ (by omega)
              generalize hs o % 4 = x at hand hx4 HOF
              have hx40 : (0 : Int) ≤ (x : Int) := by omega
              have hx44 : (x : Int) < 4 := by omega
              have HMN := Lib.hid HST.out.n
              clear hch hd4 hon2
              have HS1 := Lib.hid (fun ai vi ea ev => store_at HLM.out.ram (260 + 2 * (o % 4)) 2 x ai 2 vi ea rfl ev (by omega) (.inr (.inl rfl)) (by rw [HMN.out]; omega) (by omega))
              go_wp2_with fail
              refine (HS1.out _ _ (by omega) (by omega)).mono ?_
              rintro e w6 ⟨F6, rfl, h1, h2⟩
              have L6 := Lib.hid (HLM.out.step h1 h2)
              have K6 := Lib.hid (h2.heap HKR.out HNF.out)
              have N6 := Lib.hid (h2.off (lt_heap HKR.out) HNF.out)
              clear h1 h2 HS1 HLM HKR HNF cb ch
              have HS2 := Lib.hid (fun vi ev => store_at L6.out.ram 258 2 (o + 1) 258 2 vi rfl rfl ev (by omega) (.inr (.inl rfl)) (by rw [store_n, HMN.out]; omega) (by omega))
              go_wp2_with fail
              refine (HS2.out _ (by omega)).mono ?_
              rintro e w7 ⟨F7, rfl, h1, h2⟩
              have L7 := Lib.hid (L6.out.step h1 h2)
              have K7 := Lib.hid (h2.heap K6.out N6.out)
              have N7 := Lib.hid (h2.off (lt_heap K6.out) N6.out)
              clear h1 h2 HS2 L6 K6 N6
              go_wp2_with fail
              go_roundw
              case rel => exact ⟨o + 1, t, i + 1, _, F7, by go_num, rfl, rfl, by go_num, by omega, by omega, by omega, HOF.out, L7.out, N7.out, K7.out⟩
              case measure => simp [intOf]; omega
            · have hon3 : ¬ (o : Int) < (nh : Int) := by omega
              clear hd4
              by_cases hto1 : t = o
              · have HTO := Lib.hid hto1
                have hto3 : ¬ (t : Int) < (o : Int) := by omega
                clear hto1
                have HNX := Lib.hid (next_laid_none t t HLM.out.ram (HLM.out.regs HR.out).1 (HLM.out.regs HR.out).2 HST.out.n (by omega) (by rw [HST.out.c, HTO.out]))
                go_wp2_with (first | go_skip | (refine wpList_load_row rfl 53 _ rfl b7 rfl 53 (lrow t t) (0, 0) _ HKR.out Tryd.underlying53 rfl (by kernel_rfl) ?_))
                refine (HNX.out).mono ?_
                rintro e w6 ⟨F6, rfl, h1, h2⟩
                have L6 := Lib.hid (HLM.out.step h1 h2)
                have K6 := Lib.hid (h2.heap HKR.out HNF.out)
                have N6 := Lib.hid (h2.off (lt_heap HKR.out) HNF.out)
                clear h1 h2 HNX HLM HKR HNF cb
                have KNa := Lib.hid (heap_alloc_new w6 (.cells #[.int .i64 0, .int .u32 0, .int .u32 0, .int .u32 0, .int .u16 0, .int .u16 0] 53))
                have HBNa := Lib.hid ((Below.refl w6.heap.size w6).alloc (Nat.le_refl _) (.cells #[.int .i64 0, .int .u32 0, .int .u32 0, .int .u32 0, .int .u16 0, .int .u16 0] 53))
                have LNa := Lib.hid (L6.out.below HBNa.out)
                have KQa := Lib.hid (keepB K6.out HBNa.out)
                have HXa := Lib.hid (And.intro L6.out.fr.size (And.intro (show ¬ F6 w6.heap.size from fun hf => absurd (L6.out.ram.lt _ hf) (Nat.lt_irrefl _)) (lt_heap K6.out)))
                go_wp2_with (first | go_skip | (refine wpList_store_to rfl 53 _ _ rfl w6.heap.size (lrow t t) rfl rfl 53 #[.int .i64 0, .int .u32 0, .int .u32 0, .int .u32 0, .int .u16 0, .int .u16 0] KNa.out (by kernel_rfl) rfl (lrow_one _ _) ?_))
                intro w7 hx hk
                have La := Lib.hid (LNa.out.own hx.out HXa.out.1 HXa.out.2.1)
                have Ka := Lib.hid hk
                have Ra := Lib.hid (hx.out.heap KQa.out (by have := HXa.out.2.2; omega))
                clear hx hk KNa LNa HBNa KQa
                generalize w6.heap.size = bxa at Ka HXa ⊢

                go_wp2_with fail
                go_roundw
                case rel => exact ⟨o, t, i + 1, m, F6, rfl, rfl, rfl, by go_num, by omega, by omega, by omega, HST.out, La.out, N6.out, Ra.out⟩
                case measure => simp [intOf]; omega

              · have hto2 : t < o := by omega
                have htn : t < nh := by omega
                obtain ⟨bh, oh, rfl, hch⟩ := HK.out t htn
                have hand : bits BinOp.and .i64 (K t) 3 = ((hs t % 4 : Nat) : Int) := (i64_and3 _).trans (HHS.out t).symm
                have HAT := Lib.hid (HST.out.at_ t (Nat.le_refl _) hto2)
                have hx4 : hs t % 4 < 4 := Nat.mod_lt _ (by omega)
                have HNX := Lib.hid (next_laid_some t t o (hs t % 4) HLM.out.ram (HLM.out.regs HR.out).1 (HLM.out.regs HR.out).2 HST.out.n (by omega) HST.out.c hto2 (by omega) HAT.out hx4)
                have HGI := Lib.hid (fun W F' (hl : LawMem w W g m F') (hz : _) => give_laid (t + 1) t (hs t % 4) (t + 1) ((t : Int) + 1) hz hl.ram (hl.regs HR.out).1 (hl.regs HR.out).2 HST.out.n (by omega) hx4)
                have HGR := Lib.hid (gave_read m t (hs t % 4) (t + 1) hx4 (by omega) (by omega))
                have HTK := Lib.hid (HST.out.took hto2 t (hs t % 4) (t + 1) (by omega))
                have HCH := Lib.hid (fun W (h : Below w.heap.size w W) => hch W h)
                generalize hs t % 4 = x at hand hx4 HNX HGI HGR HTK
                have hx40 : (0 : Int) ≤ (x : Int) := by omega
                have hx44 : (x : Int) < 4 := by omega
                generalize HM3 : gaveM m t x (t + 1) = m3 at HGI HGR HTK
                have hto3 : (t : Int) < (o : Int) := by omega
                clear hch HAT HM3
                go_wp2_with (first | go_skip | (refine wpList_load_row rfl 53 _ rfl b7 rfl 53 (lrow t t) (0, 0) _ HKR.out Tryd.underlying53 rfl (by kernel_rfl) ?_))
                refine (HNX.out).mono ?_
                rintro e w6 ⟨F6, rfl, h1, h2⟩
                have L6 := Lib.hid (HLM.out.step h1 h2)
                have K6 := Lib.hid (h2.heap HKR.out HNF.out)
                have N6 := Lib.hid (h2.off (lt_heap HKR.out) HNF.out)
                clear h1 h2 HNX HLM HKR HNF cb
                have KNa := Lib.hid (heap_alloc_new w6 (.cells #[.int .i64 0, .int .u32 0, .int .u32 0, .int .u32 0, .int .u16 0, .int .u16 0] 53))
                have HBNa := Lib.hid ((Below.refl w6.heap.size w6).alloc (Nat.le_refl _) (.cells #[.int .i64 0, .int .u32 0, .int .u32 0, .int .u32 0, .int .u16 0, .int .u16 0] 53))
                have LNa := Lib.hid (L6.out.below HBNa.out)
                have KQa := Lib.hid (keepB K6.out HBNa.out)
                have HXa := Lib.hid (And.intro L6.out.fr.size (And.intro (show ¬ F6 w6.heap.size from fun hf => absurd (L6.out.ram.lt _ hf) (Nat.lt_irrefl _)) (lt_heap K6.out)))
                go_wp2_with (first | go_skip | (refine wpList_store_to rfl 53 _ _ rfl w6.heap.size (lrow (t + 1) t) rfl rfl 53 #[.int .i64 0, .int .u32 0, .int .u32 0, .int .u32 0, .int .u16 0, .int .u16 0] KNa.out (by kernel_rfl) rfl (lrow_one _ _) ?_))
                intro w7 hx hk
                have La := Lib.hid (LNa.out.own hx.out HXa.out.1 HXa.out.2.1)
                have Ka := Lib.hid hk
                have Ra := Lib.hid (hx.out.heap KQa.out (by have := HXa.out.2.2; omega))
                clear hx hk KNa LNa HBNa KQa
                generalize w6.heap.size = bxa at Ka HXa ⊢

                have ch := HCH.out w7 La.out.fr
                have HGI1 := Lib.hid (HGI.out w7 F6 La.out)
                go_wp2_with (first | go_skip | (refine wpList_load_row rfl 53 _ rfl bxa rfl 53 (lrow (t + 1) t) (0, 0) _ Ka.out Tryd.underlying53 rfl (by kernel_rfl) ?_))
                refine (HGI1.out (by omega)).mono ?_
                rintro e w8 ⟨F8, rfl, h1, h2⟩
                have L8 := Lib.hid (La.out.step h1 h2)
                have K8 := Lib.hid (h2.heap Ra.out N6.out)
                have N8 := Lib.hid (h2.off (lt_heap Ra.out) N6.out)
                clear h1 h2 HGI HGI1 La Ka Ra ch HXa L6 K6
                have KNb := Lib.hid (heap_alloc_new w8 (.cells #[.int .i64 0, .int .u32 0, .int .u32 0, .int .u32 0, .int .u16 0, .int .u16 0] 53))
                have HBNb := Lib.hid ((Below.refl w8.heap.size w8).alloc (Nat.le_refl _) (.cells #[.int .i64 0, .int .u32 0, .int .u32 0, .int .u32 0, .int .u16 0, .int .u16 0] 53))
                have LNb := Lib.hid (L8.out.below HBNb.out)
                have KQb := Lib.hid (keepB K8.out HBNb.out)
                have HXb := Lib.hid (And.intro L8.out.fr.size (And.intro (show ¬ F8 w8.heap.size from fun hf => absurd (L8.out.ram.lt _ hf) (Nat.lt_irrefl _)) (lt_heap K8.out)))
                go_wp2_with (first | go_skip | (refine wpList_store_to rfl 53 _ _ rfl w8.heap.size (lrow (t + 1) (t + 1)) rfl rfl 53 #[.int .i64 0, .int .u32 0, .int .u32 0, .int .u32 0, .int .u16 0, .int .u16 0] KNb.out (by kernel_rfl) rfl (lrow_one _ _) ?_))
                intro w9 hx hk
                have Lb := Lib.hid (LNb.out.own hx.out HXb.out.1 HXb.out.2.1)
                have Kb := Lib.hid hk
                have Rb := Lib.hid (hx.out.heap KQb.out (by have := HXb.out.2.2; omega))
                clear hx hk KNb LNb HBNb KQb
                generalize w8.heap.size = bxb at Kb HXb ⊢

                go_wp2_with (first | go_skip | (refine wpList_load_row rfl 53 _ rfl bxb rfl 53 (lrow (t + 1) (t + 1)) (0, 0) _ Kb.out Tryd.underlying53 rfl (by kernel_rfl) ?_) | (refine wpList_store_to rfl 53 _ _ rfl b7 (lrow (t + 1) (t + 1)) rfl rfl 53 (lrow t t) Rb.out (by kernel_rfl) rfl (lrow_one _ _) ?_))
                intro w10 hx hk
                have L10 := Lib.hid (Lb.out.own hx.out HX4.out.1 N8.out)
                have K10 := Lib.hid hk
                clear hx hk Kb Rb Lb HXb K8 L8
                have HLD := Lib.hid (fun W F' (hl : LawMem w W g m3 F') (a k : Nat) (ai ki : Int) (ea : ai = a) (ek : ki = k) (ha : a + k ≤ 8192) (hk : okN k) (hr : a % k = 0) => load_at hl.ram a k ai ki ea ek (by omega) hk (by rw [HTK.out.n]; omega) hr)
                go_wp2_with fail
                refine (HLD.out w10 F8 L10.out (516 + 8 * (t % 4)) 4 _ 4 (by omega) rfl (by omega) (.inr (.inr rfl)) (by omega)).mono ?_
                rintro e w11 ⟨F11, rfl, h1, h2⟩
                rw [HGR.out.1]
                have L11 := Lib.hid (L10.out.step h1 h2)
                have K11 := Lib.hid (h2.heap K10.out N8.out)
                have N11 := Lib.hid (h2.off (lt_heap K10.out) N8.out)
                clear h1 h2 L10 K10 N8
                go_wp2_with fail
                refine (HLD.out w11 F11 L11.out (520 + 8 * (t % 4)) 4 _ 4 (by omega) rfl (by omega) (.inr (.inr rfl)) (by omega)).mono ?_
                rintro e w12 ⟨F12, rfl, h1, h2⟩
                rw [HGR.out.2.1]
                have L12 := Lib.hid (L11.out.step h1 h2)
                have K12 := Lib.hid (h2.heap K11.out N11.out)
                have N12 := Lib.hid (h2.off (lt_heap K11.out) N11.out)
                clear h1 h2 L11 K11 N11
                go_wp2_with fail
                refine (HLD.out w12 F12 L12.out 514 2 _ 2 (by omega) rfl (by omega) (.inr (.inl rfl)) (by omega)).mono ?_
                rintro e w13 ⟨F13, rfl, h1, h2⟩
                rw [HGR.out.2.2]
                have L13 := Lib.hid (L12.out.step h1 h2)
                have K13 := Lib.hid (h2.heap K12.out N12.out)
                have N13 := Lib.hid (h2.off (lt_heap K12.out) N12.out)
                clear h1 h2 L12 K12 N12 HLD
                go_wp2_with fail
                go_roundw
                case rel => exact ⟨o, t + 1, i + 1, m3, F13, rfl, by go_num, by go_num, by go_num, by omega, by omega, by omega, HTK.out, L13.out, N13.out, K13.out⟩
                case measure => simp [intOf]; omega


          · have hd42 : ¬ (o : Int) - (t : Int) < 4 := by omega
            have hto2 : t < o := by omega
            have htn : t < nh := by omega
            obtain ⟨bh, oh, rfl, hch⟩ := HK.out t htn
            have hand : bits BinOp.and .i64 (K t) 3 = ((hs t % 4 : Nat) : Int) := (i64_and3 _).trans (HHS.out t).symm
            have HAT := Lib.hid (HST.out.at_ t (Nat.le_refl _) hto2)
            have hx4 : hs t % 4 < 4 := Nat.mod_lt _ (by omega)
            have HNX := Lib.hid (next_laid_some t t o (hs t % 4) HLM.out.ram (HLM.out.regs HR.out).1 (HLM.out.regs HR.out).2 HST.out.n (by omega) HST.out.c hto2 (by omega) HAT.out hx4)
            have HGI := Lib.hid (fun W F' (hl : LawMem w W g m F') (hz : _) => give_laid (t + 1) t (hs t % 4) (t + 1) ((t : Int) + 1) hz hl.ram (hl.regs HR.out).1 (hl.regs HR.out).2 HST.out.n (by omega) hx4)
            have HGR := Lib.hid (gave_read m t (hs t % 4) (t + 1) hx4 (by omega) (by omega))
            have HTK := Lib.hid (HST.out.took hto2 t (hs t % 4) (t + 1) (by omega))
            have HCH := Lib.hid (fun W (h : Below w.heap.size w W) => hch W h)
            generalize hs t % 4 = x at hand hx4 HNX HGI HGR HTK
            have hx40 : (0 : Int) ≤ (x : Int) := by omega
            have hx44 : (x : Int) < 4 := by omega
            generalize HM3 : gaveM m t x (t + 1) = m3 at HGI HGR HTK
            have hto3 : (t : Int) < (o : Int) := by omega
            clear hch HAT HM3
            go_wp2_with (first | go_skip | (refine wpList_load_row rfl 53 _ rfl b7 rfl 53 (lrow t t) (0, 0) _ HKR.out Tryd.underlying53 rfl (by kernel_rfl) ?_))
            refine (HNX.out).mono ?_
            rintro e w6 ⟨F6, rfl, h1, h2⟩
            have L6 := Lib.hid (HLM.out.step h1 h2)
            have K6 := Lib.hid (h2.heap HKR.out HNF.out)
            have N6 := Lib.hid (h2.off (lt_heap HKR.out) HNF.out)
            clear h1 h2 HNX HLM HKR HNF cb
            have KNa := Lib.hid (heap_alloc_new w6 (.cells #[.int .i64 0, .int .u32 0, .int .u32 0, .int .u32 0, .int .u16 0, .int .u16 0] 53))
            have HBNa := Lib.hid ((Below.refl w6.heap.size w6).alloc (Nat.le_refl _) (.cells #[.int .i64 0, .int .u32 0, .int .u32 0, .int .u32 0, .int .u16 0, .int .u16 0] 53))
            have LNa := Lib.hid (L6.out.below HBNa.out)
            have KQa := Lib.hid (keepB K6.out HBNa.out)
            have HXa := Lib.hid (And.intro L6.out.fr.size (And.intro (show ¬ F6 w6.heap.size from fun hf => absurd (L6.out.ram.lt _ hf) (Nat.lt_irrefl _)) (lt_heap K6.out)))
            go_wp2_with (first | go_skip | (refine wpList_store_to rfl 53 _ _ rfl w6.heap.size (lrow (t + 1) t) rfl rfl 53 #[.int .i64 0, .int .u32 0, .int .u32 0, .int .u32 0, .int .u16 0, .int .u16 0] KNa.out (by kernel_rfl) rfl (lrow_one _ _) ?_))
            intro w7 hx hk
            have La := Lib.hid (LNa.out.own hx.out HXa.out.1 HXa.out.2.1)
            have Ka := Lib.hid hk
            have Ra := Lib.hid (hx.out.heap KQa.out (by have := HXa.out.2.2; omega))
            clear hx hk KNa LNa HBNa KQa
            generalize w6.heap.size = bxa at Ka HXa ⊢

            have ch := HCH.out w7 La.out.fr
            have HGI1 := Lib.hid (HGI.out w7 F6 La.out)
            go_wp2_with (first | go_skip | (refine wpList_load_row rfl 53 _ rfl bxa rfl 53 (lrow (t + 1) t) (0, 0) _ Ka.out Tryd.underlying53 rfl (by kernel_rfl) ?_))
            refine (HGI1.out (by omega)).mono ?_
            rintro e w8 ⟨F8, rfl, h1, h2⟩
            have L8 := Lib.hid (La.out.step h1 h2)
            have K8 := Lib.hid (h2.heap Ra.out N6.out)
            have N8 := Lib.hid (h2.off (lt_heap Ra.out) N6.out)
            clear h1 h2 HGI HGI1 La Ka Ra ch HXa L6 K6
            have KNb := Lib.hid (heap_alloc_new w8 (.cells #[.int .i64 0, .int .u32 0, .int .u32 0, .int .u32 0, .int .u16 0, .int .u16 0] 53))
            have HBNb := Lib.hid ((Below.refl w8.heap.size w8).alloc (Nat.le_refl _) (.cells #[.int .i64 0, .int .u32 0, .int .u32 0, .int .u32 0, .int .u16 0, .int .u16 0] 53))
            have LNb := Lib.hid (L8.out.below HBNb.out)
            have KQb := Lib.hid (keepB K8.out HBNb.out)
            have HXb := Lib.hid (And.intro L8.out.fr.size (And.intro (show ¬ F8 w8.heap.size from fun hf => absurd (L8.out.ram.lt _ hf) (Nat.lt_irrefl _)) (lt_heap K8.out)))
            go_wp2_with (first | go_skip | (refine wpList_store_to rfl 53 _ _ rfl w8.heap.size (lrow (t + 1) (t + 1)) rfl rfl 53 #[.int .i64 0, .int .u32 0, .int .u32 0, .int .u32 0, .int .u16 0, .int .u16 0] KNb.out (by kernel_rfl) rfl (lrow_one _ _) ?_))
            intro w9 hx hk
            have Lb := Lib.hid (LNb.out.own hx.out HXb.out.1 HXb.out.2.1)
            have Kb := Lib.hid hk
            have Rb := Lib.hid (hx.out.heap KQb.out (by have := HXb.out.2.2; omega))
            clear hx hk KNb LNb HBNb KQb
            generalize w8.heap.size = bxb at Kb HXb ⊢

            go_wp2_with (first | go_skip | (refine wpList_load_row rfl 53 _ rfl bxb rfl 53 (lrow (t + 1) (t + 1)) (0, 0) _ Kb.out Tryd.underlying53 rfl (by kernel_rfl) ?_) | (refine wpList_store_to rfl 53 _ _ rfl b7 (lrow (t + 1) (t + 1)) rfl rfl 53 (lrow t t) Rb.out (by kernel_rfl) rfl (lrow_one _ _) ?_))
            intro w10 hx hk
            have L10 := Lib.hid (Lb.out.own hx.out HX4.out.1 N8.out)
            have K10 := Lib.hid hk
            clear hx hk Kb Rb Lb HXb K8 L8
            have HLD := Lib.hid (fun W F' (hl : LawMem w W g m3 F') (a k : Nat) (ai ki : Int) (ea : ai = a) (ek : ki = k) (ha : a + k ≤ 8192) (hk : okN k) (hr : a % k = 0) => load_at hl.ram a k ai ki ea ek (by omega) hk (by rw [HTK.out.n]; omega) hr)
            go_wp2_with fail
            refine (HLD.out w10 F8 L10.out (516 + 8 * (t % 4)) 4 _ 4 (by omega) rfl (by omega) (.inr (.inr rfl)) (by omega)).mono ?_
            rintro e w11 ⟨F11, rfl, h1, h2⟩
            rw [HGR.out.1]
            have L11 := Lib.hid (L10.out.step h1 h2)
            have K11 := Lib.hid (h2.heap K10.out N8.out)
            have N11 := Lib.hid (h2.off (lt_heap K10.out) N8.out)
            clear h1 h2 L10 K10 N8
            go_wp2_with fail
            refine (HLD.out w11 F11 L11.out (520 + 8 * (t % 4)) 4 _ 4 (by omega) rfl (by omega) (.inr (.inr rfl)) (by omega)).mono ?_
            rintro e w12 ⟨F12, rfl, h1, h2⟩
            rw [HGR.out.2.1]
            have L12 := Lib.hid (L11.out.step h1 h2)
            have K12 := Lib.hid (h2.heap K11.out N11.out)
            have N12 := Lib.hid (h2.off (lt_heap K11.out) N11.out)
            clear h1 h2 L11 K11 N11
            go_wp2_with fail
            refine (HLD.out w12 F12 L12.out 514 2 _ 2 (by omega) rfl (by omega) (.inr (.inl rfl)) (by omega)).mono ?_
            rintro e w13 ⟨F13, rfl, h1, h2⟩
            rw [HGR.out.2.2]
            have L13 := Lib.hid (L12.out.step h1 h2)
            have K13 := Lib.hid (h2.heap K12.out N12.out)
            have N13 := Lib.hid (h2.off (lt_heap K12.out) N12.out)
            clear h1 h2 L12 K12 N12 HLD
            go_wp2_with fail
            go_roundw
            case rel => exact ⟨o, t + 1, i + 1, m3, F13, rfl, by go_num, by go_num, by go_num, by omega, by omega, by omega, HTK.out, L13.out, N13.out, K13.out⟩
            case measure => simp [intOf]; omega


      · obtain rfl : i = 60 := by omega
        clear hi6
        have HSU := Lib.hid (sure13_ok wr (HLM.out.regs HR.out).1)
        have HFR := Lib.hid HLM.out.fr
        go_wp2_with fail
        refine (HSU.out).mono ?_
        rintro e w6 ⟨rfl, hb⟩
        go_wp2_with fail
        go_ret
        exact ⟨rfl, HFR.out.trans (hb.mono HFR.out.size)⟩

    · have hin2 : ¬ (i : Int) < (nb : Int) := by omega
      clear hin
      have HSU := Lib.hid (sure13_ok wr (HLM.out.regs HR.out).1)
      have HFR := Lib.hid HLM.out.fr
      go_wp2_with fail
      refine (HSU.out).mono ?_
      rintro e w6 ⟨rfl, hb⟩
      go_wp2_with fail
      go_ret
      exact ⟨rfl, HFR.out.trans (hb.mono HFR.out.size)⟩

end Go.Proofs.YtcakcfeipfjmpaaDoor
