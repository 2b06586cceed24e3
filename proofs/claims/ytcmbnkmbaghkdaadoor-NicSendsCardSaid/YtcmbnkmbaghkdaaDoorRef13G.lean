/-
pinnaceref13's Gather and Room, walked: the bytes that parts hold, and how many.
Conditions: all parts lie in memory.
-/
import Derived.Test.YtcmbnkmbaghkdaaDoorRef13C
import Derived.Test.YtcmbnkmbaghkdaaDoorG6

import Derived.Test.YtcmbnkmbaghkdaaDoorRefRead
import Derived.Test.YtcmbnkmbaghkdaaDoorVioRow
import Derived.OrdersHeld
import Derived.Deep.MidRow
import Derived.Deep.RegionHeld
namespace Go.Proofs.YtcmbnkmbaghkdaaDoor
open Go.RowKit
set_option linter.unusedVariables false

theorem SegsAt.of_owns13 {w : World} {base n : Nat} {v : Value} {l : List Sg} {F : Nat → Prop} (h : w.ownsRow base 205 3 v n (flatS l)) (hf : ∀ b, v.ownBlock = some b → ¬ F b) : ∃ ao c, v = .slice ao n c ∧ n ≤ c ∧ l.length = n ∧ SegsAt w ao l F := by
  have hl : l.length = n := by have := h.1; rw [flatS_length] at this; omega
  rcases h.2 with ⟨rfl, rfl⟩ | ⟨g, cap, cur, rfl, hg, hh, hc, _⟩
  · exact ⟨none, 0, rfl, Nat.le_refl _, hl, fun hne => absurd (List.eq_nil_of_length_eq_zero hl) hne⟩
  · refine ⟨some ⟨g, 0, none⟩, cap, rfl, hc, hl, fun _ => ⟨g, 0, rfl, lt_heap hh, hf g rfl, fun k s r hk hr => ?_⟩⟩
    have hj' : k < n := by rw [← hl]; exact (List.getElem?_eq_some_iff.1 hk).1
    rw [Nat.zero_add, h.cellAt (k * 3 + r) (by omega)]
    exact flatS_get l k s r hk hr
theorem row_range13 {w : World} {g : Nat} {c : Array Value} {t : TypeId} {fr : Nat × Nat} (h : w.heap[g]? = some (.cells c t fr)) : w.rangeAt g 0 c.toList := range_of_row h 0 _ fun j v hv => by rw [Nat.zero_add]; simpa using hv
theorem gath_fin13 {W : World} {B n : Nat} {T : TypeId} {av : Option Addr} {cv : Nat} {bs : List UInt8} (hn : n = bs.length) (h : W.ownsRow (B + 1) T 1 (.slice av bs.length cv) bs.length (bs.map B8)) : W.ownsRow B T 1 (.slice av n cv) bs.length (bs.map B8) := by
  subst hn
  exact h.mono (by omega)
def Bytes13Post (w : World) (bs : List UInt8) (e : Ending) (w' : World) : Prop :=
  ∃ v, e = .returned (.tuple #[v, .int .i64 0]) ∧ Below w.heap.size w w' ∧ w'.ownsRow w.heap.size 5 1 v bs.length (bs.map B8)
/-- What a round of the reference's Gather holds. -/
structure G13 (w W : World) (rm : Array Value) (v : Value) (bs : List UInt8) : Prop where
  low : Below w.heap.size w W
  k0 : W.heap[w.heap.size]? = some (.cells rm 65 (0, 0))
  ow : W.ownsRow (w.heap.size + 1) 5 1 v bs.length (bs.map B8)
theorem G13.below {w W W' : World} {rm : Array Value} {v : Value} {bs : List UInt8} (h : G13 w W rm v bs) (hb : Below W.heap.size W W') : G13 w W' rm v bs :=
  ⟨h.low.trans (hb.mono h.low.size), keepB h.k0 hb, ownsRow_keep h.ow (fun q hq => hb.block q (ownsRow_lt h.ow hq).2)⟩
/-- What a part of the reference's Gather reads. -/
structure GS13 (w W : World) (rm : Array Value) (b o c : Nat) (s : Sg) : Prop where
  k0 : W.heap[w.heap.size]? = some (.cells rm 65 (0, 0))
  c0 : W.cell? ⟨b, o + c * 3, none⟩ = some (.int .u32 s.at_)
  c1 : W.cell? ⟨b, o + c * 3 + 1, none⟩ = some (.int .i64 s.n)
set_option maxRecDepth 100000 in
set_option maxHeartbeats 16000000 in
theorem ref13_Gather (m : Mm) (b1 cc1 b2 n2 c2 : Nat) (qq : Int) (ao : Option Addr) (l : List Sg) (cap : Nat) (w : World) (r : Row w b1 5 (4096 * m.n) (cellU m.f)) (hcc : 4096 * m.n ≤ cc1) (hmn : m.n ≤ 16384) (hl : SegsAt w ao l (fun _ => False)) (hok : PartsOk m l) (hsm : ∀ s ∈ l, s.n ≤ 1048576) (hlen : l.length ≤ 4294967296) (hbig : (gath m l).length ≤ 1099511627776) :
    Calls Tryd.prog 50 #[.agg (refC b1 (4096 * m.n) cc1 b2 n2 c2 qq), .slice ao l.length cap] w (Bytes13Post w (gath m l)) := by
  have HB := Lib.hid ((Below.refl w.heap.size w).alloc (Nat.le_refl _) (.cells (refC b1 (4096 * m.n) cc1 b2 n2 c2 qq) 65))
  have K0 := Lib.hid (heap_alloc_new w (.cells (refC b1 (4096 * m.n) cc1 b2 n2 c2 qq) 65))
  have HTH := Lib.hid (fun W (s : Sg) (hs : s ∈ l) => ref13_there (4096 * m.n) b1 cc1 b2 n2 c2 qq s.at_ s.n W (hok s hs).1 (hsm s hs) (by omega))
  have HRD := Lib.hid (fun W (s : Sg) (hs : s ∈ l) (hn : ¬ s.n = 0) => ref6_Read_ok b1 (4096 * m.n) cc1 b2 n2 c2 qq (s.at_ - 2147483648) s.n W (by omega) ((hok s hs).2.resolve_left hn).2 hcc (by omega))
  have HRW := Lib.hid (And.intro r (And.intro hcc hmn))
  have HSA := Lib.hid hl
  have HOK := Lib.hid hok
  have HBIG := Lib.hid (And.intro hbig hlen)
  have hl0 : (0 : Int) ≤ (l.length : Int) := by omega
  obtain ⟨rc, hrc⟩ : ∃ rc, rc = refC b1 (4096 * m.n) cc1 b2 n2 c2 qq := ⟨_, rfl⟩
  rw [← hrc] at K0 HB HTH HRD ⊢
  have HIR : Hid ((Tryd.prog.info? 65).map (·.size) = some rc.toList.length) := Lib.hid (by rw [hrc]; kernel_rfl)
  obtain ⟨i0, hi0, hz0, hz1, hz2⟩ := info_of info_u8
  clear r hcc hmn hl hok hsm hbig hlen hrc
  obtain ⟨L, hL⟩ : ∃ L, L = l.length := ⟨_, rfl⟩
  have HL := Lib.hid hL
  rw [← hL] at hl0 ⊢
  clear hL
  go_enter Tryd.func50, Tryd.ntmps50
  go_wp2_with fail
  change Code.wp _ _ _ _ (w.alloc (.cells rc 65))
  generalize w.alloc (.cells rc 65) = w1 at HB K0 ⊢
  go_loopw [6, 7] (fun v i wr => ∃ (c : Nat) (av : Option Addr) (cv : Nat), c ≤ L ∧ i = .int .i64 c ∧ v = .slice av (gath m (l.take c)).length cv ∧ G13 w wr rc (.slice av (gath m (l.take c)).length cv) (gath m (l.take c))) (fun v i _ => L - (intOf i).toNat)
  case atStart => exact ⟨0, none, 0, by omega, rfl, rfl, HB.out, K0.out, World.ownsRow_nil _ _ _ _⟩
  case round =>
    obtain ⟨c, av, cv, hc, rfl, rfl, hg⟩ := hrel
    have HG := Lib.hid hg
    clear hg HB K0
    have hc0 : (0 : Int) ≤ (c : Int) := by omega
    have hcL : (c : Int) ≤ (L : Int) := by omega
    obtain ⟨n, hn⟩ : ∃ n, n = (gath m (l.take c)).length := ⟨_, rfl⟩
    rw [← hn]
    have HN := Lib.hid hn
    clear hn
    by_cases hlt : c < L
    · have hlt' : (c : Int) < (L : Int) := by omega
      have hinc : wrap64 ((c : Int) + 1) = ((c + 1 : Nat) : Int) := by have := HBIG.out.2; have := HL.out; unfold wrap64; omega
      have hinc2 : IntKind.i64.wrap ((c : Int) + 1) = ((c + 1 : Nat) : Int) := by rw [IntKind.wrap_i64]; have := HBIG.out.2; have := HL.out; omega
      obtain ⟨s, hs⟩ : ∃ s, l[c]? = some s := ⟨l[c]'(by have := HL.out; omega), List.getElem?_eq_getElem (by have := HL.out; omega)⟩
      have hmem : s ∈ l := List.mem_of_getElem? hs
      have HS := Lib.hid (And.intro hs hmem)
      obtain ⟨b, o, rfl, hb, hbf, hcell⟩ := HSA.out (fun e => by rw [e] at hs; simp at hs)
      have HGS : Hid (∀ W, Below w.heap.size w W → W.heap[w.heap.size]? = some (.cells rc 65 (0, 0)) → GS13 w W rc b o c s) := Lib.hid (fun W hW hk => ⟨hk, (hW.cell (p := ⟨b, o + c * 3, none⟩) hb).trans ((hcell c s 0 hs (by omega)).trans rfl), (hW.cell (p := ⟨b, o + c * 3 + 1, none⟩) hb).trans ((hcell c s 1 hs (by omega)).trans rfl)⟩)
      have c1 := (HGS.out wr HG.out.low HG.out.k0).c1
      have c2 := (HG.out.low.cell (p := ⟨b, o + c * 3 + 2, none⟩) hb).trans ((hcell c s 2 hs (by omega)).trans (rfl : _ = some (.bool s.wr : Value)))
      have hsn0 : (0 : Int) ≤ (s.n : Int) := by omega
      clear hcell hb hbf hs hmem hlt
      cases hw : s.wr with
      | true =>
        rw [hw] at c2
        have HG2 := Lib.hid (show gath m (l.take (c + 1)) = gath m (l.take c) from by rw [gath_take m l c s HS.out.1, if_pos hw, List.append_nil])
        clear hw
        go_wp2_with fail
        go_roundw
        case rel => exact ⟨c + 1, av, cv, by omega, by first | rfl | go_num, by rw [HG2.out, ← HN.out], by rw [HG2.out]; exact HG.out⟩
        case measure => simp [intOf]; omega
      | false =>
        rw [hw] at c2
        have HW := Lib.hid (show ¬ s.wr = true by rw [hw]; simp)
        clear hw
        by_cases hn0 : s.n = 0
        · have HN0 := Lib.hid hn0
          rw [hn0] at c1
          clear hn0 hsn0
          have HG2 := Lib.hid (show gath m (l.take (c + 1)) = gath m (l.take c) from by rw [gath_take m l c s HS.out.1, if_neg HW.out, HN0.out, show cut m.f (s.at_ - 2147483648) 0 = [] from rfl, List.append_nil])
          go_wp2_with fail
          go_roundw
          case rel => exact ⟨c + 1, av, cv, by omega, by first | rfl | go_num, by rw [HG2.out, ← HN.out], by rw [HG2.out]; exact HG.out⟩
          case measure => simp [intOf]; omega
        · have e0 : ((s.n : Int) == 0) = false := by simp; omega
          have hnl : ¬ (s.n : Int) < 0 := by omega
          have HT := Lib.hid (fun W => HTH.out W s HS.out.2)
          rw [show decide (s.n = 0 ∨ (2147483648 ≤ s.at_ ∧ s.at_ - 2147483648 + s.n ≤ 4096 * m.n)) = true from decide_eq_true (HOK.out s HS.out.2).2] at HT
          have HR := Lib.hid (fun W => HRD.out W s HS.out.2 hn0)
          obtain ⟨y, hy⟩ : ∃ y, y = s.at_ - 2147483648 := ⟨_, rfl⟩
          have hlies := (HOK.out s HS.out.2).2.resolve_left hn0
          have hsub : IntKind.u32.wrap ((s.at_ : Int) - 2147483648) = (y : Int) := by rw [IntKind.wrap_u32]; have := (HOK.out s HS.out.2).1; have := hlies.1; omega
          have hsub2 : ((s.at_ : Int) - 2147483648) % 4294967296 = (y : Int) := by have := (HOK.out s HS.out.2).1; have := hlies.1; omega
          have HGT := Lib.hid (show gath m (l.take (c + 1)) = gath m (l.take c) ++ cut m.f (s.at_ - 2147483648) s.n from by rw [gath_take m l c s HS.out.1, if_neg HW.out])
          have HGL := Lib.hid (gath_le m l (c + 1))
          have HNP := Lib.hid hn0
          have HLI : Hid (y + s.n ≤ 4096 * m.n) := Lib.hid (by rw [hy]; exact hlies.2)
          rw [← hy] at HR HGT
          clear hn0 hy hlies
          go_upto_region 6 with fail
          clear c1 c2
          have HD0 : Hid (G13 w wr.drew rc (.slice av n cv) (gath m (l.take c))) := Lib.hid (by rw [HN.out]; exact HG.out.below (Below.refl _ _).drew)
          refine wp_region_held_drew (S := fun W => GS13 w W rc b o c s) (by kernel_rfl) (HGS.out _ HD0.out.low HD0.out.k0) (fun hH0 => ?_)
          refine wpAnyH_take (i := 0) (v := ?v0x) rfl (by kernel_rfl) (by kernel_rfl) (by kernel_rfl) (fun _ _ _ h => h) (Or.inl ⟨by rfl, ?hy0x⟩) (by assumption) ?rest0x
          case hy0x => (intro W hSw; go_simp; first | done | with_reducible rfl)
          simp only [Act.put, List.getElem_toArray, List.getElem_cons_zero, List.setIfInBounds_toArray, List.set_cons_zero, List.set_cons_succ]
          refine wpAnyH_take (i := 1) (v := ?v1x) rfl (by kernel_rfl) (by kernel_rfl) (by kernel_rfl) (fun _ _ _ h => h) (Or.inl ⟨by rfl, ?hy1x⟩) (by assumption) ?rest1x
          case hy1x => (intro W hSw; go_simp; first | done | with_reducible rfl)
          simp only [Act.put, List.getElem_toArray, List.getElem_cons_zero, List.getElem_cons_succ, List.setIfInBounds_toArray, List.set_cons_zero, List.set_cons_succ]
          refine wpAnyH_take (i := 2) (v := ?v2x) rfl (by kernel_rfl) (by kernel_rfl) (by kernel_rfl) (fun _ _ _ h => h) (Or.inl ⟨by rfl, ?hy2x⟩) (by assumption) ?rest2x
          case hy2x => (intro W hSw; go_simp; first | done | with_reducible rfl)
          simp only [Act.put, List.getElem_toArray, List.getElem_cons_zero, List.getElem_cons_succ, List.setIfInBounds_toArray, List.set_cons_zero, List.set_cons_succ]
          refine wpAnyH_take (i := 3) (v := ?v3x) rfl (by kernel_rfl) (by kernel_rfl) (by kernel_rfl) (fun _ _ _ h => h) (Or.inl ⟨by rfl, ?hy3x⟩) (by assumption) ?rest3x
          case hy3x => (intro W hSw; go_simp; first | done | with_reducible rfl)
          simp only [Act.put, List.getElem_toArray, List.getElem_cons_zero, List.getElem_cons_succ, List.setIfInBounds_toArray, List.set_cons_zero, List.set_cons_succ]
          refine wpAnyH_take (i := 4) (v := ?v4x) rfl (by kernel_rfl) (by kernel_rfl) (by kernel_rfl) (fun _ _ _ h => h) (Or.inl ⟨by rfl, ?hy4x⟩) (by assumption) ?rest4x
          case hy4x => (intro W hSw; have hc1 := hSw.c1; go_simp; first | done | with_reducible rfl)
          simp only [Act.put, List.getElem_toArray, List.getElem_cons_zero, List.getElem_cons_succ, List.setIfInBounds_toArray, List.set_cons_zero, List.set_cons_succ]
          refine wpAnyH_take (i := 5) (v := ?v5x) rfl (by kernel_rfl) (by kernel_rfl) (by kernel_rfl) (fun _ _ _ h => h) (Or.inl ⟨by rfl, ?hy5x⟩) (by assumption) ?rest5x
          case hy5x => (intro W hSw; go_simp; first | done | with_reducible rfl)
          simp only [Act.put, List.getElem_toArray, List.getElem_cons_zero, List.getElem_cons_succ, List.setIfInBounds_toArray, List.set_cons_zero, List.set_cons_succ]
          refine wpAnyH_take (i := 6) (v := ?v6x) rfl (by kernel_rfl) (by kernel_rfl) (by kernel_rfl) (fun _ _ _ h => h) (Or.inl ⟨by rfl, ?hy6x⟩) (by assumption) ?rest6x
          case hy6x => (intro W hSw; go_simp; first | done | with_reducible rfl)
          simp only [Act.put, List.getElem_toArray, List.getElem_cons_zero, List.getElem_cons_succ, List.setIfInBounds_toArray, List.set_cons_zero, List.set_cons_succ]
          refine wpAnyH_take (i := 7) rfl (by kernel_rfl) (by kernel_rfl) (by kernel_rfl) (fun _ _ _ h => h) (yieldsIf_load_mid (by rfl) 65 _ rfl w.heap.size 0 rfl rc.toList _ (fun W hSw => row_range13 hSw.k0) Tryd.underlying65 rfl ?hi7x) (by assumption) ?rest7x
          case hi7x => exact HIR.out
          simp only [Act.put, List.getElem_toArray, List.getElem_cons_zero, List.getElem_cons_succ, List.setIfInBounds_toArray, List.set_cons_zero, List.set_cons_succ]
          refine wpAnyH_take (i := 8) (v := ?v8x) rfl (by kernel_rfl) (by kernel_rfl) (by kernel_rfl) (fun _ _ _ h => h) (Or.inl ⟨by rfl, ?hy8x⟩) (by assumption) ?rest8x
          case hy8x => (intro W hSw; go_simp; first | done | with_reducible rfl)
          simp only [Act.put, List.getElem_toArray, List.getElem_cons_zero, List.getElem_cons_succ, List.setIfInBounds_toArray, List.set_cons_zero, List.set_cons_succ]
          refine wpAnyH_take (i := 9) (v := ?v9x) rfl (by kernel_rfl) (by kernel_rfl) (by kernel_rfl) (fun _ _ _ h => h) (Or.inl ⟨by rfl, ?hy9x⟩) (by assumption) ?rest9x
          case hy9x => (intro W hSw; go_simp; first | done | with_reducible rfl)
          simp only [Act.put, List.getElem_toArray, List.getElem_cons_zero, List.getElem_cons_succ, List.setIfInBounds_toArray, List.set_cons_zero, List.set_cons_succ]
          refine wpAnyH_take (i := 10) (v := ?v10x) rfl (by kernel_rfl) (by kernel_rfl) (by kernel_rfl) (fun _ _ _ h => h) (Or.inl ⟨by rfl, ?hy10x⟩) (by assumption) ?rest10x
          case hy10x => (intro W hSw; go_simp; first | done | with_reducible rfl)
          simp only [Act.put, List.getElem_toArray, List.getElem_cons_zero, List.getElem_cons_succ, List.setIfInBounds_toArray, List.set_cons_zero, List.set_cons_succ]
          refine wpAnyH_take (i := 11) (v := ?v11x) rfl (by kernel_rfl) (by kernel_rfl) (by kernel_rfl) (fun _ _ _ h => h) (Or.inl ⟨by rfl, ?hy11x⟩) (by assumption) ?rest11x
          case hy11x => (intro W hSw; go_simp; first | done | with_reducible rfl)
          simp only [Act.put, List.getElem_toArray, List.getElem_cons_zero, List.getElem_cons_succ, List.setIfInBounds_toArray, List.set_cons_zero, List.set_cons_succ]
          refine wpAnyH_take (i := 12) (v := ?v12x) rfl (by kernel_rfl) (by kernel_rfl) (by kernel_rfl) (fun _ _ _ h => h) (Or.inl ⟨by rfl, ?hy12x⟩) (by assumption) ?rest12x
          case hy12x => (intro W hSw; have hc0' := hSw.c0; go_simp; first | done | with_reducible rfl)
          simp only [Act.put, List.getElem_toArray, List.getElem_cons_zero, List.getElem_cons_succ, List.setIfInBounds_toArray, List.set_cons_zero, List.set_cons_succ]
          refine wpAnyH_take (i := 13) (v := ?v13x) rfl (by kernel_rfl) (by kernel_rfl) (by kernel_rfl) (fun _ _ _ h => h) (Or.inl ⟨by rfl, ?hy13x⟩) (by assumption) ?rest13x
          case hy13x => (intro W hSw; go_simp; first | done | with_reducible rfl)
          simp only [Act.put, List.getElem_toArray, List.getElem_cons_zero, List.getElem_cons_succ, List.setIfInBounds_toArray, List.set_cons_zero, List.set_cons_succ]
          refine wpAnyH_take (i := 14) (v := ?v14x) rfl (by kernel_rfl) (by kernel_rfl) (by kernel_rfl) (fun _ _ _ h => h) (Or.inl ⟨by rfl, ?hy14x⟩) (by assumption) ?rest14x
          case hy14x => (intro W hSw; go_simp; first | done | with_reducible rfl)
          simp only [Act.put, List.getElem_toArray, List.getElem_cons_zero, List.getElem_cons_succ, List.setIfInBounds_toArray, List.set_cons_zero, List.set_cons_succ]
          refine wpAnyH_take (i := 15) (v := ?v15x) rfl (by kernel_rfl) (by kernel_rfl) (by kernel_rfl) (fun _ _ _ h => h) (Or.inl ⟨by rfl, ?hy15x⟩) (by assumption) ?rest15x
          case hy15x => (intro W hSw; go_simp; first | done | with_reducible rfl)
          simp only [Act.put, List.getElem_toArray, List.getElem_cons_zero, List.getElem_cons_succ, List.setIfInBounds_toArray, List.set_cons_zero, List.set_cons_succ]
          refine wpAnyH_take (i := 16) (v := ?v16x) rfl (by kernel_rfl) (by kernel_rfl) (by kernel_rfl) (fun _ _ _ h => h) (Or.inl ⟨by rfl, ?hy16x⟩) (by assumption) ?rest16x
          case hy16x => (intro W hSw; go_simp; first | done | with_reducible rfl)
          simp only [Act.put, List.getElem_toArray, List.getElem_cons_zero, List.getElem_cons_succ, List.setIfInBounds_toArray, List.set_cons_zero, List.set_cons_succ]
          refine wpAnyH_take (i := 17) (v := ?v17x) rfl (by kernel_rfl) (by kernel_rfl) (by kernel_rfl) (fun _ _ _ h => h) (Or.inl ⟨by rfl, ?hy17x⟩) (by assumption) ?rest17x
          case hy17x => (intro W hSw; have hc1 := hSw.c1; go_simp; first | done | with_reducible rfl)
          simp only [Act.put, List.getElem_toArray, List.getElem_cons_zero, List.getElem_cons_succ, List.setIfInBounds_toArray, List.set_cons_zero, List.set_cons_succ]
          refine wpAnyH_ready (rs := [18]) (by kernel_rfl) (by simp) ?_
          refine AllReadyH.cons (o := _) rfl (fun K hK => ?_) (AllReadyH.nil)
          simp only [List.getElem_toArray, List.getElem_cons_zero, List.getElem_cons_succ]
          try rw [if_pos (by rfl)]
          go_simp
          refine (HT.out _).mono ?_
          rintro e w2 ⟨rfl, hb⟩
          have HD2 := Lib.hid (HD0.out.below hb)
          refine hK.out _ _ (HGS.out _ HD2.out.low HD2.out.k0) (fun hH1 => ?_)
          clear hK K hH0 hb
          try simp only [Act.put, List.setIfInBounds_toArray, List.set_cons_zero, List.set_cons_succ]
          refine wpAnyH_take (i := 19) (v := ?v19x) rfl (by kernel_rfl) (by kernel_rfl) (by kernel_rfl) (fun _ _ _ h => h) (Or.inl ⟨by rfl, ?hy19x⟩) (by assumption) ?rest19x
          case hy19x => (intro W hSw; go_simp; first | done | with_reducible rfl)
          simp only [Act.put, List.getElem_toArray, List.getElem_cons_zero, List.getElem_cons_succ, List.setIfInBounds_toArray, List.set_cons_zero, List.set_cons_succ]
          refine wpAnyH_take (i := 20) (v := ?v20x) rfl (by kernel_rfl) (by kernel_rfl) (by kernel_rfl) (fun _ _ _ h => h) (Or.inl ⟨by rfl, ?hy20x⟩) (by assumption) ?rest20x
          case hy20x => (intro W hSw; go_simp; first | done | with_reducible rfl)
          simp only [Act.put, List.getElem_toArray, List.getElem_cons_zero, List.getElem_cons_succ, List.setIfInBounds_toArray, List.set_cons_zero, List.set_cons_succ]
          refine wpAnyH_done (by kernel_rfl) ?_ _
          clear hH1
          clear HT HD0
          go_upto_region 8 with fail
          have HD3 : Hid (G13 w w2.drew rc (.slice av n cv) (gath m (l.take c))) := Lib.hid (HD2.out.below (Below.refl _ _).drew)
          refine wp_region_held_drew (S := fun W => GS13 w W rc b o c s) (by kernel_rfl) (HGS.out _ HD3.out.low HD3.out.k0) (fun hH0 => ?_)
          refine wpAnyH_take (i := 0) rfl (by kernel_rfl) (by kernel_rfl) (by kernel_rfl) (fun _ _ _ h => h) (yieldsIf_load_mid (by rfl) 65 _ rfl w.heap.size 0 rfl rc.toList _ (fun W hSw => row_range13 hSw.k0) Tryd.underlying65 rfl ?hi0y) (by assumption) ?rest0y
          case hi0y => exact HIR.out
          simp only [Act.put, List.getElem_toArray, List.getElem_cons_zero, List.setIfInBounds_toArray, List.set_cons_zero, List.set_cons_succ]
          refine wpAnyH_take (i := 1) (v := ?v1y) rfl (by kernel_rfl) (by kernel_rfl) (by kernel_rfl) (fun _ _ _ h => h) (Or.inl ⟨by rfl, ?hy1y⟩) (by assumption) ?rest1y
          case hy1y => (intro W hSw; go_simp; first | done | with_reducible rfl)
          simp only [Act.put, List.getElem_toArray, List.getElem_cons_zero, List.getElem_cons_succ, List.setIfInBounds_toArray, List.set_cons_zero, List.set_cons_succ]
          refine wpAnyH_take (i := 2) (v := ?v2y) rfl (by kernel_rfl) (by kernel_rfl) (by kernel_rfl) (fun _ _ _ h => h) (Or.inl ⟨by rfl, ?hy2y⟩) (by assumption) ?rest2y
          case hy2y => (intro W hSw; go_simp; first | done | with_reducible rfl)
          simp only [Act.put, List.getElem_toArray, List.getElem_cons_zero, List.getElem_cons_succ, List.setIfInBounds_toArray, List.set_cons_zero, List.set_cons_succ]
          refine wpAnyH_take (i := 3) (v := ?v3y) rfl (by kernel_rfl) (by kernel_rfl) (by kernel_rfl) (fun _ _ _ h => h) (Or.inl ⟨by rfl, ?hy3y⟩) (by assumption) ?rest3y
          case hy3y => (intro W hSw; go_simp; first | done | with_reducible rfl)
          simp only [Act.put, List.getElem_toArray, List.getElem_cons_zero, List.getElem_cons_succ, List.setIfInBounds_toArray, List.set_cons_zero, List.set_cons_succ]
          refine wpAnyH_take (i := 4) (v := ?v4y) rfl (by kernel_rfl) (by kernel_rfl) (by kernel_rfl) (fun _ _ _ h => h) (Or.inl ⟨by rfl, ?hy4y⟩) (by assumption) ?rest4y
          case hy4y => (intro W hSw; go_simp; first | done | with_reducible rfl)
          simp only [Act.put, List.getElem_toArray, List.getElem_cons_zero, List.getElem_cons_succ, List.setIfInBounds_toArray, List.set_cons_zero, List.set_cons_succ]
          refine wpAnyH_take (i := 5) (v := ?v5y) rfl (by kernel_rfl) (by kernel_rfl) (by kernel_rfl) (fun _ _ _ h => h) (Or.inl ⟨by rfl, ?hy5y⟩) (by assumption) ?rest5y
          case hy5y => (intro W hSw; have hc0' := hSw.c0; go_simp; first | done | with_reducible rfl)
          simp only [Act.put, List.getElem_toArray, List.getElem_cons_zero, List.getElem_cons_succ, List.setIfInBounds_toArray, List.set_cons_zero, List.set_cons_succ]
          refine wpAnyH_take (i := 6) (v := ?v6y) rfl (by kernel_rfl) (by kernel_rfl) (by kernel_rfl) (fun _ _ _ h => h) (Or.inl ⟨by rfl, ?hy6y⟩) (by assumption) ?rest6y
          case hy6y => (intro W hSw; go_simp; first | done | with_reducible rfl)
          simp only [Act.put, List.getElem_toArray, List.getElem_cons_zero, List.getElem_cons_succ, List.setIfInBounds_toArray, List.set_cons_zero, List.set_cons_succ]
          refine wpAnyH_take (i := 7) (v := ?v7y) rfl (by kernel_rfl) (by kernel_rfl) (by kernel_rfl) (fun _ _ _ h => h) (Or.inl ⟨by rfl, ?hy7y⟩) (by assumption) ?rest7y
          case hy7y => (intro W hSw; go_simp; first | done | with_reducible rfl)
          simp only [Act.put, List.getElem_toArray, List.getElem_cons_zero, List.getElem_cons_succ, List.setIfInBounds_toArray, List.set_cons_zero, List.set_cons_succ]
          refine wpAnyH_take (i := 8) (v := ?v8y) rfl (by kernel_rfl) (by kernel_rfl) (by kernel_rfl) (fun _ _ _ h => h) (Or.inl ⟨by rfl, ?hy8y⟩) (by assumption) ?rest8y
          case hy8y => (intro W hSw; go_simp; first | done | with_reducible rfl)
          simp only [Act.put, List.getElem_toArray, List.getElem_cons_zero, List.getElem_cons_succ, List.setIfInBounds_toArray, List.set_cons_zero, List.set_cons_succ]
          refine wpAnyH_take (i := 9) (v := ?v9y) rfl (by kernel_rfl) (by kernel_rfl) (by kernel_rfl) (fun _ _ _ h => h) (Or.inl ⟨by rfl, ?hy9y⟩) (by assumption) ?rest9y
          case hy9y => (intro W hSw; go_simp; first | done | with_reducible rfl)
          simp only [Act.put, List.getElem_toArray, List.getElem_cons_zero, List.getElem_cons_succ, List.setIfInBounds_toArray, List.set_cons_zero, List.set_cons_succ]
          refine wpAnyH_take (i := 10) (v := ?v10y) rfl (by kernel_rfl) (by kernel_rfl) (by kernel_rfl) (fun _ _ _ h => h) (Or.inl ⟨by rfl, ?hy10y⟩) (by assumption) ?rest10y
          case hy10y => (intro W hSw; go_simp; first | done | with_reducible rfl)
          simp only [Act.put, List.getElem_toArray, List.getElem_cons_zero, List.getElem_cons_succ, List.setIfInBounds_toArray, List.set_cons_zero, List.set_cons_succ]
          refine wpAnyH_take (i := 11) (v := ?v11y) rfl (by kernel_rfl) (by kernel_rfl) (by kernel_rfl) (fun _ _ _ h => h) (Or.inl ⟨by rfl, ?hy11y⟩) (by assumption) ?rest11y
          case hy11y => (intro W hSw; have hc1 := hSw.c1; go_simp; first | done | with_reducible rfl)
          simp only [Act.put, List.getElem_toArray, List.getElem_cons_zero, List.getElem_cons_succ, List.setIfInBounds_toArray, List.set_cons_zero, List.set_cons_succ]
          refine wpAnyH_ready (rs := [12]) (by kernel_rfl) (by simp) ?_
          refine AllReadyH.cons (o := _) rfl (fun K hK => ?_) (AllReadyH.nil)
          simp only [List.getElem_toArray, List.getElem_cons_zero, List.getElem_cons_succ]
          try rw [if_pos (by rfl)]
          go_simp
          refine (HR.out _).mono ?_
          rintro e w4 ⟨rfl, hb⟩
          have HD4 := Lib.hid (HD3.out.below hb)
          refine hK.out _ _ (HGS.out _ HD4.out.low HD4.out.k0) (fun hH1 => ?_)
          clear hK K hH0 hb
          try simp only [Act.put, List.setIfInBounds_toArray, List.set_cons_zero, List.set_cons_succ]
          refine wpAnyH_take (i := 13) (v := ?v13y) rfl (by kernel_rfl) (by kernel_rfl) (by kernel_rfl) (fun _ _ _ h => h) (Or.inl ⟨by rfl, ?hy13y⟩) (by assumption) ?rest13y
          case hy13y => (intro W hSw; go_simp; first | done | with_reducible rfl)
          simp only [Act.put, List.getElem_toArray, List.getElem_cons_zero, List.getElem_cons_succ, List.setIfInBounds_toArray, List.set_cons_zero, List.set_cons_succ]
          refine wpAnyH_take (i := 14) (v := ?v14y) rfl (by kernel_rfl) (by kernel_rfl) (by kernel_rfl) (fun _ _ _ h => h) (Or.inl ⟨by rfl, ?hy14y⟩) (by assumption) ?rest14y
          case hy14y => (intro W hSw; go_simp; first | done | with_reducible rfl)
          simp only [Act.put, List.getElem_toArray, List.getElem_cons_zero, List.getElem_cons_succ, List.setIfInBounds_toArray, List.set_cons_zero, List.set_cons_succ]
          refine wpAnyH_take (i := 15) (v := ?v15y) rfl (by kernel_rfl) (by kernel_rfl) (by kernel_rfl) (fun _ _ _ h => h) (Or.inl ⟨by rfl, ?hy15y⟩) (by assumption) ?rest15y
          case hy15y => (intro W hSw; go_simp; first | done | with_reducible rfl)
          simp only [Act.put, List.getElem_toArray, List.getElem_cons_zero, List.getElem_cons_succ, List.setIfInBounds_toArray, List.set_cons_zero, List.set_cons_succ]
          refine wpAnyH_take (i := 16) (v := ?v16y) rfl (by kernel_rfl) (by kernel_rfl) (by kernel_rfl) (fun _ _ _ h => h) (Or.inl ⟨by rfl, ?hy16y⟩) (by assumption) ?rest16y
          case hy16y => (intro W hSw; go_simp; first | done | with_reducible rfl)
          simp only [Act.put, List.getElem_toArray, List.getElem_cons_zero, List.getElem_cons_succ, List.setIfInBounds_toArray, List.set_cons_zero, List.set_cons_succ]
          refine wpAnyH_take (i := 17) (v := ?v17y) rfl (by kernel_rfl) (by kernel_rfl) (by kernel_rfl) (fun _ _ _ h => h) (Or.inl ⟨by rfl, ?hy17y⟩) (by assumption) ?rest17y
          case hy17y => (intro W hSw; go_simp; first | done | with_reducible rfl)
          simp only [Act.put, List.getElem_toArray, List.getElem_cons_zero, List.getElem_cons_succ, List.setIfInBounds_toArray, List.set_cons_zero, List.set_cons_succ]
          refine wpAnyH_done (by kernel_rfl) ?_ _
          clear hH1
          clear HR HD3 HD2
          have HOW : Hid (w4.ownsRow (w.heap.size + 1) 5 1 (.slice av n cv) n ((gath m (l.take c)).map B8)) := Lib.hid (by have := HD4.out.ow; rw [← HN.out] at this; exact this)
          have HNW : Hid (∀ j u, ((cut m.f y s.n).map B8)[j]? = some u → w4.cell? ((⟨b1, y, none⟩ : Addr).add j) = some u) := Lib.hid (fun j u hu => by
            have hj : j < s.n := by have := (List.getElem?_eq_some_iff.1 hu).1; rwa [List.length_map, cut_length] at this
            rw [List.getElem?_map, cut_get _ _ _ _ hj] at hu
            rw [← Option.some.inj hu, Addr.add_lit]
            exact (HD4.out.low.cell (p := ⟨b1, y + j, none⟩) HRW.out.1.lt).trans (HRW.out.1.cell (by have := HLI.out; omega)))
          have HLT := Lib.hid (fun q hq => ownsRow_lt HOW.out (b := q) hq)
          have HNL : Hid (n + s.n = (gath m (l.take (c + 1))).length) := Lib.hid (by rw [HGT.out, List.length_append, cut_length, ← HN.out])
          have hsm : n + s.n ≤ 1099511627776 := by have h1 := HNL.out; have h2 := HGL.out; have h3 := HBIG.out.1; omega
          have HSMM := Lib.hid hsm
          clear hsm
          go_wp2_with (first | go_skip | (refine wpList_append_own_at (w := w4) rfl _ _ 62 rfl (w.heap.size + 1) 5 i0 _ 1 1 Tryd.underlying62 hi0 hz0 hz1 hz2 rfl (by omega) (.slice av n cv) n ((gath m (l.take c)).map B8) rfl HOW.out ⟨b1, y, none⟩ s.n (cc1 - y) _ rfl ?hl HNW.out ?h1 ?h63 ?hby ?hb ?hK))
          case hl => first | rw [List.length_map, cut_length, Nat.mul_one] | rw [cut_length]
          case h1 =>
            intro u hu
            obtain ⟨x, _, rfl⟩ := List.mem_map.1 hu
            rfl
          case h63 => have := HSMM.out; simp only [maxLen]; omega
          case hby => have := HSMM.out; omega
          case hb => exact Nat.lt_of_lt_of_le (Nat.lt_succ_self _) (lt_heap HD4.out.k0)
          intro v' w6 hown hgr _ hvb
          obtain ⟨av', cv', rfl⟩ := ownsRow_form hown
          rw [← List.map_append, ← HGT.out] at hown
          have H6 : Hid (G13 w w6 rc (.slice av' (gath m (l.take (c + 1))).length cv') (gath m (l.take (c + 1)))) := Lib.hid ⟨⟨hgr.os.trans HD4.out.low.os, hgr.tape.trans HD4.out.low.tape, hgr.output.trans HD4.out.low.output, Nat.le_trans HD4.out.low.size hgr.size, fun k hk => (hgr.block k (Nat.lt_of_lt_of_le hk HD4.out.low.size) (fun e => by have := HLT.out k e.symm; omega)).trans (HD4.out.low.block k hk)⟩, (hgr.block _ (lt_heap HD4.out.k0) (fun e => by have := HLT.out _ e.symm; omega)).trans HD4.out.k0, by rw [← HNL.out]; exact hown⟩
          clear hown hgr hvb
          go_wp2_with fail
          go_roundw
          case rel => exact ⟨c + 1, av', cv', by omega, by first | rfl | go_num, by rw [← HNL.out], H6.out⟩
          case measure => simp [intOf]; omega
    · obtain rfl : L = c := by omega
      have HT := Lib.hid (show l.take L = l from List.take_of_length_le (by rw [HL.out]; exact Nat.le_refl _))
      have HF : Hid (Bytes13Post w (gath m l) (.returned (.tuple #[.slice av n cv, .int .i64 0])) wr) := Lib.hid ⟨.slice av n cv, rfl, HG.out.low, gath_fin13 (HN.out.trans (by rw [HT.out])) (by have := HG.out.ow; rw [HT.out] at this; exact this)⟩
      go_wp2_with fail
      go_ret2
      exact HF.out
end Go.Proofs.YtcmbnkmbaghkdaaDoor
