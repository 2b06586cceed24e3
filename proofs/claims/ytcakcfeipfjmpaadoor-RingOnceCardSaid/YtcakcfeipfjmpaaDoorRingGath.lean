/-
ring.Gather, walked: the bytes that the device reads.
Condition: the table of regions of package bus reads as its text lays it; all parts lie in memory.
-/
import Derived.Test.YtcakcfeipfjmpaaDoorRingWalk
namespace Go.Proofs.YtcakcfeipfjmpaaDoor
open Go.RowKit
set_option linter.unusedVariables false

/-- The parts of a slice, at their places. -/
def SegsAt (W : World) (ao : Option Addr) (l : List Sg) (F : Nat → Prop) : Prop := l ≠ [] → ∃ b o, ao = some ⟨b, o, none⟩ ∧ b < W.heap.size ∧ ¬ F b ∧ ∀ k s r, l[k]? = some s → r < 3 → W.cell? ⟨b, o + k * 3 + r, none⟩ = s.c[r]?
theorem SegsAt.step {W W' : World} {ao : Option Addr} {l : List Sg} {F F' : Nat → Prop} (h : SegsAt W ao l F) (hs : MemStep F F' W W') : SegsAt W' ao l F' := fun hne => by
  obtain ⟨b, o, ha, hb, hf, hc⟩ := h hne
  exact ⟨b, o, ha, Nat.lt_of_lt_of_le hb hs.kx.size, hs.off hb hf, fun k s r hk hr => (hs.kx.cell (p := ⟨b, o + k * 3 + r, none⟩) hb hf).trans (hc k s r hk hr)⟩
theorem SegsAt.below {W W' : World} {ao : Option Addr} {l : List Sg} {F : Nat → Prop} (h : SegsAt W ao l F) (hb : Below W.heap.size W W') : SegsAt W' ao l F := h.step (MemStep.of_below hb)
theorem SegsAt.of_owns {w : World} {base n : Nat} {v : Value} {l : List Sg} {F : Nat → Prop} (h : w.ownsRow base 140 3 v n (flatS l)) (hf : ∀ b, v.ownBlock = some b → ¬ F b) : ∃ ao c, v = .slice ao n c ∧ n ≤ c ∧ l.length = n ∧ SegsAt w ao l F := by
  have hl : l.length = n := by have := h.1; rw [flatS_length] at this; omega
  rcases h.2 with ⟨rfl, rfl⟩ | ⟨g, cap, cur, rfl, hg, hh, hc, _⟩
  · exact ⟨none, 0, rfl, Nat.le_refl _, hl, fun hne => absurd (List.eq_nil_of_length_eq_zero hl) hne⟩
  · refine ⟨some ⟨g, 0, none⟩, cap, rfl, hc, hl, fun _ => ⟨g, 0, rfl, lt_heap hh, hf g rfl, fun k s r hk hr => ?_⟩⟩
    have hj' : k < n := by rw [← hl]; exact (List.getElem?_eq_some_iff.1 hk).1
    rw [Nat.zero_add, h.cellAt (k * 3 + r) (by omega)]
    exact flatS_get l k s r hk hr
/-- The bytes that the device reads. -/
def gath (m : Mm) (l : List Sg) : List UInt8 := l.flatMap fun s => if s.wr then [] else cut m.f (s.at_ - 2147483648) s.n
theorem gath_nil (m : Mm) : gath m [] = [] := rfl
theorem gath_snoc (m : Mm) (l : List Sg) (s : Sg) : gath m (l ++ [s]) = gath m l ++ (if s.wr then [] else cut m.f (s.at_ - 2147483648) s.n) := by simp [gath]
theorem gath_take (m : Mm) (l : List Sg) (c : Nat) (s : Sg) (h : l[c]? = some s) : gath m (l.take (c + 1)) = gath m (l.take c) ++ (if s.wr then [] else cut m.f (s.at_ - 2147483648) s.n) := by
  rw [List.take_add_one, h]
  exact gath_snoc m _ s
theorem gath_le (m : Mm) (l : List Sg) (c : Nat) : (gath m (l.take c)).length ≤ (gath m l).length := by
  conv => rhs; rw [← List.take_append_drop c l]
  simp only [gath, List.flatMap_append, List.length_append]
  omega
def PartsOk (m : Mm) (l : List Sg) : Prop := ∀ s, s ∈ l → s.at_ < 4294967296 ∧ lies m s.at_ s.n
def BytesPost (w : World) (g : Nat) (m : Mm) (F : Nat → Prop) (bs : List UInt8) (e : Ending) (w' : World) : Prop :=
  ∃ v F2, e = .returned (.tuple #[v, .nilIface]) ∧ RamIs w' g m F2 ∧ MemStep F F2 w w' ∧ w'.ownsRow w.heap.size 5 1 v bs.length (bs.map B8) ∧ ∀ b, v.ownBlock = some b → ¬ F2 b
set_option maxRecDepth 100000 in
set_option maxHeartbeats 8000000 in
theorem ring_Gather {g : Nat} {m : Mm} {F : Nat → Prop} {w : World} (ao : Option Addr) (l : List Sg) (cap : Nat) (h : RamIs w g m F) (hr : RegAt w) (hrf : ¬ F 1) (hl : SegsAt w ao l F) (hok : PartsOk m l) (hlen : l.length < 4611686018427387904) (hbig : (gath m l).length ≤ 1099511627776) :
    Calls Tryd.prog 44 #[.pointer (some ⟨g, 0, none⟩), .slice ao l.length cap] w (BytesPost w g m F (gath m l)) := by
  have HP : Hid (∀ W F' (s : Sg), s ∈ l → ¬ s.n = 0 → MemStep F F' w W → Calls Tryd.prog 84 #[.int .u32 s.at_] W fun e w' => e = .returned (.tuple #[.int .u32 ((s.at_ - 2147483648 : Nat) : Int), .nilIface]) ∧ Below W.heap.size W w') :=
    Lib.hid (fun W F' s hs hn hst => ring_place_in s.at_ W (hok s hs).1 ((hok s hs).2.resolve_left hn).1 (reg_step hr hst hrf).1)
  have HRD : Hid (∀ W F' (s : Sg), s ∈ l → ¬ s.n = 0 → RamIs W g m F' → Calls Tryd.prog 13 #[.pointer (some ⟨g, 0, none⟩), .int .u32 ((s.at_ - 2147483648 : Nat) : Int), .int .i64 s.n] W fun e w' => ∃ v F2, e = .returned (.tuple #[v, .nilIface]) ∧ RamIs w' g m F2 ∧ MemStep F' F2 W w' ∧ w'.ownsRow W.heap.size 5 1 v s.n ((cut m.f (s.at_ - 2147483648) s.n).map B8) ∧ (∀ b, v.ownBlock = some b → ¬ F2 b)) :=
    Lib.hid (fun W F' s hs hn hW => mem_Read_ok hW (s.at_ - 2147483648) s.n (by have := (hok s hs).1; omega) ((hok s hs).2.resolve_left hn).2)
  have HSA := Lib.hid hl
  have HH := Lib.hid h
  have HBIG := Lib.hid hbig
  have HOK := Lib.hid hok
  have hlen0 : (0 : Int) ≤ (l.length : Int) := by omega
  obtain ⟨i0, hi0, hz0, hz1, hz2⟩ := info_of info_u8
  clear h hl hr hrf hok hbig
  obtain ⟨L, hL⟩ : ∃ L, L = l.length := ⟨_, rfl⟩
  have HL := Lib.hid hL
  rw [← hL] at hlen hlen0 ⊢
  clear hL
  go_enter Tryd.func44, Tryd.ntmps44
  go_wp2_with fail
  go_loopw [6, 17] (fun v i wr => ∃ (c n : Nat) (F' : Nat → Prop), c ≤ L ∧ i = .int .i64 c ∧ n = (gath m (l.take c)).length ∧ RamIs wr g m F' ∧ MemStep F F' w wr ∧ wr.ownsRow w.heap.size 5 1 v n ((gath m (l.take c)).map B8) ∧ (∀ b, v.ownBlock = some b → ¬ F' b) ∧ ∃ av cv, v = .slice av n cv) (fun _ i _ => L - (intOf i).toNat)
  case atStart => exact ⟨0, 0, F, by omega, rfl, rfl, HH.out, MemStep.refl _ _, World.ownsRow_nil _ _ _ _, fun b hb => by simp [Value.ownBlock] at hb, none, 0, rfl⟩
  case round =>
    obtain ⟨c, n, F1, hc, rfl, hn, hri, hst, hown, hnf, av, cv, rfl⟩ := hrel
    have HR := Lib.hid (And.intro hri hst)
    have HO := Lib.hid hown
    have HF := Lib.hid hnf
    have HN := Lib.hid hn
    have hc0 : (0 : Int) ≤ (c : Int) := by omega
    clear hri hst hown hnf hn
    by_cases hlt : c < L
    · have hcl : (c : Int) < (L : Int) := by omega
      have hcll : c < l.length := by rw [← HL.out]; exact hlt
      obtain ⟨s, hs⟩ : ∃ s, l[c]? = some s := ⟨l[c], List.getElem?_eq_getElem hcll⟩
      have hmem : s ∈ l := List.mem_of_getElem? hs
      have HS := Lib.hid (And.intro hs hmem)
      obtain ⟨b, o, rfl, hb, hbf, hcell⟩ := HSA.out.step HR.out.2 (fun e => by rw [e] at hs; simp at hs)
      have HB := Lib.hid (And.intro hb hbf)
      have c0 := (hcell c s 0 hs (by omega)).trans (rfl : _ = some (.int .u32 s.at_ : Value))
      have c1 := (hcell c s 1 hs (by omega)).trans (rfl : _ = some (.int .i64 s.n : Value))
      have c2 := (hcell c s 2 hs (by omega)).trans (rfl : _ = some (.bool s.wr : Value))
      rw [Nat.add_zero] at c0
      clear hcell hb hbf hs hmem hcll hlt hc
      have hsn0 : (0 : Int) ≤ (s.n : Int) := by omega
      have HBA := Lib.hid ((Below.refl wr.heap.size wr).alloc (Nat.le_refl _) (.cells #[.int .u32 0, .int .i64 0, .bool false] 140))
      have KN := Lib.hid (heap_alloc_new wr (.cells #[.int .u32 0, .int .i64 0, .bool false] 140))
      have HR2 := Lib.hid (And.intro (HR.out.1.below HBA.out) (HR.out.2.below HBA.out))
      have HO2 := Lib.hid (ownsRow_keep HO.out (fun q hq => HBA.out.block q (ownsRow_lt HO.out hq).2))
      have HLT := Lib.hid (fun q hq => ownsRow_lt HO.out (b := q) hq)
      have HNs := Lib.hid (show ¬ F1 wr.heap.size from fun hf => absurd (HR.out.1.lt _ hf) (Nat.lt_irrefl _))
      have HSZ := Lib.hid HR.out.2.kx.size
      have HOC := Lib.hid (show (#[.int .u32 s.at_, .int .i64 s.n, .bool s.wr] : Array Value).all (·.oneCell') = true by simp [Value.oneCell'])
      go_wp2_with (first | go_skip | (refine wpList_store_to rfl 140 _ _ rfl wr.heap.size #[.int .u32 s.at_, .int .i64 s.n, .bool s.wr] rfl rfl 140 #[.int .u32 0, .int .i64 0, .bool false] KN.out (by kernel_rfl) rfl HOC.out ?_))
      intro w3 hx hk
      have KS := Lib.hid hk
      have HR3 := Lib.hid (And.intro (HR2.out.1.kx hx.out (fun k _ hf e => by subst e; exact HNs.out hf)) (HR2.out.2.own hx.out HSZ.out))
      have HO3 := Lib.hid (ownsRow_keep HO2.out (fun q hq => hx.out.block q (ownsRow_lt HO2.out hq).2 (by have := (HLT.out q hq).2; omega)))
      clear hx hk KN HR2 HO2 HBA HNs c0 c1 c2
      generalize wr.heap.size = bs at KS HLT HSZ ⊢
      have s0 := (cell_of_row _ _ 0 _ _ _ KS.out).trans (rfl : _ = some (.int .u32 s.at_ : Value))
      have s1 := (cell_of_row _ _ 1 _ _ _ KS.out).trans (rfl : _ = some (.int .i64 s.n : Value))
      have s2 := (cell_of_row _ _ 2 _ _ _ KS.out).trans (rfl : _ = some (.bool s.wr : Value))
      cases hw : s.wr with
      | true =>
        rw [hw] at s2
        have HW := Lib.hid hw
        clear hw
        have HG := Lib.hid (show gath m (l.take (c + 1)) = gath m (l.take c) from by rw [gath_take m l c s HS.out.1, if_pos HW.out, List.append_nil])
        go_wp2_with fail
        go_roundw
        case rel => exact ⟨c + 1, n, F1, by omega, by go_num, by rw [HG.out]; exact HN.out, HR3.out.1, HR3.out.2, by rw [HG.out]; exact HO3.out, HF.out, av, cv, rfl⟩
        case measure => simp [intOf]; omega

      | false =>
        rw [hw] at s2
        have HW := Lib.hid (show ¬ s.wr = true by rw [hw]; simp)
        clear hw
        by_cases hn0 : s.n = 0
        · have HN0 := Lib.hid hn0
          rw [hn0] at s1
          clear hn0 hsn0
          have HG := Lib.hid (show gath m (l.take (c + 1)) = gath m (l.take c) from by rw [gath_take m l c s HS.out.1, if_neg HW.out, HN0.out, show cut m.f (s.at_ - 2147483648) 0 = [] from rfl, List.append_nil])
          go_wp2_with fail
          go_roundw
          case rel => exact ⟨c + 1, n, F1, by omega, by go_num, by rw [HG.out]; exact HN.out, HR3.out.1, HR3.out.2, by rw [HG.out]; exact HO3.out, HF.out, av, cv, rfl⟩
          case measure => simp [intOf]; omega

        · have b1 : ((s.n : Int) == 0) = false := by simp; omega
          have HP1 := Lib.hid (HP.out w3 F1 s HS.out.2 hn0 HR3.out.2)
          have HRD1 := Lib.hid (fun W F' => HRD.out W F' s HS.out.2 hn0)
          have HG := Lib.hid (show gath m (l.take (c + 1)) = gath m (l.take c) ++ cut m.f (s.at_ - 2147483648) s.n from by rw [gath_take m l c s HS.out.1, if_neg HW.out])
          have HGL := Lib.hid (gath_le m l (c + 1))
          have HNP := Lib.hid hn0
          clear hn0
          generalize s.at_ - 2147483648 = x at HP1 HRD1 HG
          go_wp2_with fail
          refine (HP1.out).mono ?_
          rintro e w4 ⟨rfl, hb⟩
          have HR4 := Lib.hid (And.intro (HR3.out.1.below hb) (HR3.out.2.below hb))
          have HO4 := Lib.hid (ownsRow_keep HO3.out (fun q hq => hb.block q (ownsRow_lt HO3.out hq).2))
          have KS4 := Lib.hid (keepB KS.out hb)
          have HRD2 := Lib.hid (HRD1.out w4 F1 HR4.out.1)
          clear hb HR3 HO3 KS s0 s1 s2 HP1 HRD1
          have s1 := (cell_of_row _ _ 1 _ _ _ KS4.out).trans (rfl : _ = some (.int .i64 s.n : Value))
          go_wp2_with fail
          refine (HRD2.out).mono ?_
          rintro e w5 ⟨v, F5, rfl, h1, h2, h3, h4⟩
          obtain ⟨gv, cw, rfl⟩ : ∃ gv cw, v = .slice (some ⟨gv, 0, none⟩) s.n cw := by
            rcases h3.2 with ⟨rfl, he⟩ | ⟨gv, cw, cur, rfl, _⟩
            · exact absurd he HNP.out
            · exact ⟨gv, cw, rfl⟩
          have HR5 := Lib.hid (And.intro h1 (HR4.out.2.trans h2))
          have HO5 := Lib.hid (ownsRow_keep HO4.out (fun q hq => h2.kx.block q (ownsRow_lt HO4.out hq).2 (HF.out q hq)))
          have HF5 := Lib.hid (show ∀ q, (Value.slice av n cv).ownBlock = some q → ¬ F5 q from fun q hq => h2.off (ownsRow_lt HO4.out hq).2 (HF.out q hq))
          have HNK := Lib.hid (World.ownsRow.cells h3 (g := gv) rfl)
          have HLT5 := Lib.hid (fun q hq => ownsRow_lt HO5.out (b := q) hq)
          have HNL : Hid (n + s.n = (gath m (l.take (c + 1))).length) := Lib.hid (by rw [HG.out, List.length_append, cut_length, ← HN.out])
          have hsm : n + s.n ≤ 1099511627776 := by have h1 := HNL.out; have h2 := HGL.out; have h3 := HBIG.out; omega
          clear h1 h2 h3 h4 HR4 HO4 HRD2 s1 KS4
          go_wp2_with (refine wpList_append_own_at (w := w5) rfl _ _ 27 rfl w.heap.size 5 i0 _ 1 1 Tryd.underlying27 hi0 hz0 hz1 hz2 rfl (by omega) (.slice av n cv) n ((gath m (l.take c)).map B8) rfl HO5.out ⟨gv, 0, none⟩ s.n cw _ rfl ?hl HNK.out ?h1 ?h63 ?hby ?hb ?hK)
          case hl => rw [List.length_map, cut_length, Nat.mul_one]
          case h1 =>
            intro u hu
            obtain ⟨x, _, rfl⟩ := List.mem_map.1 hu
            rfl
          case h63 => simp only [maxLen]; omega
          case hby => omega
          case hb => exact HR5.out.2.kx.size
          intro v' w6 hown hgr _ hvb
          obtain ⟨av', cv', rfl⟩ := ownsRow_form hown
          rw [← List.map_append, ← HG.out] at hown
          have HO6 := Lib.hid hown
          have HR6 := Lib.hid (And.intro (HR5.out.1.grown hgr HF5.out) (HR5.out.2.grown hgr (fun b hb => (HLT5.out b hb).1)))
          have HF6 := Lib.hid (show ∀ q, (Value.slice av' (n + s.n) cv').ownBlock = some q → ¬ F5 q from fun q hq hf => by
            rcases hvb with e | e
            · exact HF5.out q (by rw [← e]; exact hq) hf
            · have e3 : q = _ := Option.some.inj (hq.symm.trans e)
              have hz := HR5.out.1.lt q hf
              omega)
          clear hown hgr hvb
          go_wp2_with fail
          go_roundw
          case rel => exact ⟨c + 1, n + s.n, F5, by omega, by go_num, HNL.out, HR6.out.1, HR6.out.2, HO6.out, HF6.out, av', cv', rfl⟩
          case measure => simp [intOf]; omega
    · obtain rfl : L = c := by omega
      have HT := Lib.hid (show l.take L = l from List.take_of_length_le (by rw [HL.out]; exact Nat.le_refl _))
      have HNT := Lib.hid (show n = (gath m l).length by rw [HN.out, HT.out])
      clear hlt hc
      go_wp2_with fail
      go_ret2
      exact ⟨_, F1, rfl, HR.out.1, HR.out.2, by rw [← HNT.out]; have h := HO.out; rw [HT.out] at h; exact h, HF.out⟩
end Go.Proofs.YtcakcfeipfjmpaaDoor
