/-
pinnacelaw06.MemBack, walked: it answers true.
No condition.
-/
import Derived.Test.YtaifhmmcnekopaaSure06
import Derived.Test.YtaifhmmcnekopaaOpenBytes
namespace Go.Proofs.Ytaifhmmcnekopaa
open Go.RowKit

theorem putL_getB (f : Nat → UInt8) (a : Nat) (l : List UInt8) (i : Nat) (h : i < l.length) : putL f a l (a + i) = l[i] := by
  unfold putL
  rw [if_pos (by omega), show a + i - a = i by omega, List.getElem?_eq_getElem h]
  rfl
theorem putL_outB (f : Nat → UInt8) (a : Nat) (l : List UInt8) (x : Nat) (h : x < a ∨ a + l.length ≤ x) : putL f a l x = f x := by
  unfold putL
  by_cases h1 : a ≤ x
  · rw [if_pos h1, List.getElem?_eq_none (by omega)]
    rfl
  · rw [if_neg h1]
theorem cut_putL (f : Nat → UInt8) (a : Nat) (l : List UInt8) : cut (putL f a l) a l.length = l := by
  apply List.ext_getElem?
  intro i
  by_cases hi : i < l.length
  · rw [cut_get _ _ _ _ hi, putL_getB _ _ _ _ hi, List.getElem?_eq_getElem hi]
  · rw [List.getElem?_eq_none (by rw [cut_length]; omega), List.getElem?_eq_none (by omega)]
def backM1 (j : Nat) : Mm := (Mm.new 3).store j 1 171
theorem backM1_n (j : Nat) : (backM1 j).n = 3 := rfl
theorem backM1_j (j : Nat) : (backM1 j).f j = 171 := by
  show putL (fun _ => 0) j (leB 1 171) j = 171
  have := putL_getB (fun _ => 0) j (leB 1 171) 0 (by rw [leB_length]; omega)
  rw [Nat.add_zero] at this
  rw [this]
  rfl
theorem write_fB (m : Mm) (a : Nat) (l : List UInt8) : (m.write a l).f = putL m.f a l := by unfold Mm.write; rfl
theorem write_nB (m : Mm) (a : Nat) (l : List UInt8) : (m.write a l).n = m.n := by unfold Mm.write; rfl
theorem gp_one (f : Nat → UInt8) (a : Nat) : gp f a 1 = (f a).toNat := by simp [gp]
theorem law_readB {g : Nat} {m : Mm} {F : Nat → Prop} {w : World} (h : RamIs w g m F) (a n : Nat) (ha : a < 4294967296) (hs : a + n ≤ 4096 * m.n) :
    Calls Try.prog 8 #[.pointer (some ⟨g, 0, none⟩), .int .u32 a, .int .i64 n] w fun e w' => ∃ ao c F', e = .returned (.tuple #[.slice ao (cut m.f a n).length c, .nilIface]) ∧ RamIs w' g m F' ∧ MemStep F F' w w' ∧ BytesAt w' ao (cut m.f a n) F' := by
  refine (mem_Read_ok h a n ha hs).mono ?_
  rintro e w' ⟨v, F', rfl, h1, h2, h3, h4⟩
  obtain ⟨ao, cv, rfl, hcv, hln, hba⟩ := BytesAt.of_owns h3 h4
  exact ⟨ao, cv, F', by rw [cut_length], h1, h2, hba⟩
set_option maxRecDepth 100000 in
set_option maxHeartbeats 8000000 in
theorem law_MemBack (at_ k : Nat) (ha : at_ < 4294967296) (hk : k < 4294967296) (ao : Option Addr) (l : List UInt8) (cap : Nat) (w : World) (hcap : l.length ≤ cap) (hmx : cap ≤ maxLen) (hb : BytesLie w ao l) :
    Calls Try.prog 3 #[.int .u32 at_, .slice ao l.length cap, .int .u32 k] w fun e w' => e = .returned (.bool true) ∧ Below w.heap.size w w' := by
  have HB := Lib.hid hb
  have HCAP := Lib.hid hcap
  have hl0 : (0 : Int) ≤ (l.length : Int) := by omega
  have hl1 : (l.length : Int) ≤ 9223372036854775807 := by simp only [maxLen] at hmx; omega
  have ha0 : (0 : Int) ≤ (at_ : Int) := by omega
  have ha1 : (at_ : Int) < 4294967296 := by omega
  have hk0 : (0 : Int) ≤ (k : Int) := by omega
  have hk1 : (k : Int) < 4294967296 := by omega
  have HN := Lib.hid (new_at 3 3 rfl w (by omega) (by omega))
  have HSU := Lib.hid sure06_ok
  have hen := err_nil_eql
  clear hb hcap hmx ha hk
  go_enter Try.func3, Try.ntmps3
  go_wp2_with fail
  refine (HN.out).mono ?_
  rintro e w1 ⟨g, F1, rfl, h1, h2, h3⟩
  have L1 := Lib.hid (LawMem.mk h1 h2 h3)
  clear h1 h2 h3 HN
  go_upto_region 5 with fail
  obtain ⟨i, hi⟩ : ∃ i : Nat, (i : Int) = (at_ : Int) % 12288 := ⟨at_ % 12288, by omega⟩
  obtain ⟨j, hj⟩ : ∃ j : Nat, (j : Int) = (k : Int) % 12288 := ⟨k % 12288, by omega⟩
  have hi1 : (i : Int) < 12288 := by omega
  have hj1 : (j : Int) < 12288 := by omega
  rw [← hi, ← hj]
  clear hi hj ha0 ha1 hk0 hk1
  have hi0 : (0 : Int) ≤ (i : Int) := by omega
  have hj0 : (0 : Int) ≤ (j : Int) := by omega
  have HST := Lib.hid (store_at L1.out.ram j 1 171 j 1 171 rfl rfl rfl (by omega) (.inl rfl) (by show j + 1 ≤ 4096 * 3; omega) (by omega))
  go_wp2_with fail
  refine (HST.out).mono ?_
  rintro e w2 ⟨F2, rfl, h1, h2⟩
  have L2 : Hid (LawMem w w2 g (backM1 j) F2) := Lib.hid (L1.out.step h1 h2)
  clear h1 h2 HST L1
  by_cases hA : 4000 < l.length
  · have b1 : decide ((4000 : Int) < (l.length : Int)) = true := decide_eq_true (by omega)
    clear hA
    go_wp2_with fail
    refine (HSU.out w2).mono ?_
    rintro e w3 ⟨rfl, hb⟩
    go_wp2_with fail
    go_ret
    exact ⟨rfl, L2.out.fr.trans (hb.mono L2.out.fr.size)⟩
  · have b1 : decide ((4000 : Int) < (l.length : Int)) = false := decide_eq_false (by omega)
    have hl4 : (l.length : Int) ≤ 4000 := by omega
    clear hl1
    by_cases hB : 12288 < i + l.length
    · have b2 : decide ((12288 : Int) < (i : Int) + (l.length : Int)) = true := decide_eq_true (by omega)
      clear hA hB
      go_wp2_with fail
      refine (HSU.out w2).mono ?_
      rintro e w3 ⟨rfl, hb⟩
      go_wp2_with fail
      go_ret
      exact ⟨rfl, L2.out.fr.trans (hb.mono L2.out.fr.size)⟩
    · have b2 : decide ((12288 : Int) < (i : Int) + (l.length : Int)) = false := decide_eq_false (by omega)
      have HBA : Hid (BytesAt w2 ao l F2) := Lib.hid (fun hne => by
        obtain ⟨b, o, e, hlt, hc⟩ := HB.out hne
        exact ⟨b, o, e, Nat.lt_of_lt_of_le hlt L2.out.fr.size, fun hf => by have := L2.out.lo _ hf; omega, fun j x hj => hc w2 L2.out.fr j x hj⟩)
      have HWR := Lib.hid (mem_Write_ok L2.out.ram i ao l cap (by omega) (by rw [backM1_n]; omega) HBA.out HCAP.out)
      have hil : i + l.length ≤ 12288 := by omega
      clear hA hB
      go_wp2_with fail
      refine (HWR.out).mono ?_
      rintro e w3 ⟨F3, rfl, h1, h2⟩
      have L3 := Lib.hid (L2.out.step h1 h2)
      have B3 := Lib.hid (HBA.out.kx h2)
      clear h1 h2 HWR L2 HBA
      have HRD := Lib.hid (law_readB L3.out.ram i l.length (by omega) (by rw [write_nB, backM1_n]; omega))
      rw [write_fB, cut_putL] at HRD
      go_wp2_with fail
      refine (HRD.out).mono ?_
      rintro e w4 ⟨ao2, c2, F4, rfl, h1, h2, h3⟩
      have L4 := Lib.hid (L3.out.step h1 h2)
      have B4 := Lib.hid (B3.out.kx h2)
      have C4 := Lib.hid h3
      clear h1 h2 h3 HRD L3 B3
      have HLD := Lib.hid (load_at L4.out.ram j 1 j 1 rfl rfl (by omega) (.inl rfl) (by rw [write_nB, backM1_n]; omega) (by omega))
      rw [gp_one, write_fB] at HLD
      go_wp2_with fail
      refine (HLD.out).mono ?_
      rintro e w5 ⟨F5, rfl, h1, h2⟩
      have L5 := Lib.hid (L4.out.step h1 h2)
      have hs1 := str_of_bytes (cap := c2) (C4.out.kx h2)
      have hs2 := str_of_bytes (cap := cap) (B4.out.kx h2)
      clear h1 h2 HLD L4 B4 C4
      by_cases hc : i ≤ j
      · have b3 : decide ((i : Int) ≤ (j : Int)) = true := decide_eq_true (by omega)
        by_cases hd : j < i + l.length
        · have b4 : decide ((j : Int) < (i : Int) + (l.length : Int)) = true := decide_eq_true (by omega)
          obtain ⟨q, ejq⟩ : ∃ q, j = i + q := ⟨j - i, by omega⟩
          have hq : q < l.length := by omega
          have ev : putL (backM1 j).f i l j = l[q] := by rw [ejq]; exact putL_getB _ i l q hq
          rw [ev]
          obtain ⟨x, hx⟩ : ∃ x, x = l[q] := ⟨_, rfl⟩
          rw [← hx]
          obtain ⟨b, o, rfl, hlt, hcc⟩ := HB.out (fun e => by rw [e] at hq; simp at hq)
          have cx : w5.cell? ⟨b, o + q, none⟩ = some (.int .u8 (x.toNat : Int)) := hcc w5 L5.out.fr q x (by rw [hx, List.getElem?_eq_getElem hq])
          have hx0 := x.toNat_lt
          have hjq : (j : Int) - (i : Int) = (q : Int) := by omega
          have hql : (q : Int) < (l.length : Int) := by omega
          have hq0 : (0 : Int) ≤ (q : Int) := by omega
          have hij : (i : Int) ≤ (j : Int) := by omega
          clear hx ev ejq hq hc hd hcc hlt
          go_wp2_with fail
          refine (HSU.out w5).mono ?_
          rintro e w6 ⟨rfl, hb⟩
          go_wp2_with fail
          go_ret
          exact ⟨rfl, L5.out.fr.trans (hb.mono L5.out.fr.size)⟩
        · have b4 : decide ((j : Int) < (i : Int) + (l.length : Int)) = false := decide_eq_false (by omega)
          rw [putL_outB _ _ _ _ (.inr (by omega)), backM1_j]
          have hji : ¬ (j : Int) < (i : Int) + (l.length : Int) := by omega
          go_wp2_with fail
          refine (HSU.out w5).mono ?_
          rintro e w6 ⟨rfl, hb⟩
          go_wp2_with fail
          go_ret
          exact ⟨rfl, L5.out.fr.trans (hb.mono L5.out.fr.size)⟩
      · have b3 : decide ((i : Int) ≤ (j : Int)) = false := decide_eq_false (by omega)
        rw [putL_outB _ _ _ _ (.inl (by omega)), backM1_j]
        go_wp2_with fail
        refine (HSU.out w5).mono ?_
        rintro e w6 ⟨rfl, hb⟩
        go_wp2_with fail
        go_ret
        exact ⟨rfl, L5.out.fr.trans (hb.mono L5.out.fr.size)⟩
end Go.Proofs.Ytaifhmmcnekopaa
