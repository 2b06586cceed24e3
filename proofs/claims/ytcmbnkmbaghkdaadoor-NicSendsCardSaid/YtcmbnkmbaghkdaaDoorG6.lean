/-
ring.Gather, walked: the bytes that the device reads.
Condition: the table of regions of package bus reads as its text lays it; all parts lie in memory.
ring.Room, walked: how many bytes the device reads, and writes.
No condition.
The ring of the laws of packages pinnacelaw13 and others: its state over the memory that it stands in; Next and Give of it.
Condition: the table of regions of package bus reads as its text lays it.
-/
import Derived.Test.YtcmbnkmbaghkdaaDoorRingWalk
import Derived.Test.YtcmbnkmbaghkdaaDoorG3
namespace Go.Proofs.YtcmbnkmbaghkdaaDoor
open Go.RowKit
set_option linter.unusedVariables false

/-- The parts of a slice, at their places. -/
def SegsAt (W : World) (ao : Option Addr) (l : List Sg) (F : Nat → Prop) : Prop := l ≠ [] → ∃ b o, ao = some ⟨b, o, none⟩ ∧ b < W.heap.size ∧ ¬ F b ∧ ∀ k s r, l[k]? = some s → r < 3 → W.cell? ⟨b, o + k * 3 + r, none⟩ = s.c[r]?
theorem SegsAt.step {W W' : World} {ao : Option Addr} {l : List Sg} {F F' : Nat → Prop} (h : SegsAt W ao l F) (hs : MemStep F F' W W') : SegsAt W' ao l F' := fun hne => by
  obtain ⟨b, o, ha, hb, hf, hc⟩ := h hne
  exact ⟨b, o, ha, Nat.lt_of_lt_of_le hb hs.kx.size, hs.off hb hf, fun k s r hk hr => (hs.kx.cell (p := ⟨b, o + k * 3 + r, none⟩) hb hf).trans (hc k s r hk hr)⟩
theorem SegsAt.below {W W' : World} {ao : Option Addr} {l : List Sg} {F : Nat → Prop} (h : SegsAt W ao l F) (hb : Below W.heap.size W W') : SegsAt W' ao l F := h.step (MemStep.of_below hb)
theorem SegsAt.of_owns {w : World} {base n : Nat} {v : Value} {l : List Sg} {F : Nat → Prop} (h : w.ownsRow base 196 3 v n (flatS l)) (hf : ∀ b, v.ownBlock = some b → ¬ F b) : ∃ ao c, v = .slice ao n c ∧ n ≤ c ∧ l.length = n ∧ SegsAt w ao l F := by
  have hl : l.length = n := by have := h.1; rw [flatS_length] at this; omega
  rcases h.2 with ⟨rfl, rfl⟩ | ⟨g, cap, cur, rfl, hg, hh, hc, _⟩
  · exact ⟨none, 0, rfl, Nat.le_refl _, hl, fun hne => absurd (List.eq_nil_of_length_eq_zero hl) hne⟩
  · refine ⟨some ⟨g, 0, none⟩, cap, rfl, hc, hl, fun _ => ⟨g, 0, rfl, lt_heap hh, hf g rfl, fun k s r hk hr => ?_⟩⟩
    have hj' : k < n := by rw [← hl]; exact (List.getElem?_eq_some_iff.1 hk).1
    rw [Nat.zero_add, h.cellAt (k * 3 + r) (by omega)]
    exact flatS_get l k s r hk hr
/-- The bytes that the device reads. -/
def gath (m : Mm) (l : List Sg) : List UInt8 := l.flatMap fun s => if s.wr then [] else cut m.f (s.at_ - 2147483648) s.n
theorem gath_nil (m : Mm) : gath m [] = [] := rfl
theorem gath_snoc (m : Mm) (l : List Sg) (s : Sg) : gath m (l ++ [s]) = gath m l ++ (if s.wr then [] else cut m.f (s.at_ - 2147483648) s.n) := by simp [gath]
theorem gath_take (m : Mm) (l : List Sg) (c : Nat) (s : Sg) (h : l[c]? = some s) : gath m (l.take (c + 1)) = gath m (l.take c) ++ (if s.wr then [] else cut m.f (s.at_ - 2147483648) s.n) := by
  rw [List.take_add_one, h]
  exact gath_snoc m _ s
theorem gath_le (m : Mm) (l : List Sg) (c : Nat) : (gath m (l.take c)).length ≤ (gath m l).length := by
  conv => rhs; rw [← List.take_append_drop c l]
  simp only [gath, List.flatMap_append, List.length_append]
  omega
def PartsOk (m : Mm) (l : List Sg) : Prop := ∀ s, s ∈ l → s.at_ < 4294967296 ∧ lies m s.at_ s.n
def BytesPost (w : World) (g : Nat) (m : Mm) (F : Nat → Prop) (bs : List UInt8) (e : Ending) (w' : World) : Prop :=
  ∃ v F2, e = .returned (.tuple #[v, .nilIface]) ∧ RamIs w' g m F2 ∧ MemStep F F2 w w' ∧ w'.ownsRow w.heap.size 5 1 v bs.length (bs.map B8) ∧ ∀ b, v.ownBlock = some b → ¬ F2 b
set_option maxRecDepth 100000 in
set_option maxHeartbeats 8000000 in
theorem ring_Gather {g : Nat} {m : Mm} {F : Nat → Prop} {w : World} (ao : Option Addr) (l : List Sg) (cap : Nat) (h : RamIs w g m F) (hr : RegAt w) (hrf : ¬ F 0) (hl : SegsAt w ao l F) (hok : PartsOk m l) (hlen : l.length < 4611686018427387904) (hbig : (gath m l).length ≤ 1099511627776) :
    Calls Tryd.prog 43 #[.pointer (some ⟨g, 0, none⟩), .slice ao l.length cap] w (BytesPost w g m F (gath m l)) := by
  have HP : Hid (∀ W F' (s : Sg), s ∈ l → ¬ s.n = 0 → MemStep F F' w W → Calls Tryd.prog 80 #[.int .u32 s.at_] W fun e w' => e = .returned (.tuple #[.int .u32 ((s.at_ - 2147483648 : Nat) : Int), .nilIface]) ∧ Below W.heap.size W w') :=
    Lib.hid (fun W F' s hs hn hst => ring_place_in s.at_ W (hok s hs).1 ((hok s hs).2.resolve_left hn).1 (reg_step hr hst hrf).1)
  have HRD : Hid (∀ W F' (s : Sg), s ∈ l → ¬ s.n = 0 → RamIs W g m F' → Calls Tryd.prog 21 #[.pointer (some ⟨g, 0, none⟩), .int .u32 ((s.at_ - 2147483648 : Nat) : Int), .int .i64 s.n] W fun e w' => ∃ v F2, e = .returned (.tuple #[v, .nilIface]) ∧ RamIs w' g m F2 ∧ MemStep F' F2 W w' ∧ w'.ownsRow W.heap.size 5 1 v s.n ((cut m.f (s.at_ - 2147483648) s.n).map B8) ∧ (∀ b, v.ownBlock = some b → ¬ F2 b)) :=
    Lib.hid (fun W F' s hs hn hW => mem_Read_ok hW (s.at_ - 2147483648) s.n (by have := (hok s hs).1; omega) ((hok s hs).2.resolve_left hn).2)
  have HSA := Lib.hid hl
  have HH := Lib.hid h
  have HBIG := Lib.hid hbig
  have HOK := Lib.hid hok
  have hlen0 : (0 : Int) ≤ (l.length : Int) := by omega
  obtain ⟨i0, hi0, hz0, hz1, hz2⟩ := info_of info_u8
  clear h hl hr hrf hok hbig
  obtain ⟨L, hL⟩ : ∃ L, L = l.length := ⟨_, rfl⟩
  have HL := Lib.hid hL
  rw [← hL] at hlen hlen0 ⊢
  clear hL
  go_enter Tryd.func43, Tryd.ntmps43
  go_wp2_with fail
  go_loopw [6, 17] (fun v i wr => ∃ (c n : Nat) (F' : Nat → Prop), c ≤ L ∧ i = .int .i64 c ∧ n = (gath m (l.take c)).length ∧ RamIs wr g m F' ∧ MemStep F F' w wr ∧ wr.ownsRow w.heap.size 5 1 v n ((gath m (l.take c)).map B8) ∧ (∀ b, v.ownBlock = some b → ¬ F' b) ∧ ∃ av cv, v = .slice av n cv) (fun _ i _ => L - (intOf i).toNat)
  case atStart => exact ⟨0, 0, F, by omega, rfl, rfl, HH.out, MemStep.refl _ _, World.ownsRow_nil _ _ _ _, fun b hb => by simp [Value.ownBlock] at hb, none, 0, rfl⟩
  case round =>
    obtain ⟨c, n, F1, hc, rfl, hn, hri, hst, hown, hnf, av, cv, rfl⟩ := hrel
    have HR := Lib.hid (And.intro hri hst)
    have HO := Lib.hid hown
    have HF := Lib.hid hnf
    have HN := Lib.hid hn
    have hc0 : (0 : Int) ≤ (c : Int) := by omega
    clear hri hst hown hnf hn
    by_cases hlt : c < L
    · have hcl : (c : Int) < (L : Int) := by omega
      have hcll : c < l.length := by rw [← HL.out]; exact hlt
      obtain ⟨s, hs⟩ : ∃ s, l[c]? = some s := ⟨l[c], List.getElem?_eq_getElem hcll⟩
      have hmem : s ∈ l := List.mem_of_getElem? hs
      have HS := Lib.hid (And.intro hs hmem)
      obtain ⟨b, o, rfl, hb, hbf, hcell⟩ := HSA.out.step HR.out.2 (fun e => by rw [e] at hs; simp at hs)
      have HB := Lib.hid (And.intro hb hbf)
      have c0 := (hcell c s 0 hs (by omega)).trans (rfl : _ = some (.int .u32 s.at_ : Value))
      have c1 := (hcell c s 1 hs (by omega)).trans (rfl : _ = some (.int .i64 s.n : Value))
      have c2 := (hcell c s 2 hs (by omega)).trans (rfl : _ = some (.bool s.wr : Value))
      rw [Nat.add_zero] at c0
      clear hcell hb hbf hs hmem hcll hlt hc
      have hsn0 : (0 : Int) ≤ (s.n : Int) := by omega
      have HBA := Lib.hid ((Below.refl wr.heap.size wr).alloc (Nat.le_refl _) (.cells #[.int .u32 0, .int .i64 0, .bool false] 196))
      have KN := Lib.hid (heap_alloc_new wr (.cells #[.int .u32 0, .int .i64 0, .bool false] 196))
      have HR2 := Lib.hid (And.intro (HR.out.1.below HBA.out) (HR.out.2.below HBA.out))
      have HO2 := Lib.hid (ownsRow_keep HO.out (fun q hq => HBA.out.block q (ownsRow_lt HO.out hq).2))
      have HLT := Lib.hid (fun q hq => ownsRow_lt HO.out (b := q) hq)
      have HNs := Lib.hid (show ¬ F1 wr.heap.size from fun hf => absurd (HR.out.1.lt _ hf) (Nat.lt_irrefl _))
      have HSZ := Lib.hid HR.out.2.kx.size
      have HOC := Lib.hid (show (#[.int .u32 s.at_, .int .i64 s.n, .bool s.wr] : Array Value).all (·.oneCell') = true by simp [Value.oneCell'])
      go_wp2_with (first | go_skip | (refine wpList_store_to rfl 196 _ _ rfl wr.heap.size #[.int .u32 s.at_, .int .i64 s.n, .bool s.wr] rfl rfl 196 #[.int .u32 0, .int .i64 0, .bool false] KN.out (by kernel_rfl) rfl HOC.out ?_))
      intro w3 hx hk
      have KS := Lib.hid hk
      have HR3 := Lib.hid (And.intro (HR2.out.1.kx hx.out (fun k _ hf e => by subst e; exact HNs.out hf)) (HR2.out.2.own hx.out HSZ.out))
      have HO3 := Lib.hid (ownsRow_keep HO2.out (fun q hq => hx.out.block q (ownsRow_lt HO2.out hq).2 (by have := (HLT.out q hq).2; omega)))
      clear hx hk KN HR2 HO2 HBA HNs c0 c1 c2
      generalize wr.heap.size = bs at KS HLT HSZ ⊢
      have s0 := (cell_of_row _ _ 0 _ _ _ KS.out).trans (rfl : _ = some (.int .u32 s.at_ : Value))
      have s1 := (cell_of_row _ _ 1 _ _ _ KS.out).trans (rfl : _ = some (.int .i64 s.n : Value))
      have s2 := (cell_of_row _ _ 2 _ _ _ KS.out).trans (rfl : _ = some (.bool s.wr : Value))
      cases hw : s.wr with
      | true =>
        rw [hw] at s2
        have HW := Lib.hid hw
        clear hw
        have HG := Lib.hid (show gath m (l.take (c + 1)) = gath m (l.take c) from by rw [gath_take m l c s HS.out.1, if_pos HW.out, List.append_nil])
        go_wp2_with fail
        go_roundw
        case rel => exact ⟨c + 1, n, F1, by omega, by go_num, by rw [HG.out]; exact HN.out, HR3.out.1, HR3.out.2, by rw [HG.out]; exact HO3.out, HF.out, av, cv, rfl⟩
        case measure => simp [intOf]; omega

      | false =>
        rw [hw] at s2
        have HW := Lib.hid (show ¬ s.wr = true by rw [hw]; simp)
        clear hw
        by_cases hn0 : s.n = 0
        · have HN0 := Lib.hid hn0
          rw [hn0] at s1
          clear hn0 hsn0
          have HG := Lib.hid (show gath m (l.take (c + 1)) = gath m (l.take c) from by rw [gath_take m l c s HS.out.1, if_neg HW.out, HN0.out, show cut m.f (s.at_ - 2147483648) 0 = [] from rfl, List.append_nil])
          go_wp2_with fail
          go_roundw
          case rel => exact ⟨c + 1, n, F1, by omega, by go_num, by rw [HG.out]; exact HN.out, HR3.out.1, HR3.out.2, by rw [HG.out]; exact HO3.out, HF.out, av, cv, rfl⟩
          case measure => simp [intOf]; omega

        · have b1 : ((s.n : Int) == 0) = false := by simp; omega
          have HP1 := Lib.hid (HP.out w3 F1 s HS.out.2 hn0 HR3.out.2)
          have HRD1 := Lib.hid (fun W F' => HRD.out W F' s HS.out.2 hn0)
          have HG := Lib.hid (show gath m (l.take (c + 1)) = gath m (l.take c) ++ cut m.f (s.at_ - 2147483648) s.n from by rw [gath_take m l c s HS.out.1, if_neg HW.out])
          have HGL := Lib.hid (gath_le m l (c + 1))
          have HNP := Lib.hid hn0
          clear hn0
          generalize s.at_ - 2147483648 = x at HP1 HRD1 HG
          go_wp2_with fail
          refine (HP1.out).mono ?_
          rintro e w4 ⟨rfl, hb⟩
          have HR4 := Lib.hid (And.intro (HR3.out.1.below hb) (HR3.out.2.below hb))
          have HO4 := Lib.hid (ownsRow_keep HO3.out (fun q hq => hb.block q (ownsRow_lt HO3.out hq).2))
          have KS4 := Lib.hid (keepB KS.out hb)
          have HRD2 := Lib.hid (HRD1.out w4 F1 HR4.out.1)
          clear hb HR3 HO3 KS s0 s1 s2 HP1 HRD1
          have s1 := (cell_of_row _ _ 1 _ _ _ KS4.out).trans (rfl : _ = some (.int .i64 s.n : Value))
          go_wp2_with fail
          refine (HRD2.out).mono ?_
          rintro e w5 ⟨v, F5, rfl, h1, h2, h3, h4⟩
          obtain ⟨gv, cw, rfl⟩ : ∃ gv cw, v = .slice (some ⟨gv, 0, none⟩) s.n cw := by
            rcases h3.2 with ⟨rfl, he⟩ | ⟨gv, cw, cur, rfl, _⟩
            · exact absurd he HNP.out
            · exact ⟨gv, cw, rfl⟩
          have HR5 := Lib.hid (And.intro h1 (HR4.out.2.trans h2))
          have HO5 := Lib.hid (ownsRow_keep HO4.out (fun q hq => h2.kx.block q (ownsRow_lt HO4.out hq).2 (HF.out q hq)))
          have HF5 := Lib.hid (show ∀ q, (Value.slice av n cv).ownBlock = some q → ¬ F5 q from fun q hq => h2.off (ownsRow_lt HO4.out hq).2 (HF.out q hq))
          have HNK := Lib.hid (World.ownsRow.cells h3 (g := gv) rfl)
          have HLT5 := Lib.hid (fun q hq => ownsRow_lt HO5.out (b := q) hq)
          have HNL : Hid (n + s.n = (gath m (l.take (c + 1))).length) := Lib.hid (by rw [HG.out, List.length_append, cut_length, ← HN.out])
          have hsm : n + s.n ≤ 1099511627776 := by have h1 := HNL.out; have h2 := HGL.out; have h3 := HBIG.out; omega
          clear h1 h2 h3 h4 HR4 HO4 HRD2 s1 KS4
          go_wp2_with (refine wpList_append_own_at (w := w5) rfl _ _ 62 rfl w.heap.size 5 i0 _ 1 1 Tryd.underlying62 hi0 hz0 hz1 hz2 rfl (by omega) (.slice av n cv) n ((gath m (l.take c)).map B8) rfl HO5.out ⟨gv, 0, none⟩ s.n cw _ rfl ?hl HNK.out ?h1 ?h63 ?hby ?hb ?hK)
          case hl => rw [List.length_map, cut_length, Nat.mul_one]
          case h1 =>
            intro u hu
            obtain ⟨x, _, rfl⟩ := List.mem_map.1 hu
            rfl
          case h63 => simp only [maxLen]; omega
          case hby => omega
          case hb => exact HR5.out.2.kx.size
          intro v' w6 hown hgr _ hvb
          obtain ⟨av', cv', rfl⟩ := ownsRow_form hown
          rw [← List.map_append, ← HG.out] at hown
          have HO6 := Lib.hid hown
          have HR6 := Lib.hid (And.intro (HR5.out.1.grown hgr HF5.out) (HR5.out.2.grown hgr (fun b hb => (HLT5.out b hb).1)))
          have HF6 := Lib.hid (show ∀ q, (Value.slice av' (n + s.n) cv').ownBlock = some q → ¬ F5 q from fun q hq hf => by
            rcases hvb with e | e
            · exact HF5.out q (by rw [← e]; exact hq) hf
            · have e3 : q = _ := Option.some.inj (hq.symm.trans e)
              have hz := HR5.out.1.lt q hf
              omega)
          clear hown hgr hvb
          go_wp2_with fail
          go_roundw
          case rel => exact ⟨c + 1, n + s.n, F5, by omega, by go_num, HNL.out, HR6.out.1, HR6.out.2, HO6.out, HF6.out, av', cv', rfl⟩
          case measure => simp [intOf]; omega
    · obtain rfl : L = c := by omega
      have HT := Lib.hid (show l.take L = l from List.take_of_length_le (by rw [HL.out]; exact Nat.le_refl _))
      have HNT := Lib.hid (show n = (gath m l).length by rw [HN.out, HT.out])
      clear hlt hc
      go_wp2_with fail
      go_ret2
      exact ⟨_, F1, rfl, HR.out.1, HR.out.2, by rw [← HNT.out]; have h := HO.out; rw [HT.out] at h; exact h, HF.out⟩
end Go.Proofs.YtcmbnkmbaghkdaaDoor
namespace Go.Proofs.YtcmbnkmbaghkdaaDoor
open Go.RowKit
set_option linter.unusedVariables false

def roomR : List Sg → Nat
  | [] => 0
  | s :: t => (if s.wr then 0 else s.n) + roomR t
def roomW : List Sg → Nat
  | [] => 0
  | s :: t => (if s.wr then s.n else 0) + roomW t
theorem roomR_snoc (l : List Sg) (s : Sg) : roomR (l ++ [s]) = roomR l + (if s.wr then 0 else s.n) := by
  induction l with
  | nil => simp [roomR]
  | cons x t ih => simp only [List.cons_append, roomR, ih]; omega
theorem roomW_snoc (l : List Sg) (s : Sg) : roomW (l ++ [s]) = roomW l + (if s.wr then s.n else 0) := by
  induction l with
  | nil => simp [roomW]
  | cons x t ih => simp only [List.cons_append, roomW, ih]; omega
theorem roomR_take {l : List Sg} {c : Nat} {s : Sg} (h : l[c]? = some s) : roomR (l.take (c + 1)) = roomR (l.take c) + (if s.wr then 0 else s.n) := by
  rw [List.take_add_one, h]
  exact roomR_snoc _ s
theorem roomW_take {l : List Sg} {c : Nat} {s : Sg} (h : l[c]? = some s) : roomW (l.take (c + 1)) = roomW (l.take c) + (if s.wr then s.n else 0) := by
  rw [List.take_add_one, h]
  exact roomW_snoc _ s
theorem roomR_append (l k : List Sg) : roomR (l ++ k) = roomR l + roomR k := by
  induction l with
  | nil => simp [roomR]
  | cons x t ih => simp only [List.cons_append, roomR, ih]; omega
theorem roomW_append (l k : List Sg) : roomW (l ++ k) = roomW l + roomW k := by
  induction l with
  | nil => simp [roomW]
  | cons x t ih => simp only [List.cons_append, roomW, ih]; omega
theorem roomR_le (l : List Sg) (c : Nat) : roomR (l.take c) ≤ roomR l := by
  conv => rhs; rw [← List.take_append_drop c l, roomR_append]
  omega
theorem roomW_le (l : List Sg) (c : Nat) : roomW (l.take c) ≤ roomW l := by
  conv => rhs; rw [← List.take_append_drop c l, roomW_append]
  omega
set_option maxRecDepth 100000 in
set_option maxHeartbeats 4000000 in
theorem ring_Room (ao : Option Addr) (l : List Sg) (cap : Nat) (w : World) (F : Nat → Prop) (hl : SegsAt w ao l F) (hlen : l.length < 4611686018427387904) (hr : roomR l < 2305843009213693952) (hw : roomW l < 2305843009213693952) :
    Calls Tryd.prog 101 #[.slice ao l.length cap] w fun e w' => e = .returned (.tuple #[.int .i64 (roomR l : Nat), .int .i64 (roomW l : Nat)]) ∧ Below w.heap.size w w' := by
  have K0 := Lib.hid (heap_alloc_new w (.cells #[.int .i64 0, .int .i64 0] 265))
  have HB0 := Lib.hid ((Below.refl w.heap.size w).alloc (Nat.le_refl _) (.cells #[.int .i64 0, .int .i64 0] 265))
  have HSA := Lib.hid hl
  have HBR := Lib.hid (And.intro hr hw)
  have hlen0 : (0 : Int) ≤ (l.length : Int) := by omega
  obtain ⟨L, hL⟩ : ∃ L, L = l.length := ⟨_, rfl⟩
  have HL := Lib.hid hL
  rw [← hL] at hlen hlen0 ⊢
  clear hL hl hr hw
  go_enter Tryd.func101, Tryd.ntmps101
  go_wp2_with fail
  go_loopw [10] (fun v wr => ∃ (c X Y : Nat), c ≤ L ∧ v = .int .i64 c ∧ X = roomR (l.take c) ∧ Y = roomW (l.take c) ∧ Below w.heap.size w wr ∧ wr.heap[w.heap.size]? = some (.cells #[.int .i64 X, .int .i64 Y] 265 (0, 0))) (fun v _ => L - (intOf v).toNat)
  case atStart => exact ⟨0, 0, 0, by omega, rfl, rfl, rfl, HB0.out, K0.out⟩
  case round =>
    clear K0 HB0
    obtain ⟨c, X, Y, hc, rfl, hX, hY, hb, hk⟩ := hrel
    have HB := Lib.hid hb
    have HK := Lib.hid hk
    have HX := Lib.hid (And.intro hX hY)
    have hc0 : (0 : Int) ≤ (c : Int) := by omega
    have hx1 : X < 2305843009213693952 := by have := roomR_le l c; have := HBR.out.1; omega
    have hy1 : Y < 2305843009213693952 := by have := roomW_le l c; have := HBR.out.2; omega
    have hx0 : (0 : Int) ≤ (X : Int) := by omega
    have hy0 : (0 : Int) ≤ (Y : Int) := by omega
    have hx2 : (X : Int) < 2305843009213693952 := by omega
    have hy2 : (Y : Int) < 2305843009213693952 := by omega
    clear hb hk hX hY hx1 hy1
    by_cases hlt : c < L
    · have hcl : (c : Int) < (L : Int) := by omega
      have hcll : c < l.length := by rw [← HL.out]; exact hlt
      obtain ⟨s, hs⟩ : ∃ s, l[c]? = some s := ⟨l[c], List.getElem?_eq_getElem hcll⟩
      have HTR := Lib.hid (roomR_take hs)
      have HTW := Lib.hid (roomW_take hs)
      obtain ⟨b, o, rfl, hbl, hbf, hcell⟩ := HSA.out (fun e => by rw [e] at hs; simp at hs)
      have hz : ∀ r, r < 3 → wr.cell? ⟨b, o + c * 3 + r, none⟩ = s.c[r]? := fun r hr => (HB.out.cell (p := ⟨b, o + c * 3 + r, none⟩) hbl).trans (hcell c s r hs hr)
      have c0 := (hz 0 (by omega)).trans (rfl : _ = some (.int .u32 s.at_ : Value))
      have c1 := (hz 1 (by omega)).trans (rfl : _ = some (.int .i64 s.n : Value))
      have c2 := (hz 2 (by omega)).trans (rfl : _ = some (.bool s.wr : Value))
      rw [Nat.add_zero] at c0
      have hsn : s.n < 2305843009213693952 := by
        have h1 := roomR_le l (c + 1)
        have h2 := roomW_le l (c + 1)
        have h3 := HBR.out
        rw [HTR.out] at h1
        rw [HTW.out] at h2
        cases hw : s.wr with
        | true => rw [hw] at h2; simp at h2; omega
        | false => rw [hw] at h1; simp at h1; omega
      clear hz hbl hbf hcell hs hcll hlt hc
      have hsn0 : (0 : Int) ≤ (s.n : Int) := by omega
      have hsn2 : (s.n : Int) < 2305843009213693952 := by omega
      clear hsn
      have HBA := Lib.hid ((Below.refl wr.heap.size wr).alloc (Nat.le_refl _) (.cells #[.int .u32 0, .int .i64 0, .bool false] 196))
      have KN := Lib.hid (heap_alloc_new wr (.cells #[.int .u32 0, .int .i64 0, .bool false] 196))
      have K1 := Lib.hid (keepB HK.out HBA.out)
      have HLT := Lib.hid (And.intro (lt_heap HK.out) HB.out.size)
      have HOC := Lib.hid (show (#[.int .u32 s.at_, .int .i64 s.n, .bool s.wr] : Array Value).all (·.oneCell') = true by simp [Value.oneCell'])
      go_wp2_with (first | go_skip | (refine wpList_store_to rfl 196 _ _ rfl wr.heap.size #[.int .u32 s.at_, .int .i64 s.n, .bool s.wr] rfl rfl 196 #[.int .u32 0, .int .i64 0, .bool false] KN.out (by kernel_rfl) rfl HOC.out ?_))
      intro w3 hx hk
      have KS := Lib.hid hk
      have HB3 := Lib.hid ((HB.out.trans (HBA.out.mono HB.out.size)).trans (hx.out.below (B := w.heap.size) (fun k hk e => by have := HLT.out.2; omega) (by have := HBA.out.size; have := HLT.out.2; omega)))
      have K3 := Lib.hid (hx.out.heap K1.out (by have := HLT.out.1; omega))
      clear hx hk KN K1 HBA HB HK c0 c1 c2 HOC
      generalize wr.heap.size = bs at KS HLT ⊢
      have s1 := (cell_of_row _ _ 1 _ _ _ KS.out).trans (rfl : _ = some (.int .i64 s.n : Value))
      have s2 := (cell_of_row _ _ 2 _ _ _ KS.out).trans (rfl : _ = some (.bool s.wr : Value))
      have d0 := (cell_of_row _ _ 0 _ _ _ K3.out).trans (rfl : _ = some (.int .i64 X : Value))
      have d1 := (cell_of_row _ _ 1 _ _ _ K3.out).trans (rfl : _ = some (.int .i64 Y : Value))
      have f1 := fun j => frozen_of_row _ _ j _ _ K3.out
      cases hw : s.wr with
      | true =>
        rw [hw] at s2
        have HW := Lib.hid hw
        clear hw
        go_upto_region 8 with fail
        go_region
        go_wp2_with fail
        go_roundw
        case rel =>
          have hkx : KX (fun q => q = w.heap.size) w3 (w3.setCell ⟨w.heap.size, 1, none⟩ (.int .i64 ((Y : Int) + (s.n : Int)))).drew := ((KX.refl (fun q => q = w.heap.size) w3).setCell (p := ⟨w.heap.size, 1, none⟩) (.inl rfl) _).drew
          refine ⟨c + 1, X, Y + s.n, by omega, by go_num, by rw [HTR.out, if_pos HW.out]; exact HX.out.1, by rw [HTW.out, if_pos HW.out, HX.out.2], HB3.out.trans (hkx.below (B := w.heap.size) (fun k hk e => by omega) HB3.out.size), ?_⟩
          exact (set_cells K3.out).trans rfl
        case measure => simp [intOf]; omega
      | false =>
        rw [hw] at s2
        have HW := Lib.hid (show ¬ s.wr = true by rw [hw]; simp)
        clear hw
        go_upto_region 8 with fail
        go_region
        go_wp2_with fail
        go_roundw
        case rel =>
          have hkx : KX (fun q => q = w.heap.size) w3 (w3.setCell ⟨w.heap.size, 0, none⟩ (.int .i64 ((X : Int) + (s.n : Int)))).drew := ((KX.refl (fun q => q = w.heap.size) w3).setCell (p := ⟨w.heap.size, 0, none⟩) (.inl rfl) _).drew
          refine ⟨c + 1, X + s.n, Y, by omega, by go_num, by rw [HTR.out, if_neg HW.out, HX.out.1], by rw [HTW.out, if_neg HW.out]; exact HX.out.2, HB3.out.trans (hkx.below (B := w.heap.size) (fun k hk e => by omega) HB3.out.size), ?_⟩
          exact (set_cells K3.out).trans rfl
        case measure => simp [intOf]; omega
    · obtain rfl : L = c := by omega
      have HT := Lib.hid (show l.take L = l from List.take_of_length_le (by rw [HL.out]; exact Nat.le_refl _))
      have HXY := Lib.hid (And.intro (show X = roomR l by rw [HX.out.1, HT.out]) (show Y = roomW l by rw [HX.out.2, HT.out]))
      clear hlt hc
      have d0 := (cell_of_row _ _ 0 _ _ _ HK.out).trans (rfl : _ = some (.int .i64 X : Value))
      have d1 := (cell_of_row _ _ 1 _ _ _ HK.out).trans (rfl : _ = some (.int .i64 Y : Value))
      go_upto_region 10 with fail
      go_region
      go_wp2_with fail
      go_ret2
      exact ⟨by rw [← HXY.out.1, ← HXY.out.2]; rfl, ⟨HB.out.os, HB.out.tape, HB.out.output, HB.out.size, HB.out.block⟩⟩
end Go.Proofs.YtcmbnkmbaghkdaaDoor
namespace Go.Proofs.YtcmbnkmbaghkdaaDoor
open Go.RowKit
set_option linter.unusedVariables false

theorem i64_and3 (n : Int) : bits .and .i64 n 3 = n % 4 := by
  have h3 : (BitVec.ofInt 64 3).toNat = 2 ^ 2 - 1 := by decide
  have key : (BitVec.ofInt 64 n &&& BitVec.ofInt 64 3).toNat = (n % ((2 ^ 64 : Nat) : Int)).toNat % 2 ^ 2 := by
    rw [BitVec.toNat_and, BitVec.toNat_ofInt, h3, Nat.and_two_pow_sub_one_eq_mod]
  show IntKind.i64.wrap ((BitVec.ofInt 64 n &&& BitVec.ofInt 64 3).toNat : Nat) = n % 4
  rw [key, IntKind.wrap_i64]
  omega
theorem putR_get (f : Nat → UInt8) (a : Nat) (l : List UInt8) (i : Nat) (h : i < l.length) : putL f a l (a + i) = l[i] := by
  unfold putL
  rw [if_pos (by omega), show a + i - a = i by omega, List.getElem?_eq_getElem h]
  rfl
theorem putR_out (f : Nat → UInt8) (a : Nat) (l : List UInt8) (x : Nat) (h : x < a ∨ a + l.length ≤ x) : putL f a l x = f x := by
  unfold putL
  by_cases h1 : a ≤ x
  · rw [if_pos h1, List.getElem?_eq_none (by omega)]
    rfl
  · rw [if_neg h1]
theorem gp_congr {f h : Nat → UInt8} {a : Nat} : ∀ k, (∀ i, i < k → f (a + i) = h (a + i)) → gp f a k = gp h a k
  | 0, _ => rfl
  | k + 1, hh => by simp only [gp]; rw [gp_congr k (fun i hi => hh i (by omega)), hh k (by omega)]
theorem gp_out (f : Nat → UInt8) (a : Nat) (l : List UInt8) (b k : Nat) (h : b + k ≤ a ∨ a + l.length ≤ b) : gp (putL f a l) b k = gp f b k :=
  gp_congr k (fun i hi => putR_out f a l (b + i) (by omega))
theorem leB_get (k v i : Nat) (hi : i < k) : ((leB k v)[i]'(by rw [leB_length]; exact hi)).toNat = v / 256 ^ i % 256 := by simp [leB]
theorem gp_put2 (f : Nat → UInt8) (a v : Nat) (hv : v < 65536) : gp (putL f a (leB 2 v)) a 2 = v := by
  have g : ∀ i, (hi : i < 2) → (putL f a (leB 2 v) (a + i)).toNat = v / 256 ^ i % 256 := fun i hi => by
    rw [putR_get _ _ _ _ (by rw [leB_length]; exact hi)]
    exact leB_get 2 v i hi
  have g0 := g 0 (by omega)
  have g1 := g 1 (by omega)
  simp only [gp]
  rw [g0, g1]
  rw [show (256 : Nat) ^ 0 = 1 from rfl, show (256 : Nat) ^ 1 = 256 from rfl]
  omega
theorem gp_put4 (f : Nat → UInt8) (a v : Nat) (hv : v < 4294967296) : gp (putL f a (leB 4 v)) a 4 = v := by
  have g : ∀ i, (hi : i < 4) → (putL f a (leB 4 v) (a + i)).toNat = v / 256 ^ i % 256 := fun i hi => by
    rw [putR_get _ _ _ _ (by rw [leB_length]; exact hi)]
    exact leB_get 4 v i hi
  have g0 := g 0 (by omega)
  have g1 := g 1 (by omega)
  have g2 := g 2 (by omega)
  have g3 := g 3 (by omega)
  simp only [gp]
  rw [g0, g1, g2, g3]
  rw [show (256 : Nat) ^ 0 = 1 from rfl, show (256 : Nat) ^ 1 = 256 from rfl, show (256 : Nat) ^ 2 = 65536 from rfl, show (256 : Nat) ^ 3 = 16777216 from rfl]
  omega
theorem store_f (m : Mm) (a k v : Nat) : (m.store a k v).f = putL m.f a (leB k v) := rfl
theorem store_n (m : Mm) (a k v : Nat) : (m.store a k v).n = m.n := rfl
theorem gp_store_out (m : Mm) (a k v b j : Nat) (h : b + j ≤ a ∨ a + k ≤ b) : gp (m.store a k v).f b j = gp m.f b j := by
  rw [store_f]
  exact gp_out _ _ _ _ _ (by rw [leB_length]; exact h)
/-- The row of the laws' ring. -/
def lrow (la pu : Nat) : Array Value := #[.int .i64 4, .int .u32 2147483648, .int .u32 2147483904, .int .u32 2147484160, .int .u16 la, .int .u16 pu]
theorem lrow_one (la pu : Nat) : (lrow la pu).all (·.oneCell') = true := by simp [lrow, Value.oneCell']
def lrg (la pu : Nat) : Rg := ⟨4, 2147483648, 2147483904, 2147484160, la, pu⟩
theorem lrg_ok (la pu : Nat) : (lrg la pu).okP := by
  show 1 ≤ (4 : Int) ∧ (4 : Int) ≤ 256 ∧ ((4 : Int).toNat &&& ((4 : Int).toNat - 1)) = 0 ∧ 2147483648 % 16 = 0 ∧ 2147483904 % 2 = 0 ∧ 2147484160 % 4 = 0
  decide
theorem rload_in (m : Mm) (a b k : Nat) (hab : a = 2147483648 + b) (hb : b + k ≤ 8192) (hn : m.n = 2) : rload m a k = some (gp m.f b k) := by
  subst hab
  have e : 2147483648 + b - 2147483648 = b := by omega
  unfold rload
  rw [if_pos (by omega), e]
theorem laid_bad (la pu g : Nat) (W : World) : Calls Tryd.prog 110 #[.agg (lrow la pu), .pointer (some ⟨g, 0, none⟩)] W fun e w' => e = .returned .nilIface ∧ Below W.heap.size W w' := by
  have h := ring_bad (lrg la pu) g W
  rw [if_pos (lrg_ok la pu)] at h
  exact h
theorem slot_arg (c : Int) (x : Nat) (hx : x < 65536) : (IntKind.i64.wrap (x : Int)).tmod ((4 : Nat) : Int) = ((x % 4 : Nat) : Int) := by
  have e : IntKind.i64.wrap (x : Int) = (x : Int) := by rw [IntKind.wrap_i64]; omega
  rw [e, Int.tmod_eq_emod_of_nonneg (by omega)]
  omega
theorem next_laid_none {g : Nat} {m : Mm} {F : Nat → Prop} {w : World} (la pu : Nat) (h : RamIs w g m F) (hr : RegAt w) (hrf : ¬ F 0) (hn : m.n = 2) (hla : la < 65536) (hc : gp m.f 258 2 = la) :
    Calls Tryd.prog 78 #[.agg (lrow la pu), .pointer (some ⟨g, 0, none⟩)] w fun e w' => ∃ F2, e = .returned (.tuple #[.agg (lrow la pu), .int .i64 0, .bool false, .nilIface]) ∧ RamIs w' g m F2 ∧ MemStep F F2 w w' :=
  ring_Next_none 4 2147483648 2147483904 2147484160 la pu la h (by omega) (by omega) hla hla (Lib.hid (laid_bad la pu g))
    (Lib.hid (fun W F' h1 _ h2 => by
      have hL := ring_load h1 (reg_step hr h2 hrf).1 2147483906 2 ((((2147483904 : Nat) : Int) + 2) % 4294967296) 2 (by decide) rfl (by omega) (.inr (.inl rfl)) (by omega)
      rw [show rload m 2147483906 2 = some la from (rload_in m _ 258 2 (by omega) (by omega) hn).trans (by rw [hc])] at hL
      exact hL)) rfl
theorem next_laid_some {g : Nat} {m : Mm} {F : Nat → Prop} {w : World} (la pu c hd : Nat) (h : RamIs w g m F) (hr : RegAt w) (hrf : ¬ F 0) (hn : m.n = 2) (hla : la < 65000) (hc : gp m.f 258 2 = c) (hlt : la < c) (hc4 : c ≤ la + 4) (hh : gp m.f (260 + 2 * (la % 4)) 2 = hd) (hd4 : hd < 4) :
    Calls Tryd.prog 78 #[.agg (lrow la pu), .pointer (some ⟨g, 0, none⟩)] w fun e w' => ∃ F2, e = .returned (.tuple #[.agg (lrow (la + 1) pu), .int .i64 hd, .bool true, .nilIface]) ∧ RamIs w' g m F2 ∧ MemStep F F2 w w' := by
  have hq := ring_Next_some 4 2147483648 2147483904 2147484160 la pu c h (by omega) (by omega) (by omega) (by omega) (Lib.hid (laid_bad la pu g))
    (Lib.hid (fun W F' h1 _ h2 => by
      have hL := ring_load h1 (reg_step hr h2 hrf).1 2147483906 2 ((((2147483904 : Nat) : Int) + 2) % 4294967296) 2 (by decide) rfl (by omega) (.inr (.inl rfl)) (by omega)
      rw [show rload m 2147483906 2 = some c from (rload_in m _ 258 2 (by omega) (by omega) hn).trans (by rw [hc])] at hL
      exact hL)) hd (by omega) (c - la) (by omega) (by omega) hd4 ((2147483908 + 2 * (la % 4) : Nat) : Int) (Lib.hid (by
        rw [slot_arg 0 la (by omega)]
        simp only [IntKind.wrap_u32]
        omega))
    (Lib.hid (fun W F' h1 h2 => by
      have hL := ring_load h1 (reg_step hr h2 hrf).1 (2147483908 + 2 * (la % 4)) 2 _ 2 rfl rfl (by omega) (.inr (.inl rfl)) (by omega)
      rw [show rload m (2147483908 + 2 * (la % 4)) 2 = some hd from (rload_in m _ (260 + 2 * (la % 4)) 2 (by omega) (by omega) hn).trans (by rw [hh])] at hL
      exact hL))
  rw [show IntKind.u16.wrap ((la : Int) + 1) = ((la + 1 : Nat) : Int) by rw [IntKind.wrap_u16]; omega] at hq
  exact hq
def gaveM (m : Mm) (pu hd n : Nat) : Mm := ((m.store (516 + 8 * (pu % 4)) 4 hd).store (520 + 8 * (pu % 4)) 4 n).store 514 2 (pu + 1)
theorem give_laid {g : Nat} {m : Mm} {F : Nat → Prop} {w : World} (la pu hd n : Nat) (ni : Int) (en : ni = (n : Int)) (h : RamIs w g m F) (hr : RegAt w) (hrf : ¬ F 0) (hn : m.n = 2) (hpu : pu < 65000) (hd4 : hd < 4) :
    Calls Tryd.prog 81 #[.agg (lrow la pu), .pointer (some ⟨g, 0, none⟩), .int .i64 hd, .int .u32 ni] w fun e w' => ∃ F2, e = .returned (.tuple #[.agg (lrow la (pu + 1)), .nilIface]) ∧ RamIs w' g (gaveM m pu hd n) F2 ∧ MemStep F F2 w w' := by
  subst en
  exact ring_Give_ok 4 2147483648 2147483904 2147484160 la pu hd n (pu + 1) ((2147484164 + 8 * (pu % 4) : Nat) : Int) h (by omega) (by omega) hd4 (by rw [IntKind.wrap_u16]; omega) (by omega) (Lib.hid (by
        rw [slot_arg 0 pu (by omega)]
        simp only [IntKind.wrap_u32]
        omega)) (Lib.hid (laid_bad la pu g))
    (Lib.hid (fun W F' h1 h2 => by
      have hL := ring_store_ok h1 (reg_step hr h2 hrf).1 (2147484164 + 8 * (pu % 4)) 4 hd _ 4 _ rfl rfl rfl (by omega) (by omega) (.inr (.inr rfl)) (by omega) (by omega)
      rw [show 2147484164 + 8 * (pu % 4) - 2147483648 = 516 + 8 * (pu % 4) by omega] at hL
      exact hL))
    (Lib.hid (fun W F' h1 h2 => by
      have hL := ring_store_ok h1 (reg_step hr h2 hrf).1 (2147484168 + 8 * (pu % 4)) 4 n ((((2147484164 + 8 * (pu % 4) : Nat) : Int) + 4) % 4294967296) 4 _ (by omega) rfl rfl (by omega) (by omega) (.inr (.inr rfl)) (by rw [store_n]; omega) (by omega)
      rw [show 2147484168 + 8 * (pu % 4) - 2147483648 = 520 + 8 * (pu % 4) by omega] at hL
      exact hL))
    (Lib.hid (fun W F' h1 h2 => by
      have hL := ring_store_ok h1 (reg_step hr h2 hrf).1 2147484162 2 (pu + 1) ((((2147484160 : Nat) : Int) + 2) % 4294967296) 2 _ (by decide) rfl rfl (by omega) (by omega) (.inr (.inl rfl)) (by rw [store_n, store_n]; omega) (by omega)
      rw [show 2147484162 - 2147483648 = 514 by omega] at hL
      exact hL))
/-- The chains that are offered, and not taken: where their heads stand. -/
structure RingSt (m : Mm) (hs : Nat → Nat) (t o : Nat) : Prop where
  n : m.n = 2
  le : t ≤ o
  ub : o ≤ t + 4
  c : gp m.f 258 2 = o
  at_ : ∀ j, t ≤ j → j < o → gp m.f (260 + 2 * (j % 4)) 2 = hs j % 4
theorem RingSt.offer {m : Mm} {hs : Nat → Nat} {t o : Nat} (h : RingSt m hs t o) (ho : o - t < 4) (h60 : o < 60000) : RingSt ((m.store (260 + 2 * (o % 4)) 2 (hs o % 4)).store 258 2 (o + 1)) hs t (o + 1) where
  n := h.n
  le := by have := h.le; omega
  ub := by have := h.le; omega
  c := by rw [store_f]; exact gp_put2 _ _ _ (by omega)
  at_ := fun j h1 h2 => by
    rw [gp_store_out _ _ _ _ _ _ (by omega)]
    by_cases hj : j = o
    · subst hj
      rw [store_f]
      exact gp_put2 _ _ _ (by omega)
    · rw [gp_store_out _ _ _ _ _ _ (by omega)]
      exact h.at_ j h1 (by omega)
theorem RingSt.took {m : Mm} {hs : Nat → Nat} {t o : Nat} (h : RingSt m hs t o) (ht : t < o) (pu hd n : Nat) (h5 : pu < 60000) : RingSt (gaveM m pu hd n) hs (t + 1) o where
  n := h.n
  le := ht
  ub := by have := h.ub; omega
  c := by
    unfold gaveM
    rw [gp_store_out _ _ _ _ _ _ (by omega), gp_store_out _ _ _ _ _ _ (by omega), gp_store_out _ _ _ _ _ _ (by omega)]
    exact h.c
  at_ := fun j h1 h2 => by
    unfold gaveM
    rw [gp_store_out _ _ _ _ _ _ (by omega), gp_store_out _ _ _ _ _ _ (by omega), gp_store_out _ _ _ _ _ _ (by omega)]
    exact h.at_ j (by omega) h2
theorem gave_read (m : Mm) (pu hd n : Nat) (h4 : hd < 4) (hn : n < 65536) (hp : pu < 60000) : gp (gaveM m pu hd n).f (516 + 8 * (pu % 4)) 4 = hd ∧ gp (gaveM m pu hd n).f (520 + 8 * (pu % 4)) 4 = n ∧ gp (gaveM m pu hd n).f 514 2 = pu + 1 := by
  unfold gaveM
  refine ⟨?_, ?_, ?_⟩
  · rw [gp_store_out _ _ _ _ _ _ (by omega), gp_store_out _ _ _ _ _ _ (by omega), store_f]
    exact gp_put4 _ _ _ (by omega)
  · rw [gp_store_out _ _ _ _ _ _ (by omega), store_f]
    exact gp_put4 _ _ _ (by omega)
  · rw [store_f]
    exact gp_put2 _ _ _ (by omega)
end Go.Proofs.YtcmbnkmbaghkdaaDoor
