/-
ring.Scatter, walked where all parts that are written lie in memory and the bytes fit: bytes laid into parts.
Condition: the table of regions of package bus reads as its text lays it.
-/
import Derived.Test.YtcbjlpkkebcmjaaDoorBackLaw
import Derived.OrdersHeld
import Derived.Deep.RegionHeld
namespace Go.Proofs.YtcbjlpkkebcmjaaDoor
open Go.RowKit
set_option linter.unusedVariables false

/-- The parts that are written lie in memory. -/
def WPartsOk (m : Mm) (l : List Sg) : Prop := ∀ s, s ∈ l → s.wr = true → s.at_ < 4294967296 ∧ lies m s.at_ s.n
theorem PartsOk.w {m : Mm} {l : List Sg} (h : PartsOk m l) : WPartsOk m l := fun s hs _ => h s hs
set_option maxRecDepth 100000 in
set_option maxHeartbeats 1000000 in
theorem scat_odd {g q : Nat} {m : Mm} {F : Nat → Prop} {w : World} (s : Sg) (h : RamIs w g m F) (hr : RegAt w) (hq : w.heap[q]? = some (.cells #[.pointer (some ⟨g, 0, none⟩)] 79 (0, 0))) (hok : s.wr = true → s.at_ < 4294967296 ∧ lies m s.at_ s.n) :
    Calls Tryd.prog 101 #[.agg #[.int .u32 s.at_, .int .i64 s.n, .bool s.wr], .pointer (some ⟨q, 0, none⟩)] w fun e w' => e = .returned (.bool false) ∧ Below w.heap.size w w' := by
  have hb0 : Below w.heap.size w (w.alloc (.cells #[.int .u32 s.at_, .int .i64 s.n, .bool s.wr] 121)) := (Below.refl _ _).alloc (Nat.le_refl _) _
  have HB := Lib.hid hb0
  have K0 := Lib.hid (heap_alloc_new w (.cells #[.int .u32 s.at_, .int .i64 s.n, .bool s.wr] 121))
  have hq1 := (cell_of_row _ _ 0 _ _ _ (keepB hq hb0)).trans (rfl : _ = some (.pointer (some ⟨g, 0, none⟩) : Value))
  have hn0 : ¬ (s.n : Int) < 0 := by omega
  have hn1 : (0 : Int) ≤ (s.n : Int) := by omega
  cases hw : s.wr with
  | true =>
    have HT := Lib.hid (ring_there_ok (h.below hb0) (hr.below hb0) s.at_ s.n (hok hw).1 (hok hw).2)
    rw [hw] at HT HB K0 hb0 hq1
    clear h hr hq hok hb0 hw
    go_enter Tryd.func101, Tryd.ntmps101
    go_wp2_with fail
    refine (HT.out).mono ?_
    rintro e w1 ⟨rfl, hb⟩
    go_wp2_with fail
    go_ret
    exact ⟨rfl, HB.out.trans (hb.mono HB.out.size)⟩
  | false =>
    rw [hw] at HB K0 hb0 hq1
    clear h hr hq hok hb0 hw hq1
    go_enter Tryd.func101, Tryd.ntmps101
    go_wp2_with fail
    go_ret
    exact ⟨rfl, HB.out⟩
set_option maxRecDepth 100000 in
set_option maxHeartbeats 1000000 in
theorem scat_idx {g q : Nat} {m : Mm} {F : Nat → Prop} {w : World} (ao : Option Addr) (l : List Sg) (cap : Nat) (h : RamIs w g m F) (hr : RegAt w) (hq : w.heap[q]? = some (.cells #[.pointer (some ⟨g, 0, none⟩)] 79 (0, 0))) (hl : SegsAt w ao l F) (hlen : l.length < 4611686018427387904) (hok : WPartsOk m l) :
    Calls Tryd.prog 134 #[.slice ao l.length cap, .func (.func 101) #[] #[.pointer (some ⟨q, 0, none⟩)]] w fun e w' => e = .returned (.int .i64 (-1)) ∧ Below w.heap.size w w' := by
  have HO := Lib.hid (fun W (hb : Below w.heap.size w W) (s : Sg) (hs : s ∈ l) => scat_odd s (h.below hb) (hr.below hb) (keepB hq hb) (hok s hs))
  have HSA := Lib.hid hl
  clear h hr hq hok hl
  obtain ⟨n, hn⟩ : ∃ n, n = l.length := ⟨_, rfl⟩
  rw [← hn]
  rw [← hn] at hlen
  have HN := Lib.hid hn
  clear hn
  go_enter Tryd.func134, Tryd.ntmps134
  go_wp2_with fail
  go_loopw [8] (fun i wr => ∃ k : Nat, k ≤ n ∧ i = .int .i64 k ∧ Below w.heap.size w wr) (fun i _ => n - (intOf i).toNat)
  case atStart => exact ⟨0, by omega, rfl, Below.refl _ _⟩
  case round =>
    obtain ⟨k, hk, rfl, hb⟩ := hrel
    have HB := Lib.hid hb
    clear hb
    by_cases hlt : k < n
    · have hk0 : (0 : Int) ≤ ↑k := by omega
      have hk8 : (↑k : Int) < ↑n := by omega
      obtain ⟨s, hs⟩ : ∃ s, l[k]? = some s := ⟨l[k]'(by have := HN.out; omega), List.getElem?_eq_getElem (by have := HN.out; omega)⟩
      obtain ⟨b, o, rfl, hb, hbf, hcell⟩ := HSA.out.below HB.out (fun e => by rw [e] at hs; simp at hs)
      have c0 := (hcell k s 0 hs (by omega)).trans (rfl : _ = some (.int .u32 s.at_ : Value))
      have c1 := (hcell k s 1 hs (by omega)).trans (rfl : _ = some (.int .i64 s.n : Value))
      have c2 := (hcell k s 2 hs (by omega)).trans (rfl : _ = some (.bool s.wr : Value))
      rw [Nat.add_zero] at c0
      have HO1 := Lib.hid (HO.out wr HB.out s (List.mem_of_getElem? hs))
      clear hs hb hbf hcell
      go_wp2_with fail
      refine (HO1.out).mono ?_
      rintro e w' ⟨rfl, hb⟩
      go_wp2_with fail
      go_roundw
      case rel => exact ⟨k + 1, by omega, by go_num, HB.out.trans (hb.mono HB.out.size)⟩
      case measure => simp [intOf]; omega
    · have hk8 : ¬ (↑k : Int) < ↑n := by omega
      go_wp2_with fail
      go_ret
      exact ⟨rfl, HB.out⟩
set_option maxRecDepth 100000 in
set_option maxHeartbeats 1000000 in
theorem scat_con {g q : Nat} {m : Mm} {F : Nat → Prop} {w : World} (ao : Option Addr) (l : List Sg) (cap : Nat) (h : RamIs w g m F) (hr : RegAt w) (hq : w.heap[q]? = some (.cells #[.pointer (some ⟨g, 0, none⟩)] 79 (0, 0))) (hl : SegsAt w ao l F) (hlen : l.length < 4611686018427387904) (hok : WPartsOk m l) :
    Calls Tryd.prog 103 #[.slice ao l.length cap, .func (.func 101) #[] #[.pointer (some ⟨q, 0, none⟩)]] w fun e w' => e = .returned (.bool false) ∧ Below w.heap.size w w' := by
  have HI := Lib.hid (scat_idx ao l cap h hr hq hl hlen hok)
  clear h hr hq hl hlen hok
  generalize l.length = n at HI ⊢
  go_enter Tryd.func103, Tryd.ntmps103
  go_wp2_with fail
  refine (HI.out).mono ?_
  rintro e w' ⟨rfl, hb⟩
  go_wp2_with fail
  go_ret
  exact ⟨rfl, hb⟩
theorem BytesAt.take {w : World} {ao : Option Addr} {l : List UInt8} {F : Nat → Prop} (h : BytesAt w ao l F) (k : Nat) : BytesAt w ao (l.take k) F := fun hne => by
  obtain ⟨b, o, h1, h2, h3, h4⟩ := h (fun e => hne (by rw [e]; simp))
  exact ⟨b, o, h1, h2, h3, fun j x hj => h4 j x (by
    rw [List.getElem?_take] at hj
    split at hj
    · exact hj
    · cases hj)⟩
theorem rscat_skip {m : Mm} {l : List Sg} {c : Nat} {s : Sg} {b : List UInt8} (h : l[c]? = some s) (hs : ¬ (s.wr = true ∧ b ≠ [] ∧ s.n ≠ 0)) : rscat m (l.drop c) b = rscat m (l.drop (c + 1)) b := by
  have hc : c < l.length := (List.getElem?_eq_some_iff.1 h).1
  have e : l[c] = s := (List.getElem?_eq_some_iff.1 h).2
  rw [List.drop_eq_getElem_cons hc, e]
  conv => lhs; unfold rscat
  rw [if_neg hs]
theorem rscat_lay {m : Mm} {l : List Sg} {c : Nat} {s : Sg} {b : List UInt8} (h : l[c]? = some s) (hs : s.wr = true ∧ b ≠ [] ∧ s.n ≠ 0) : rscat m (l.drop c) b = rscat (m.write (s.at_ - 2147483648) (b.take s.n)) (l.drop (c + 1)) (b.drop s.n) := by
  have hc : c < l.length := (List.getElem?_eq_some_iff.1 h).1
  have e : l[c] = s := (List.getElem?_eq_some_iff.1 h).2
  rw [List.drop_eq_getElem_cons hc, e]
  conv => lhs; unfold rscat
  rw [if_pos hs]
theorem take_min_len (b : List UInt8) (n : Nat) : b.take n = b.take (min n b.length) := by
  by_cases h : n ≤ b.length
  · rw [Nat.min_eq_left h]
  · rw [Nat.min_eq_right (by omega), List.take_of_length_le (by omega), List.take_of_length_le (Nat.le_refl _)]
theorem drop_min_len (b : List UInt8) (n : Nat) : b.drop n = b.drop (min n b.length) := by
  by_cases h : n ≤ b.length
  · rw [Nat.min_eq_left h]
  · rw [Nat.min_eq_right (by omega), List.drop_of_length_le (by omega), List.drop_of_length_le (Nat.le_refl _)]

set_option maxRecDepth 100000 in
set_option maxHeartbeats 2000000 in
theorem ring_Scatter_long {g : Nat} {m : Mm} {F : Nat → Prop} {w : World} (ao : Option Addr) (l : List Sg) (cap : Nat) (bo : Option Addr) (n bc : Nat) (h : RamIs w g m F) (hr : RegAt w) (hl : SegsAt w ao l F) (hok : WPartsOk m l) (hlen : l.length < 4611686018427387904) (hrr : roomR l < 2305843009213693952) (hrw : roomW l < 2305843009213693952) (hn : roomW l < n) :
    Calls Tryd.prog 55 #[.pointer (some ⟨g, 0, none⟩), .slice ao l.length cap, .slice bo n bc] w fun e w' => e = .returned (.iface 140 (.int .i64 2)) ∧ Below w.heap.size w w' := by
  have hmf : ∀ (fn : Fn) (first cap : Array Value) (w : World), (Instr.makeFunc fn first cap).run Tryd.prog w = .ok (.func fn first cap) w := fun _ _ _ _ => rfl
  have k0 := heap_alloc_new w (.cells #[.pointer (some ⟨g, 0, none⟩)] 79)
  have hb0 : Below w.heap.size w (w.alloc (.cells #[.pointer (some ⟨g, 0, none⟩)] 79)) := (Below.refl _ _).alloc (Nat.le_refl _) _
  have K0 := Lib.hid k0
  have HR0 := Lib.hid (And.intro (h.below hb0) (MemStep.of_below (F := F) hb0))
  have HCN := Lib.hid (scat_con ao l cap (h.below hb0) (hr.below hb0) k0 (hl.below hb0) hlen hok)
  have HRM := Lib.hid (fun W F' (hs : MemStep F F' w W) => ring_Room ao l cap W F' (hl.step hs) hlen hrr hrw)
  have hn0 : ¬ F w.heap.size := fun hf => absurd (h.lt _ hf) (Nat.lt_irrefl _)
  have HN := Lib.hid hn0
  have HBA := Lib.hid hb0
  have hgt : (roomW l : Int) < (n : Int) := by omega
  clear h hr hl hok k0 hb0 hn0 hrr hrw hn
  generalize roomW l = y at HRM hgt
  generalize roomR l = x at HRM
  generalize l.length = L at HCN HRM hlen ⊢
  go_enter Tryd.func55, Tryd.ntmps55
  go_wp2_with fail
  refine (HCN.out).mono ?_
  rintro e w1 ⟨rfl, hb⟩
  have HB1 := Lib.hid (HBA.out.trans (hb.mono HBA.out.size))
  clear hb HCN
  have HRM1 := Lib.hid (HRM.out w1 F (MemStep.of_below HB1.out))
  go_wp2_with fail
  refine (HRM1.out).mono ?_
  rintro e w2 ⟨rfl, hb⟩
  go_wp2_with fail
  go_ret
  exact ⟨rfl, HB1.out.trans (hb.mono HB1.out.size)⟩
set_option maxRecDepth 100000 in
set_option maxHeartbeats 8000000 in
theorem ring_Scatter_ok {g : Nat} {m : Mm} {F : Nat → Prop} {w : World} (ao : Option Addr) (l : List Sg) (cap : Nat) (bo : Option Addr) (bs : List UInt8) (bc : Nat) (h : RamIs w g m F) (hr : RegAt w) (hrf : ¬ F 0) (hl : SegsAt w ao l F) (hok : WPartsOk m l) (hlen : l.length < 4611686018427387904) (hrr : roomR l < 2305843009213693952) (hrw : roomW l < 2305843009213693952)
    (hb : BytesAt w bo bs F) (hcap : bs.length ≤ bc) (hfit : bs.length ≤ roomW l) :
    Calls Tryd.prog 55 #[.pointer (some ⟨g, 0, none⟩), .slice ao l.length cap, .slice bo bs.length bc] w fun e w' => ∃ F', e = .returned .nilIface ∧ RamIs w' g (rscat m l bs) F' ∧ MemStep F F' w w' := by
  have hmf : ∀ (fn : Fn) (first cap : Array Value) (w : World), (Instr.makeFunc fn first cap).run Tryd.prog w = .ok (.func fn first cap) w := fun _ _ _ _ => rfl
  have k0 := heap_alloc_new w (.cells #[.pointer (some ⟨g, 0, none⟩)] 79)
  have hb0 : Below w.heap.size w (w.alloc (.cells #[.pointer (some ⟨g, 0, none⟩)] 79)) := (Below.refl _ _).alloc (Nat.le_refl _) _
  have K0 := Lib.hid k0
  have HR0 := Lib.hid (And.intro (h.below hb0) (MemStep.of_below (F := F) hb0))
  have HCN := Lib.hid (scat_con ao l cap (h.below hb0) (hr.below hb0) k0 (hl.below hb0) hlen hok)
  have HRM := Lib.hid (fun W F' (hs : MemStep F F' w W) => ring_Room ao l cap W F' (hl.step hs) hlen hrr hrw)
  have hn0 : ¬ F w.heap.size := fun hf => absurd (h.lt _ hf) (Nat.lt_irrefl _)
  have HN := Lib.hid hn0
  have HP : Hid (∀ W F' (s : Sg), s ∈ l → s.wr = true → ¬ s.n = 0 → MemStep F F' w W → Calls Tryd.prog 93 #[.int .u32 s.at_] W fun e w' => e = .returned (.tuple #[.int .u32 ((s.at_ - 2147483648 : Nat) : Int), .nilIface]) ∧ Below W.heap.size W w') :=
    Lib.hid (fun W F' s hs hwr hn hst => ring_place_in s.at_ W (hok s hs hwr).1 ((hok s hs hwr).2.resolve_left hn).1 (reg_step hr hst hrf).1)
  have HOK : Hid (∀ s, s ∈ l → s.wr = true → ¬ s.n = 0 → s.at_ - 2147483648 < 4294967296 ∧ s.at_ - 2147483648 + s.n ≤ 4096 * m.n) := Lib.hid (fun s hs hwr hn => ⟨by have := (hok s hs hwr).1; omega, ((hok s hs hwr).2.resolve_left hn).2⟩)
  have HSA := Lib.hid hl
  have HBY := Lib.hid (hb.kx (MemStep.of_below hb0))
  have HFT := Lib.hid hfit
  have hle : decide (roomW l < bs.length) = false := decide_eq_false (by have := hfit; omega)
  have HRW := Lib.hid hrw
  have HCP := Lib.hid hcap
  clear h hr hl hok hrf hb k0 hb0 hn0 hrr hfit
  obtain ⟨L, hL⟩ : ∃ L, L = l.length := ⟨_, rfl⟩
  obtain ⟨Y, hY⟩ : ∃ Y, Y = roomW l := ⟨_, rfl⟩
  obtain ⟨n, hn⟩ : ∃ n, n = bs.length := ⟨_, rfl⟩
  have HL := Lib.hid hL
  have HY := Lib.hid hY
  have HNB := Lib.hid hn
  rw [← hL] at hlen HCN HRM ⊢
  rw [← hY] at HRM hle
  rw [← hn] at hle hcap ⊢
  generalize roomR l = X at HRM
  have hlen0 : (0 : Int) ≤ (L : Int) := by omega
  clear hL hY hn hrw
  go_enter Tryd.func55, Tryd.ntmps55
  go_wp2_with fail
  refine (HCN.out).mono ?_
  rintro e w1 ⟨rfl, hb⟩
  have HR1 := Lib.hid (And.intro (HR0.out.1.below hb) (HR0.out.2.below hb))
  have K1 := Lib.hid (keepB K0.out hb)
  have HBY1 := Lib.hid (HBY.out.kx (MemStep.of_below (F := F) hb))
  clear hb HCN HR0 K0 HBY
  have HRM1 := Lib.hid (HRM.out w1 F HR1.out.2)
  go_wp2_with fail
  refine (HRM1.out).mono ?_
  rintro e w2 ⟨rfl, hb⟩
  have HR2 := Lib.hid (And.intro (HR1.out.1.below hb) (HR1.out.2.below hb))
  have K2 := Lib.hid (keepB K1.out hb)
  have HBY2 := Lib.hid (HBY1.out.kx (MemStep.of_below (F := F) hb))
  clear hb HRM HRM1 HR1 K1 HBY1
  go_wp2_with fail
  go_loopw [2, 35] (fun v i wr => ∃ (c d bd : Nat) (bv : Option Addr) (m' : Mm) (F' : Nat → Prop), c ≤ L ∧ i = .int .i64 c ∧ d ≤ n ∧ v = .slice bv (n - d) bd ∧ n - d ≤ bd ∧ BytesAt wr bv (bs.drop d) F' ∧ RamIs wr g m' F' ∧ m'.n = m.n ∧ MemStep F F' w wr ∧ rscat m' (l.drop c) (bs.drop d) = rscat m l bs ∧ wr.heap[w.heap.size]? = some (.cells #[.pointer (some ⟨g, 0, none⟩)] 79 (0, 0)) ∧ ¬ F' w.heap.size) (fun _ i _ => L - (intOf i).toNat)
  case atStart => exact ⟨0, 0, bc, bo, m, F, by omega, rfl, by omega, rfl, by omega, by rw [List.drop_zero]; exact HBY2.out, HR2.out.1, rfl, HR2.out.2, by rw [List.drop_zero, List.drop_zero], K2.out, HN.out⟩
  case round =>
    obtain ⟨c, d, bd, bv, m', F1, hc, rfl, hd, rfl, hbd, hby, hri, hmn, hst, hsc, hkb, hnf⟩ := hrel
    have HR := Lib.hid (And.intro hri hst)
    have HBB := Lib.hid hby
    have HMN := Lib.hid hmn
    have HSC := Lib.hid hsc
    have HKB := Lib.hid (And.intro hkb hnf)
    have hc0 : (0 : Int) ≤ (c : Int) := by omega
    clear hri hst hby hmn hsc hkb hnf K2 HBY2 HR2
    obtain ⟨z, hz⟩ : ∃ z, z = n - d := ⟨_, rfl⟩
    have HZ := Lib.hid hz
    rw [← hz] at hbd ⊢
    have hz0 : (0 : Int) ≤ (z : Int) := by omega
    have HBL : Hid ((bs.drop d).length = z) := Lib.hid (by rw [List.length_drop, ← HNB.out, HZ.out])
    clear hz
    by_cases hlt : c < L
    · have hcl : (c : Int) < (L : Int) := by omega
      have hcll : c < l.length := by rw [← HL.out]; exact hlt
      obtain ⟨s, hs⟩ : ∃ s, l[c]? = some s := ⟨l[c], List.getElem?_eq_getElem hcll⟩
      have hmem : s ∈ l := List.mem_of_getElem? hs
      have HS := Lib.hid (And.intro hs hmem)
      obtain ⟨b, o, rfl, hb, hbf, hcell⟩ := HSA.out.step HR.out.2 (fun e => by rw [e] at hs; simp at hs)
      have c0 := (hcell c s 0 hs (by omega)).trans (rfl : _ = some (.int .u32 s.at_ : Value))
      have c1 := (hcell c s 1 hs (by omega)).trans (rfl : _ = some (.int .i64 s.n : Value))
      have c2 := (hcell c s 2 hs (by omega)).trans (rfl : _ = some (.bool s.wr : Value))
      rw [Nat.add_zero] at c0
      have HSN : Hid (s.wr = true → s.n ≤ Y) := Lib.hid (fun hwr => by
        have h1 := roomW_take hs
        rw [if_pos hwr] at h1
        have h2 := roomW_le l (c + 1)
        rw [HY.out]
        omega)
      clear hcell hb hbf hs hmem hcll hlt hc
      have hsn0 : (0 : Int) ≤ (s.n : Int) := by omega
      have HBA := Lib.hid ((Below.refl wr.heap.size wr).alloc (Nat.le_refl _) (.cells #[.int .u32 0, .int .i64 0, .bool false] 121))
      have KN := Lib.hid (heap_alloc_new wr (.cells #[.int .u32 0, .int .i64 0, .bool false] 121))
      have HR2 := Lib.hid (And.intro (HR.out.1.below HBA.out) (HR.out.2.below HBA.out))
      have HB2 := Lib.hid (HBB.out.kx (MemStep.of_below (F := F1) HBA.out))
      have KB2 := Lib.hid (keepB HKB.out.1 HBA.out)
      have HBLT := Lib.hid (lt_heap HKB.out.1)
      have HNs := Lib.hid (show ¬ F1 wr.heap.size from fun hf => absurd (HR.out.1.lt _ hf) (Nat.lt_irrefl _))
      have HSZ := Lib.hid HR.out.2.kx.size
      have HOC := Lib.hid (show (#[.int .u32 s.at_, .int .i64 s.n, .bool s.wr] : Array Value).all (·.oneCell') = true by simp [Value.oneCell'])
      have HBW := Lib.hid (fun (hne : bs.drop d ≠ []) => by
        obtain ⟨b, o, h1, h2, h3, h4⟩ := HBB.out hne
        exact (show ∃ b o, bv = some ⟨b, o, none⟩ ∧ b < wr.heap.size from ⟨b, o, h1, h2⟩))
      go_wp2_with (first | go_skip | (refine wpList_store_to rfl 121 _ _ rfl wr.heap.size #[.int .u32 s.at_, .int .i64 s.n, .bool s.wr] rfl rfl 121 #[.int .u32 0, .int .i64 0, .bool false] KN.out (by kernel_rfl) rfl HOC.out ?_))
      intro w3 hx hk
      have KS := Lib.hid hk
      have HR3 := Lib.hid (And.intro (HR2.out.1.kx hx.out (fun k _ hf e => by subst e; exact HNs.out hf)) (HR2.out.2.own hx.out HSZ.out))
      have KB3 := Lib.hid (hx.out.heap KB2.out (by have := HBLT.out; omega))
      have HB3 : Hid (BytesAt w3 bv (bs.drop d) F1) := Lib.hid (fun hne => by
        obtain ⟨b, o, h1, h2, h3, h4⟩ := HB2.out hne
        obtain ⟨b', o', h1', h2'⟩ := HBW.out hne
        obtain ⟨rfl, rfl⟩ : b = b' ∧ o = o' := by rw [h1] at h1'; simpa using h1'
        exact ⟨b, o, h1, Nat.lt_of_lt_of_le h2 hx.out.size, h3, fun j x hj => (hx.out.cell (p := ⟨b, o + j, none⟩) h2 (by show ¬ b = wr.heap.size; omega)).trans (h4 j x hj)⟩)
      clear hx hk KN HR2 HB2 HBA HNs c0 c1 c2 KB2 HBW
      generalize wr.heap.size = bsz at KS HSZ HBLT ⊢
      have s0 := (cell_of_row _ _ 0 _ _ _ KS.out).trans (rfl : _ = some (.int .u32 s.at_ : Value))
      have s1 := (cell_of_row _ _ 1 _ _ _ KS.out).trans (rfl : _ = some (.int .i64 s.n : Value))
      have s2 := (cell_of_row _ _ 2 _ _ _ KS.out).trans (rfl : _ = some (.bool s.wr : Value))
      cases hw : s.wr with
      | false =>
        rw [hw] at s2
        have HW := Lib.hid hw
        clear hw
        have HG := Lib.hid (rscat_skip (m := m') HS.out.1 (b := bs.drop d) (fun h => by rw [HW.out] at h; exact absurd h.1 (by simp)))
        go_wp2_with fail
        go_roundw
        case rel => exact ⟨c + 1, d, bd, bv, m', F1, by omega, by go_num, hd, by rw [HZ.out], by rw [← HZ.out]; exact hbd, HB3.out, HR3.out.1, HMN.out, HR3.out.2, HG.out.symm.trans HSC.out, KB3.out, HKB.out.2⟩
        case measure => simp [intOf]; omega
      | true =>
        rw [hw] at s2
        have HW := Lib.hid hw
        clear hw
        by_cases hz1 : z = 0
        · have HZ1 := Lib.hid hz1
          have bz : ((z : Int) == 0) = true := by rw [hz1]; rfl
          clear hz1
          have HG := Lib.hid (rscat_skip (m := m') HS.out.1 (b := bs.drop d) (fun h => h.2.1 (List.eq_nil_of_length_eq_zero (by rw [HBL.out, HZ1.out]))))
          go_wp2_with fail
          go_roundw
          case rel => exact ⟨c + 1, d, bd, bv, m', F1, by omega, by go_num, hd, by rw [HZ.out], by rw [← HZ.out]; exact hbd, HB3.out, HR3.out.1, HMN.out, HR3.out.2, HG.out.symm.trans HSC.out, KB3.out, HKB.out.2⟩
          case measure => simp [intOf]; omega
        · have bz : ((z : Int) == 0) = false := by simp; omega
          by_cases hn0 : s.n = 0
          · have HN0 := Lib.hid hn0
            have bs0 : ((s.n : Int) == 0) = true := by rw [hn0]; rfl
            clear hn0 hz1
            have HG := Lib.hid (rscat_skip (m := m') HS.out.1 (b := bs.drop d) (fun h => h.2.2 HN0.out))
            go_wp2_with fail
            go_roundw
            case rel => exact ⟨c + 1, d, bd, bv, m', F1, by omega, by go_num, hd, by rw [HZ.out], by rw [← HZ.out]; exact hbd, HB3.out, HR3.out.1, HMN.out, HR3.out.2, HG.out.symm.trans HSC.out, KB3.out, HKB.out.2⟩
            case measure => simp [intOf]; omega
          · have bs0 : ((s.n : Int) == 0) = false := by simp; omega
            have HNE : Hid (bs.drop d ≠ []) := Lib.hid (fun e => hz1 (by rw [← HBL.out, e]; rfl))
            have HG := Lib.hid (rscat_lay (m := m') HS.out.1 (b := bs.drop d) ⟨HW.out, HNE.out, hn0⟩)
            have HO1 := Lib.hid (HOK.out s HS.out.2 HW.out hn0)
            have HP1 := Lib.hid (HP.out w3 F1 s HS.out.2 HW.out hn0 HR3.out.2)
            have hbdI : (z : Int) ≤ (bd : Int) := by omega
            obtain ⟨b, o, rfl, hbl, hbf, _⟩ := HB3.out HNE.out
            have hn0p : 0 < s.n := by omega
            have hz0p : 0 < z := by omega
            clear hbl hbf hz1 hn0 HSN
            generalize s.at_ - 2147483648 = x at HP1 HG HO1
            by_cases hm : ¬ z < s.n
            · have hmI : ¬ (z : Int) < (s.n : Int) := by omega
              have HTK : Hid ((bs.drop d).take s.n = (bs.drop d).take s.n) := Lib.hid (rfl)
              have HDK : Hid ((bs.drop d).drop s.n = bs.drop (d + s.n)) := Lib.hid (by rw [List.drop_drop])
              have HTL : Hid (((bs.drop d).take s.n).length = s.n) := Lib.hid (by rw [List.length_take, HBL.out]; omega)
              have HKS := Lib.hid (show s.n ≤ s.n ∧ s.n ≤ z ∧ 0 < s.n by omega)
              rw [HTK.out, HDK.out] at HG
              clear hm
              have hkI0 : (0 : Int) ≤ (s.n : Int) := by omega
              have hkI1 : (s.n : Int) ≤ (z : Int) := by omega
              have hkI2 : (s.n : Int) ≤ (bd : Int) := by omega
              go_upto_region 14 with fail
              go_upto_region 15 with fail
              refine (HP1.out).mono ?_
              rintro e w4 ⟨rfl, hb⟩
              have HR4 := Lib.hid (And.intro (HR3.out.1.below hb) (HR3.out.2.below hb))
              have HB4 := Lib.hid (HB3.out.kx (MemStep.of_below (F := F1) hb))
              have KB4 := Lib.hid (keepB KB3.out hb)
              clear hb HR3 HB3 KB3 KS s0 s1 s2 HP1 HR
              go_upto_region 15 with fail
              have HWR := Lib.hid (mem_Write_ok (HR4.out.1.below (Below.refl _ _).drew) x (some ⟨b, o, none⟩) ((bs.drop d).take s.n) bd HO1.out.1 (by rw [HTL.out, HMN.out]; have := HO1.out.2; have := HKS.out; omega) ((HB4.out.kx (MemStep.of_below (F := F1) (Below.refl _ _).drew)).take s.n) (by rw [HTL.out]; omega))
              rw [HTL.out] at HWR
              refine wp_region_held_drew (S := fun W => W.heap[w.heap.size]? = some (.cells #[.pointer (some ⟨g, 0, none⟩)] 79 (0, 0))) (by kernel_rfl) KB4.out (fun hH0 => ?_)
              refine wpAnyH_take (i := 0) (v := ?v0b) rfl (by kernel_rfl) (by kernel_rfl) (by kernel_rfl) (fun _ _ _ h => h) (Or.inl ⟨by rfl, ?hy0b⟩) (by assumption) ?rest0b
              case hy0b => (intro W hSw; go_simp; first | done | with_reducible rfl)
              simp only [Act.put, List.getElem_toArray, List.getElem_cons_zero, List.setIfInBounds_toArray, List.set_cons_zero, List.set_cons_succ]
              refine wpAnyH_take (i := 1) (v := ?v1b) rfl (by kernel_rfl) (by kernel_rfl) (by kernel_rfl) (fun _ _ _ h => h) (Or.inl ⟨by rfl, ?hy1b⟩) (by assumption) ?rest1b
              case hy1b => (intro W hSw; go_simp; first | done | with_reducible rfl)
              simp only [Act.put, List.getElem_toArray, List.getElem_cons_zero, List.getElem_cons_succ, List.setIfInBounds_toArray, List.set_cons_zero, List.set_cons_succ]
              refine wpAnyH_take (i := 2) (v := ?v2b) rfl (by kernel_rfl) (by kernel_rfl) (by kernel_rfl) (fun _ _ _ h => h) (Or.inl ⟨by rfl, ?hy2b⟩) (by assumption) ?rest2b
              case hy2b => (intro W hSw; go_simp; first | done | with_reducible rfl)
              simp only [Act.put, List.getElem_toArray, List.getElem_cons_zero, List.getElem_cons_succ, List.setIfInBounds_toArray, List.set_cons_zero, List.set_cons_succ]
              refine wpAnyH_take (i := 3) (v := ?v3b) rfl (by kernel_rfl) (by kernel_rfl) (by kernel_rfl) (fun _ _ _ h => h) (Or.inl ⟨by rfl, ?hy3b⟩) (by assumption) ?rest3b
              case hy3b => (intro W hSw; have cj := (cell_of_row _ _ 0 _ _ _ hSw).trans (rfl : _ = some (.pointer (some ⟨g, 0, none⟩) : Value)); go_simp; first | done | with_reducible rfl)
              simp only [Act.put, List.getElem_toArray, List.getElem_cons_zero, List.getElem_cons_succ, List.setIfInBounds_toArray, List.set_cons_zero, List.set_cons_succ]
              refine wpAnyH_take (i := 4) (v := ?v4b) rfl (by kernel_rfl) (by kernel_rfl) (by kernel_rfl) (fun _ _ _ h => h) (Or.inl ⟨by rfl, ?hy4b⟩) (by assumption) ?rest4b
              case hy4b => (intro W hSw; go_simp; first | done | with_reducible rfl)
              simp only [Act.put, List.getElem_toArray, List.getElem_cons_zero, List.getElem_cons_succ, List.setIfInBounds_toArray, List.set_cons_zero, List.set_cons_succ]
              refine wpAnyH_take (i := 5) (v := ?v5b) rfl (by kernel_rfl) (by kernel_rfl) (by kernel_rfl) (fun _ _ _ h => h) (Or.inl ⟨by rfl, ?hy5b⟩) (by assumption) ?rest5b
              case hy5b => (intro W hSw; go_simp; first | done | with_reducible rfl)
              simp only [Act.put, List.getElem_toArray, List.getElem_cons_zero, List.getElem_cons_succ, List.setIfInBounds_toArray, List.set_cons_zero, List.set_cons_succ]
              refine wpAnyH_take (i := 6) (v := ?v6b) rfl (by kernel_rfl) (by kernel_rfl) (by kernel_rfl) (fun _ _ _ h => h) (Or.inl ⟨by rfl, ?hy6b⟩) (by assumption) ?rest6b
              case hy6b => (intro W hSw; go_simp; first | done | with_reducible rfl)
              simp only [Act.put, List.getElem_toArray, List.getElem_cons_zero, List.getElem_cons_succ, List.setIfInBounds_toArray, List.set_cons_zero, List.set_cons_succ]
              refine wpAnyH_take (i := 7) (v := ?v7b) rfl (by kernel_rfl) (by kernel_rfl) (by kernel_rfl) (fun _ _ _ h => h) (Or.inl ⟨by rfl, ?hy7b⟩) (by assumption) ?rest7b
              case hy7b => (intro W hSw; go_simp; first | done | with_reducible rfl)
              simp only [Act.put, List.getElem_toArray, List.getElem_cons_zero, List.getElem_cons_succ, List.setIfInBounds_toArray, List.set_cons_zero, List.set_cons_succ]
              refine wpAnyH_ready (rs := [8]) (by kernel_rfl) (by simp) ?_
              refine AllReadyH.cons (o := _) rfl (fun K hK => ?_) (AllReadyH.nil)
              simp only [List.getElem_toArray, List.getElem_cons_zero, List.getElem_cons_succ]
              go_simp
              refine (HWR.out).mono ?_
              rintro e w5 ⟨F5, rfl, h1, h2⟩
              have h2' : MemStep F1 F5 w4 w5 := (MemStep.of_below ((Below.refl w4.heap.size w4).drew)).trans h2
              have KB5 := Lib.hid (h2'.heap KB4.out HKB.out.2)
              have HNF5 := Lib.hid (h2'.off (lt_heap KB4.out) HKB.out.2)
              have HR5 := Lib.hid (And.intro h1 (HR4.out.2.trans h2'))
              have HB5 := Lib.hid (HB4.out.kx h2')
              have HM5 := Lib.hid ((write_nR m' x ((bs.drop d).take s.n)).trans HMN.out)
              refine hK.out _ _ KB5.out (fun hH1 => ?_)
              clear hK K hH0 h1 h2 h2' HWR KB4 HR4 HB4
              try simp only [Act.put, List.setIfInBounds_toArray, List.set_cons_zero, List.set_cons_succ]
              refine wpAnyH_take (i := 9) (v := ?v9b) rfl (by kernel_rfl) (by kernel_rfl) (by kernel_rfl) (fun _ _ _ h => h) (Or.inl ⟨by rfl, ?hy9b⟩) (by assumption) ?rest9b
              case hy9b => (intro W hSw; go_simp; first | done | with_reducible rfl)
              simp only [Act.put, List.getElem_toArray, List.getElem_cons_zero, List.getElem_cons_succ, List.setIfInBounds_toArray, List.set_cons_zero, List.set_cons_succ]
              refine wpAnyH_take (i := 10) (v := ?v10b) rfl (by kernel_rfl) (by kernel_rfl) (by kernel_rfl) (fun _ _ _ h => h) (Or.inl ⟨by rfl, ?hy10b⟩) (by assumption) ?rest10b
              case hy10b => (intro W hSw; go_simp; first | done | with_reducible rfl)
              simp only [Act.put, List.getElem_toArray, List.getElem_cons_zero, List.getElem_cons_succ, List.setIfInBounds_toArray, List.set_cons_zero, List.set_cons_succ]
              refine wpAnyH_done (by kernel_rfl) ?_ _
              clear hH1
              by_cases hsel : bd = s.n
              · have hsel1 : (if bd = s.n then some (⟨b, o, none⟩ : Addr) else some ⟨b, o + s.n, none⟩) = some ⟨b, o, none⟩ := if_pos hsel
                have HE := Lib.hid hsel
                clear hsel
                go_wp2_with fail
                go_roundw
                case rel => exact ⟨c + 1, d + s.n, bd - s.n, some ⟨b, o, none⟩, _, F5, by omega, by go_num, by have := HZ.out; have := HKS.out; omega, by have := HZ.out; first | rfl | (congr 1 <;> omega), by have := HZ.out; have := HE.out; omega, fun hne => absurd (List.drop_of_length_le (by have := HE.out; have := HNB.out; have := HZ.out; have := HKS.out; omega)) hne, HR5.out.1, HM5.out, HR5.out.2, HG.out.symm.trans HSC.out, KB5.out, HNF5.out⟩
                case measure => simp [intOf]; omega
              · have hsel1 : (if bd = s.n then some (⟨b, o, none⟩ : Addr) else some ⟨b, o + s.n, none⟩) = some ⟨b, o + s.n, none⟩ := if_neg hsel
                clear hsel
                go_wp2_with fail
                go_roundw
                case rel => exact ⟨c + 1, d + s.n, bd - s.n, some ⟨b, o + s.n, none⟩, _, F5, by omega, by go_num, by have := HZ.out; have := HKS.out; omega, by have := HZ.out; first | rfl | (congr 1 <;> omega), by have := HZ.out; omega, by have h := HB5.out.drop s.n; rw [List.drop_drop] at h; exact h, HR5.out.1, HM5.out, HR5.out.2, HG.out.symm.trans HSC.out, KB5.out, HNF5.out⟩
                case measure => simp [intOf]; omega
            · have hmI : (z : Int) < (s.n : Int) := by omega
              have HTK : Hid ((bs.drop d).take s.n = (bs.drop d).take z) := Lib.hid (by rw [List.take_of_length_le (by rw [HBL.out]; omega), List.take_of_length_le (by rw [HBL.out]; exact Nat.le_refl _)])
              have HDK : Hid ((bs.drop d).drop s.n = bs.drop (d + z)) := Lib.hid (by rw [List.drop_of_length_le (by rw [HBL.out]; omega), List.drop_of_length_le (by rw [← HNB.out, HZ.out]; omega)])
              have HTL : Hid (((bs.drop d).take z).length = z) := Lib.hid (by rw [List.length_take, HBL.out]; omega)
              have HKS := Lib.hid (show z ≤ s.n ∧ z ≤ z ∧ 0 < z by omega)
              rw [HTK.out, HDK.out] at HG
              clear hm
              have hkI0 : (0 : Int) ≤ (z : Int) := by omega
              have hkI1 : (z : Int) ≤ (z : Int) := by omega
              have hkI2 : (z : Int) ≤ (bd : Int) := by omega
              go_upto_region 14 with fail
              go_upto_region 15 with fail
              refine (HP1.out).mono ?_
              rintro e w4 ⟨rfl, hb⟩
              have HR4 := Lib.hid (And.intro (HR3.out.1.below hb) (HR3.out.2.below hb))
              have HB4 := Lib.hid (HB3.out.kx (MemStep.of_below (F := F1) hb))
              have KB4 := Lib.hid (keepB KB3.out hb)
              clear hb HR3 HB3 KB3 KS s0 s1 s2 HP1 HR
              go_upto_region 15 with fail
              have HWR := Lib.hid (mem_Write_ok (HR4.out.1.below (Below.refl _ _).drew) x (some ⟨b, o, none⟩) ((bs.drop d).take z) bd HO1.out.1 (by rw [HTL.out, HMN.out]; have := HO1.out.2; have := HKS.out; omega) ((HB4.out.kx (MemStep.of_below (F := F1) (Below.refl _ _).drew)).take z) (by rw [HTL.out]; omega))
              rw [HTL.out] at HWR
              refine wp_region_held_drew (S := fun W => W.heap[w.heap.size]? = some (.cells #[.pointer (some ⟨g, 0, none⟩)] 79 (0, 0))) (by kernel_rfl) KB4.out (fun hH0 => ?_)
              refine wpAnyH_take (i := 0) (v := ?v0a) rfl (by kernel_rfl) (by kernel_rfl) (by kernel_rfl) (fun _ _ _ h => h) (Or.inl ⟨by rfl, ?hy0a⟩) (by assumption) ?rest0a
              case hy0a => (intro W hSw; go_simp; first | done | with_reducible rfl)
              simp only [Act.put, List.getElem_toArray, List.getElem_cons_zero, List.setIfInBounds_toArray, List.set_cons_zero, List.set_cons_succ]
              refine wpAnyH_take (i := 1) (v := ?v1a) rfl (by kernel_rfl) (by kernel_rfl) (by kernel_rfl) (fun _ _ _ h => h) (Or.inl ⟨by rfl, ?hy1a⟩) (by assumption) ?rest1a
              case hy1a => (intro W hSw; go_simp; first | done | with_reducible rfl)
              simp only [Act.put, List.getElem_toArray, List.getElem_cons_zero, List.getElem_cons_succ, List.setIfInBounds_toArray, List.set_cons_zero, List.set_cons_succ]
              refine wpAnyH_take (i := 2) (v := ?v2a) rfl (by kernel_rfl) (by kernel_rfl) (by kernel_rfl) (fun _ _ _ h => h) (Or.inl ⟨by rfl, ?hy2a⟩) (by assumption) ?rest2a
              case hy2a => (intro W hSw; go_simp; first | done | with_reducible rfl)
              simp only [Act.put, List.getElem_toArray, List.getElem_cons_zero, List.getElem_cons_succ, List.setIfInBounds_toArray, List.set_cons_zero, List.set_cons_succ]
              refine wpAnyH_take (i := 3) (v := ?v3a) rfl (by kernel_rfl) (by kernel_rfl) (by kernel_rfl) (fun _ _ _ h => h) (Or.inl ⟨by rfl, ?hy3a⟩) (by assumption) ?rest3a
              case hy3a => (intro W hSw; have cj := (cell_of_row _ _ 0 _ _ _ hSw).trans (rfl : _ = some (.pointer (some ⟨g, 0, none⟩) : Value)); go_simp; first | done | with_reducible rfl)
              simp only [Act.put, List.getElem_toArray, List.getElem_cons_zero, List.getElem_cons_succ, List.setIfInBounds_toArray, List.set_cons_zero, List.set_cons_succ]
              refine wpAnyH_take (i := 4) (v := ?v4a) rfl (by kernel_rfl) (by kernel_rfl) (by kernel_rfl) (fun _ _ _ h => h) (Or.inl ⟨by rfl, ?hy4a⟩) (by assumption) ?rest4a
              case hy4a => (intro W hSw; go_simp; first | done | with_reducible rfl)
              simp only [Act.put, List.getElem_toArray, List.getElem_cons_zero, List.getElem_cons_succ, List.setIfInBounds_toArray, List.set_cons_zero, List.set_cons_succ]
              refine wpAnyH_take (i := 5) (v := ?v5a) rfl (by kernel_rfl) (by kernel_rfl) (by kernel_rfl) (fun _ _ _ h => h) (Or.inl ⟨by rfl, ?hy5a⟩) (by assumption) ?rest5a
              case hy5a => (intro W hSw; go_simp; first | done | with_reducible rfl)
              simp only [Act.put, List.getElem_toArray, List.getElem_cons_zero, List.getElem_cons_succ, List.setIfInBounds_toArray, List.set_cons_zero, List.set_cons_succ]
              refine wpAnyH_take (i := 6) (v := ?v6a) rfl (by kernel_rfl) (by kernel_rfl) (by kernel_rfl) (fun _ _ _ h => h) (Or.inl ⟨by rfl, ?hy6a⟩) (by assumption) ?rest6a
              case hy6a => (intro W hSw; go_simp; first | done | with_reducible rfl)
              simp only [Act.put, List.getElem_toArray, List.getElem_cons_zero, List.getElem_cons_succ, List.setIfInBounds_toArray, List.set_cons_zero, List.set_cons_succ]
              refine wpAnyH_take (i := 7) (v := ?v7a) rfl (by kernel_rfl) (by kernel_rfl) (by kernel_rfl) (fun _ _ _ h => h) (Or.inl ⟨by rfl, ?hy7a⟩) (by assumption) ?rest7a
              case hy7a => (intro W hSw; go_simp; first | done | with_reducible rfl)
              simp only [Act.put, List.getElem_toArray, List.getElem_cons_zero, List.getElem_cons_succ, List.setIfInBounds_toArray, List.set_cons_zero, List.set_cons_succ]
              refine wpAnyH_ready (rs := [8]) (by kernel_rfl) (by simp) ?_
              refine AllReadyH.cons (o := _) rfl (fun K hK => ?_) (AllReadyH.nil)
              simp only [List.getElem_toArray, List.getElem_cons_zero, List.getElem_cons_succ]
              go_simp
              refine (HWR.out).mono ?_
              rintro e w5 ⟨F5, rfl, h1, h2⟩
              have h2' : MemStep F1 F5 w4 w5 := (MemStep.of_below ((Below.refl w4.heap.size w4).drew)).trans h2
              have KB5 := Lib.hid (h2'.heap KB4.out HKB.out.2)
              have HNF5 := Lib.hid (h2'.off (lt_heap KB4.out) HKB.out.2)
              have HR5 := Lib.hid (And.intro h1 (HR4.out.2.trans h2'))
              have HB5 := Lib.hid (HB4.out.kx h2')
              have HM5 := Lib.hid ((write_nR m' x ((bs.drop d).take z)).trans HMN.out)
              refine hK.out _ _ KB5.out (fun hH1 => ?_)
              clear hK K hH0 h1 h2 h2' HWR KB4 HR4 HB4
              try simp only [Act.put, List.setIfInBounds_toArray, List.set_cons_zero, List.set_cons_succ]
              refine wpAnyH_take (i := 9) (v := ?v9a) rfl (by kernel_rfl) (by kernel_rfl) (by kernel_rfl) (fun _ _ _ h => h) (Or.inl ⟨by rfl, ?hy9a⟩) (by assumption) ?rest9a
              case hy9a => (intro W hSw; go_simp; first | done | with_reducible rfl)
              simp only [Act.put, List.getElem_toArray, List.getElem_cons_zero, List.getElem_cons_succ, List.setIfInBounds_toArray, List.set_cons_zero, List.set_cons_succ]
              refine wpAnyH_take (i := 10) (v := ?v10a) rfl (by kernel_rfl) (by kernel_rfl) (by kernel_rfl) (fun _ _ _ h => h) (Or.inl ⟨by rfl, ?hy10a⟩) (by assumption) ?rest10a
              case hy10a => (intro W hSw; go_simp; first | done | with_reducible rfl)
              simp only [Act.put, List.getElem_toArray, List.getElem_cons_zero, List.getElem_cons_succ, List.setIfInBounds_toArray, List.set_cons_zero, List.set_cons_succ]
              refine wpAnyH_done (by kernel_rfl) ?_ _
              clear hH1
              by_cases hsel : bd = z
              · have hsel1 : (if bd = z then some (⟨b, o, none⟩ : Addr) else some ⟨b, o + z, none⟩) = some ⟨b, o, none⟩ := if_pos hsel
                have HE := Lib.hid hsel
                clear hsel
                go_wp2_with fail
                go_roundw
                case rel => exact ⟨c + 1, d + z, bd - z, some ⟨b, o, none⟩, _, F5, by omega, by go_num, by have := HZ.out; have := HKS.out; omega, by have := HZ.out; first | rfl | (congr 1 <;> omega), by have := HZ.out; have := HE.out; omega, fun hne => absurd (List.drop_of_length_le (by have := HE.out; have := HNB.out; have := HZ.out; have := HKS.out; omega)) hne, HR5.out.1, HM5.out, HR5.out.2, HG.out.symm.trans HSC.out, KB5.out, HNF5.out⟩
                case measure => simp [intOf]; omega
              · have hsel1 : (if bd = z then some (⟨b, o, none⟩ : Addr) else some ⟨b, o + z, none⟩) = some ⟨b, o + z, none⟩ := if_neg hsel
                clear hsel
                go_wp2_with fail
                go_roundw
                case rel => exact ⟨c + 1, d + z, bd - z, some ⟨b, o + z, none⟩, _, F5, by omega, by go_num, by have := HZ.out; have := HKS.out; omega, by have := HZ.out; first | rfl | (congr 1 <;> omega), by have := HZ.out; omega, by have h := HB5.out.drop z; rw [List.drop_drop] at h; exact h, HR5.out.1, HM5.out, HR5.out.2, HG.out.symm.trans HSC.out, KB5.out, HNF5.out⟩
                case measure => simp [intOf]; omega
    · obtain rfl : L = c := by omega
      have HT := Lib.hid (show rscat m' (l.drop L) (bs.drop d) = m' from by rw [List.drop_of_length_le (by rw [HL.out]; exact Nat.le_refl _)]; rfl)
      clear hlt hc
      go_wp2_with fail
      go_ret
      exact ⟨F1, rfl, by rw [← HSC.out, HT.out]; exact HR.out.1, HR.out.2⟩
end Go.Proofs.YtcbjlpkkebcmjaaDoor
