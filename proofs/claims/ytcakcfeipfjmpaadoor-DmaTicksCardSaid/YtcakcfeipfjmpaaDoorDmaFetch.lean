/-
fetch of package dma, walked.
Condition: the table of regions of package bus reads as its text lays it.
-/
import Derived.Test.YtcakcfeipfjmpaaDoorDmaMem
import Derived.RegionTactic
import Derived.Lib.EndianBits
namespace Go.Proofs.YtcakcfeipfjmpaaDoor
open Go.RowKit Go.Lib

theorem MemStep.own {F F' : Nat → Prop} {a w w' : World} {b : Nat} (h : MemStep F F' a w) (hk : KX (fun k => k = b) w w') (hb : a.heap.size ≤ b) : MemStep F F' a w' :=
  ⟨⟨hk.os.trans h.kx.os, hk.tape.trans h.kx.tape, hk.output.trans h.kx.output, Nat.le_trans h.kx.size hk.size, fun k hl hn => (hk.block k (Nat.lt_of_lt_of_le hl h.kx.size) (by omega)).trans (h.kx.block k hl hn)⟩, h.gr⟩
/-- The bytes of the first i that belong to word j, as a number. -/
def pw (f : Nat → UInt8) (i j : Nat) : Nat := (if 4 * j < i then (f (4 * j)).toNat else 0) + (if 4 * j + 1 < i then (f (4 * j + 1)).toNat * 256 else 0) + (if 4 * j + 2 < i then (f (4 * j + 2)).toNat * 65536 else 0) + (if 4 * j + 3 < i then (f (4 * j + 3)).toNat * 16777216 else 0)
def wrow (f : Nat → UInt8) (i : Nat) : Array Value := #[.int .u32 (pw f i 0 : Nat), .int .u32 (pw f i 1 : Nat), .int .u32 (pw f i 2 : Nat), .int .u32 (pw f i 3 : Nat)]
theorem u8_lt (x : UInt8) : x.toNat < 256 := x.toNat_lt
theorem wrow_get (f : Nat → UInt8) (i j : Nat) (hj : j < 4) : (wrow f i)[j]? = some (.int .u32 (pw f i j : Nat)) := by
  match j, hj with
  | 0, _ => rfl
  | 1, _ => rfl
  | 2, _ => rfl
  | 3, _ => rfl
theorem pw_step (f : Nat → UInt8) (k : Nat) : bits BinOp.or .u32 ((pw f k (k / 4) : Nat) : Int) (((f k).toNat : Int) * 2 ^ (8 * (k % 4)) % 4294967296) = ((pw f (k + 1) (k / 4) : Nat) : Int) := by
  obtain ⟨j, hj⟩ : ∃ j, j = k / 4 := ⟨_, rfl⟩
  have h0 := u8_lt (f (4 * j))
  have h1 := u8_lt (f (4 * j + 1))
  have h2 := u8_lt (f (4 * j + 2))
  have h3 := u8_lt (f (4 * j + 3))
  rw [← hj]
  have hr : k % 4 = 0 ∨ k % 4 = 1 ∨ k % 4 = 2 ∨ k % 4 = 3 := by omega
  rcases hr with hr | hr | hr | hr
  · have hk : k = 4 * j := by omega
    rw [hr, hk]
    have e1 : pw f (4 * j) j = 0 := by unfold pw; rw [if_neg (by omega), if_neg (by omega), if_neg (by omega), if_neg (by omega)]
    have e2 : pw f (4 * j + 1) j = (f (4 * j)).toNat := by unfold pw; rw [if_pos (by omega), if_neg (by omega), if_neg (by omega), if_neg (by omega)]; omega
    rw [e1, e2]
    have e3 : (((f (4 * j)).toNat : Int) * 2 ^ (8 * 0) % 4294967296) = ((f (4 * j)).toNat : Int) := by
      rw [show (2 : Int) ^ (8 * 0) = 1 from rfl]; omega
    rw [e3, bits_join .u32 32 (by decide) (fun n a b => by rw [IntKind.wrap_u32]; omega) 8 _ _ (by omega) (by omega) (by omega) (by omega) (by omega) (by omega)]
    omega
  · have hk : k = 4 * j + 1 := by omega
    rw [hr, hk]
    have e1 : pw f (4 * j + 1) j = (f (4 * j)).toNat := by unfold pw; rw [if_pos (by omega), if_neg (by omega), if_neg (by omega), if_neg (by omega)]; omega
    have e2 : pw f (4 * j + 1 + 1) j = (f (4 * j)).toNat + (f (4 * j + 1)).toNat * 256 := by unfold pw; rw [if_pos (by omega), if_pos (by omega), if_neg (by omega), if_neg (by omega)]; omega
    rw [e1, e2]
    have e3 : (((f (4 * j + 1)).toNat : Int) * 2 ^ (8 * 1) % 4294967296) = ((f (4 * j + 1)).toNat : Int) * 256 := by
      rw [show (2 : Int) ^ (8 * 1) = 256 from rfl]; omega
    rw [e3, u32_or8 _ _ (by omega) (by omega) (by omega) (by omega) (by omega)]
    omega
  · have hk : k = 4 * j + 2 := by omega
    rw [hr, hk]
    have e1 : pw f (4 * j + 2) j = (f (4 * j)).toNat + (f (4 * j + 1)).toNat * 256 := by unfold pw; rw [if_pos (by omega), if_pos (by omega), if_neg (by omega), if_neg (by omega)]; omega
    have e2 : pw f (4 * j + 2 + 1) j = (f (4 * j)).toNat + (f (4 * j + 1)).toNat * 256 + (f (4 * j + 2)).toNat * 65536 := by unfold pw; rw [if_pos (by omega), if_pos (by omega), if_pos (by omega), if_neg (by omega)]; omega
    rw [e1, e2]
    have e3 : (((f (4 * j + 2)).toNat : Int) * 2 ^ (8 * 2) % 4294967296) = ((f (4 * j + 2)).toNat : Int) * 65536 := by
      rw [show (2 : Int) ^ (8 * 2) = 65536 from rfl]; omega
    rw [e3, u32_or16 _ _ (by omega) (by omega) (by omega) (by omega) (by omega)]
    omega
  · have hk : k = 4 * j + 3 := by omega
    rw [hr, hk]
    have e1 : pw f (4 * j + 3) j = (f (4 * j)).toNat + (f (4 * j + 1)).toNat * 256 + (f (4 * j + 2)).toNat * 65536 := by unfold pw; rw [if_pos (by omega), if_pos (by omega), if_pos (by omega), if_neg (by omega)]; omega
    have e2 : pw f (4 * j + 3 + 1) j = (f (4 * j)).toNat + (f (4 * j + 1)).toNat * 256 + (f (4 * j + 2)).toNat * 65536 + (f (4 * j + 3)).toNat * 16777216 := by unfold pw; rw [if_pos (by omega), if_pos (by omega), if_pos (by omega), if_pos (by omega)]
    rw [e1, e2]
    have e3 : (((f (4 * j + 3)).toNat : Int) * 2 ^ (8 * 3) % 4294967296) = ((f (4 * j + 3)).toNat : Int) * 16777216 := by
      rw [show (2 : Int) ^ (8 * 3) = 16777216 from rfl]; omega
    rw [e3, u32_or24 _ _ (by omega) (by omega) (by omega) (by omega) (by omega)]
    omega
theorem pw_other (f : Nat → UInt8) (k j : Nat) (h : j ≠ k / 4) : pw f (k + 1) j = pw f k j := by
  unfold pw
  have e : ∀ r, r < 4 → ((4 * j + r < k + 1) = (4 * j + r < k)) := fun r hr => propext ⟨fun _ => by omega, fun _ => by omega⟩
  have e0 := e 0 (by omega)
  have e1 := e 1 (by omega)
  have e2 := e 2 (by omega)
  have e3 := e 3 (by omega)
  simp only [Nat.add_zero] at e0
  simp only [e0, e1, e2, e3]
theorem wrow_step (f : Nat → UInt8) (k : Nat) (hk : k < 16) : (wrow f k).setIfInBounds (k / 4) (.int .u32 (bits BinOp.or .u32 ((pw f k (k / 4) : Nat) : Int) (((f k).toNat : Int) * 2 ^ (8 * (k % 4)) % 4294967296))) = wrow f (k + 1) := by
  rw [pw_step]
  have h4 : k / 4 < 4 := by omega
  generalize hq : k / 4 = q at h4
  apply Array.ext_getElem?
  intro i
  by_cases hi : i < 4
  · rw [wrow_get f (k + 1) i hi]
    by_cases e : i = q
    · subst e
      simp [wrow, hi]
    · rw [Array.getElem?_setIfInBounds_ne (fun e' => e e'.symm), wrow_get f k i hi, pw_other f k i (by rw [hq]; exact e)]
  · rw [Array.getElem?_eq_none (by simp [wrow]; omega), Array.getElem?_eq_none (by simp [wrow]; omega)]

set_option maxRecDepth 100000 in
set_option maxHeartbeats 4000000 in
theorem dma_fetch_zero (head at_ steps moved : Nat) (have_ : Bool) (from_ to_ left next code : Nat) (asks : Bool) (x0 W0 W1 W2 W3 : Nat) {g : Nat} {m : Mm} {F : Nat → Prop} {w : World} (h : RamIs w g m F) (hr : RegAt w) (hst : steps < 64) (ha : at_ < 4294967296) (h31 : 2147483648 ≤ at_) (hx0 : at_ - 2147483648 = x0) (hm : at_ % 4 = 0) (hs : x0 + 16 ≤ 4096 * m.n) (HWR : Hid (wrow (fun x => m.f (x0 + x)) 16 = #[.int .u32 (W0 : Nat), .int .u32 (W1 : Nat), .int .u32 (W2 : Nat), .int .u32 (W3 : Nat)])) (hW : W2 < 1) :
    Calls Tryd.prog 53 #[.agg #[.int .u32 code, .int .u32 head, .int .u32 at_, .int .u32 steps, .int .u32 moved, .bool have_, .int .u32 from_, .int .u32 to_, .int .u32 left, .int .u32 next, .bool asks], .pointer (some ⟨g, 0, none⟩)] w fun e w' => e = .returned (.agg #[.int .u32 3, .int .u32 head, .int .u32 at_, .int .u32 ((steps : Int) + 1), .int .u32 moved, .bool false, .int .u32 0, .int .u32 0, .int .u32 0, .int .u32 0, .bool true]) ∧ ∃ F', RamIs w' g m F' ∧ MemStep F F' w w' := by
  obtain ⟨k0, k1, hb0⟩ := two_new w (.cells #[.int .u32 code, .int .u32 head, .int .u32 at_, .int .u32 steps, .int .u32 moved, .bool have_, .int .u32 from_, .int .u32 to_, .int .u32 left, .int .u32 next, .bool asks] 33) (.cells #[.int .u32 0, .int .u32 0, .int .u32 0, .int .u32 0, .int .u32 0, .bool false, .int .u32 0, .int .u32 0, .int .u32 0, .int .u32 0, .bool false] 33)
  have K0 := Lib.hid k0
  have K1 := Lib.hid k1
  have HB0 := Lib.hid hb0
  clear k0 k1 hb0
  have HRD := Lib.hid (fun W (hb : Below w.heap.size w W) => dma_read_ok (h.below hb) at_ 16 ha (by omega) h31 (by omega) (hr.below hb))
  rw [hx0] at HRD
  have HF0 := Lib.hid h.lt
  have hst64 : ((steps : Int) == 64) = false := by simp; omega
  have hm4 : ((at_ : Int) % 4 != 0) = false := by simp; omega
  clear h hr hx0 h31
  go_enter Tryd.func53, Tryd.ntmps53
  go_wp2_with fail
  refine (HRD.out _ HB0.out).mono ?_
  rintro e w1 ⟨v, F1, rfl, h1, h2, h3, h4⟩
  have HNA : Hid (¬ F1 w.heap.size) := Lib.hid (fun hf => (h2.gr _ hf).elim (fun hf => absurd (HF0.out _ hf) (Nat.lt_irrefl _)) (fun hl => by simp at hl; omega))
  have HNB : Hid (¬ F1 (w.heap.size + 1)) := Lib.hid (fun hf => (h2.gr _ hf).elim (fun hf => absurd (HF0.out _ hf) (by omega)) (fun hl => by simp at hl; omega))
  have KA := Lib.hid (h2.heap K0.out (fun hf => by have := HF0.out _ hf; omega))
  clear K0
  have KB := Lib.hid (h2.heap K1.out (fun hf => by have := HF0.out _ hf; omega))
  clear K1
  have HB := Lib.hid (And.intro h1 ((MemStep.of_below HB0.out).trans h2))
  clear HB0
  obtain ⟨av, cv, rfl⟩ := ownsRow_form h3
  obtain ⟨gv, rfl⟩ : ∃ gv, av = some ⟨gv, 0, none⟩ := by
    rcases h3.2 with ⟨_, h0⟩ | ⟨gv, _, _, hv, _⟩
    · exact absurd h0 (by omega)
    · exact ⟨gv, by simpa using (congrArg (fun v => match v with | Value.slice a _ _ => a | _ => none) hv)⟩
  have HOV := Lib.hid h3
  have HVF : Hid (¬ F1 gv) := Lib.hid (h4 gv rfl)
  clear h1 h2 h3 h4
  have c1 := (cell_of_row _ _ 2 _ _ _ KA.out).trans (rfl : _ = some (.int .u32 at_ : Value))
  have c2 := (cell_of_row _ _ 3 _ _ _ KA.out).trans (rfl : _ = some (.int .u32 steps : Value))
  have f3 := fun j => frozen_of_row _ _ j _ _ KA.out
  go_upto_region 5 with fail
  clear c1 c2 f3
  have hb7 : Below w1.heap.size w1 (w1.alloc (.cells #[.int .u32 0, .int .u32 0, .int .u32 0, .int .u32 0] 102)) := (Below.refl _ _).alloc (Nat.le_refl _) _
  have k7 : (w1.alloc (.cells #[.int .u32 0, .int .u32 0, .int .u32 0, .int .u32 0] 102)).heap[w1.heap.size]? = some (.cells (wrow (fun x => m.f (x0 + x)) 0) 102 (0, 0)) := (heap_alloc_new _ _).trans (by simp [wrow, pw])
  have HN7 : Hid (¬ F1 w1.heap.size) := Lib.hid (fun hf => absurd (HB.out.1.lt _ hf) (Nat.lt_irrefl _))
  have HS7 : Hid (w.heap.size + 1 < w1.heap.size) := Lib.hid (lt_heap KB.out)
  have HG7 : Hid (gv < w1.heap.size) := Lib.hid (ownsRow_lt HOV.out rfl).2
  have KA2 := Lib.hid (keepB KA.out hb7)
  have KB2 := Lib.hid (keepB KB.out hb7)
  have HB2 := Lib.hid (And.intro (HB.out.1.below hb7) (HB.out.2.below hb7))
  have HOV2 := Lib.hid (ownsRow_keep HOV.out (w' := w1.alloc (.cells #[.int .u32 0, .int .u32 0, .int .u32 0, .int .u32 0] 102)) (fun b hb => hb7.block b (ownsRow_lt HOV.out hb).2))
  have K72 := Lib.hid k7
  clear hb7 k7 KA KB HB HOV
  generalize w1.alloc (.cells #[.int .u32 0, .int .u32 0, .int .u32 0, .int .u32 0] 102) = w2 at KA2 KB2 HB2 HOV2 K72 ⊢
  generalize w1.heap.size = b7 at HN7 HS7 HG7 K72 ⊢
  have hs7 := HS7.out
  go_wp2_with fail
  go_loopw [34] (fun i wr => ∃ k : Nat, k ≤ 16 ∧ i = .int .i64 k ∧ wr.heap[w.heap.size]? = some (.cells #[.int .u32 code, .int .u32 head, .int .u32 at_, .int .u32 steps, .int .u32 moved, .bool have_, .int .u32 from_, .int .u32 to_, .int .u32 left, .int .u32 next, .bool asks] 33 (0, 0)) ∧ wr.heap[w.heap.size + 1]? = some (.cells #[.int .u32 0, .int .u32 0, .int .u32 0, .int .u32 0, .int .u32 0, .bool false, .int .u32 0, .int .u32 0, .int .u32 0, .int .u32 0, .bool false] 33 (0, 0)) ∧ wr.heap[b7]? = some (.cells (wrow (fun x => m.f (x0 + x)) k) 102 (0, 0)) ∧ (RamIs wr g m F1 ∧ MemStep F F1 w wr) ∧ wr.ownsRow (((w.alloc (.cells #[.int .u32 code, .int .u32 head, .int .u32 at_, .int .u32 steps, .int .u32 moved, .bool have_, .int .u32 from_, .int .u32 to_, .int .u32 left, .int .u32 next, .bool asks] 33)).alloc (.cells #[.int .u32 0, .int .u32 0, .int .u32 0, .int .u32 0, .int .u32 0, .bool false, .int .u32 0, .int .u32 0, .int .u32 0, .int .u32 0, .bool false] 33)).heap.size) 5 1 (.slice (some ⟨gv, 0, none⟩) 16 cv) 16 ((cut m.f x0 16).map B8)) (fun i _ => 16 - (intOf i).toNat)
  case atStart => exact ⟨0, by omega, rfl, KA2.out, KB2.out, K72.out, HB2.out, HOV2.out⟩
  case round =>
    obtain ⟨k, hk, rfl, ka, kb, kc, hfr, hov⟩ := hrel
    have KA3 := Lib.hid ka
    have KB3 := Lib.hid kb
    have KC3 := Lib.hid kc
    have HB3 := Lib.hid hfr
    have HOV3 := Lib.hid hov
    clear ka kb kc hfr hov KA2 KB2 K72 HB2 HOV2
    by_cases hlt : k < 16
    · have hcv := (HOV3.out.cellAt k (by omega)).trans (by rw [List.getElem?_map, cut_get _ _ _ _ hlt]; rfl : _ = some (B8 (m.f (x0 + k))))
      have hcw := (cell_of_row _ _ (k / 4) _ _ _ KC3.out).trans (wrow_get _ _ _ (by omega))
      have hfz := frozen_of_row _ _ (k / 4) _ _ KC3.out
      unfold B8 at hcv
      have hu8 := u8_lt (m.f (x0 + k))
      obtain ⟨c8, hc8⟩ : ∃ c8, c8 = (m.f (x0 + k)).toNat := ⟨_, rfl⟩
      rw [← hc8] at hcv hu8
      have HC8 := Lib.hid hc8
      clear hc8
      have hk0 : (0 : Int) ≤ (k : Int) := by omega
      have hk16 : (k : Int) < 16 := by omega
      have HV := Lib.hid (ownsRow_lt HOV3.out (b := gv) rfl)
      have hg7 := HG7.out
      go_upto_region 8 with fail
      go_region
      go_wp2_with fail
      go_roundw
      case rel =>
        have hkx : KX (fun q => q = b7) wr (wr.setCell ⟨b7, k / 4, none⟩ (.int .u32 (bits BinOp.or .u32 ((pw (fun x => m.f (x0 + x)) k (k / 4) : Nat) : Int) ((c8 : Int) * 2 ^ (8 * (k % 4)) % 4294967296)))).drew := ((KX.refl (fun q => q = b7) wr).setCell (p := ⟨b7, k / 4, none⟩) (.inl rfl) _).drew
        have hq7 : ∀ q, (Value.slice (some ⟨gv, 0, none⟩) 16 cv).ownBlock = some q → ¬ q = b7 := fun q hq e => by
          have h1 : gv = q := by simpa [Value.ownBlock] using hq
          omega
        refine ⟨k + 1, by omega, by go_num, hkx.heap KA3.out (by omega), hkx.heap KB3.out (by omega), ?_, ⟨HB3.out.1.kx hkx (fun q _ hf e => HN7.out (e ▸ hf)), HB3.out.2.own hkx (by omega)⟩, ownsRow_keep HOV3.out (fun q hq => hkx.block q (ownsRow_lt HOV3.out hq).2 (hq7 q hq))⟩
        refine (set_cells KC3.out).trans ?_
        have hst := wrow_step (fun x => m.f (x0 + x)) k hlt
        rw [HC8.out]
        rw [hst]
      case measure => simp [intOf]; omega
    · obtain rfl : k = 16 := by omega
      clear hlt hk
      have hc16 : wr.heap[b7]? = some (.cells #[.int .u32 (W0 : Nat), .int .u32 (W1 : Nat), .int .u32 (W2 : Nat), .int .u32 (W3 : Nat)] 102 (0, 0)) := KC3.out.trans (by rw [HWR.out])
      have KC4 := Lib.hid hc16
      clear hc16 KC3
      have c4 := (cell_of_row _ _ 3 _ _ _ KA3.out).trans (rfl : _ = some (.int .u32 steps : Value))
      have f5 := fun j => frozen_of_row _ _ j _ _ KA3.out
      have c6 := (cell_of_row _ _ 2 _ _ _ KC4.out).trans (rfl : _ = some (.int .u32 (W2 : Nat) : Value))
      have f7 := fun j => frozen_of_row _ _ j _ _ KC4.out
      have hst1 : (0 : Int) ≤ (steps : Int) := by omega
      have hst2 : (steps : Int) < 64 := by omega
      have hkk : ((wr).setCell ⟨w.heap.size, 3, none⟩ (.int .u32 ((steps : Int) + 1))).heap[w.heap.size]? = some (.cells #[.int .u32 code, .int .u32 head, .int .u32 at_, .int .u32 ((steps : Int) + 1), .int .u32 moved, .bool have_, .int .u32 from_, .int .u32 to_, .int .u32 left, .int .u32 next, .bool asks] 33 (0, 0)) := (set_cells (KA3.out)).trans rfl
      have hx9 := Lib.hid (show KX (fun k => k = w.heap.size) wr ((wr).setCell ⟨w.heap.size, 3, none⟩ (.int .u32 ((steps : Int) + 1))) from (KX.refl (fun k => k = w.heap.size) wr).setCell (p := ⟨w.heap.size, 3, none⟩) (.inl rfl) _)
      go_upto_region 11 with fail
      generalize ((wr).setCell ⟨w.heap.size, 3, none⟩ (.int .u32 ((steps : Int) + 1))) = w8 at hkk hx9 ⊢
      clear c4 f5 c6 f7
      have K10 := Lib.hid (hx9.out.heap KB3.out (by omega))
      clear KB3
      have K11 := Lib.hid (hx9.out.heap KC4.out (by omega))
      clear KC4
      have K12 := Lib.hid hkk
      clear hkk KA3
      have HB13 := Lib.hid (And.intro (HB3.out.1.kx hx9.out (fun k _ hf e => by subst e; exact HNA.out hf)) (HB3.out.2.own hx9.out (by omega)))
      clear HB3 hx9
      have c14 := (cell_of_row _ _ 0 _ _ _ K11.out).trans (rfl : _ = some (.int .u32 (W0 : Nat) : Value))
      have c15 := (cell_of_row _ _ 1 _ _ _ K11.out).trans (rfl : _ = some (.int .u32 (W1 : Nat) : Value))
      have c16 := (cell_of_row _ _ 2 _ _ _ K11.out).trans (rfl : _ = some (.int .u32 (W2 : Nat) : Value))
      have c17 := (cell_of_row _ _ 3 _ _ _ K11.out).trans (rfl : _ = some (.int .u32 (W3 : Nat) : Value))
      have f18 := fun j => frozen_of_row _ _ j _ _ K11.out
      have hes : ((steps + 1 : Nat) : Int) = (steps : Int) + 1 := rfl
      have HE := Lib.hid (fun W => dma_ended ⟨code, head, at_, steps + 1, moved, have_, from_, to_, left, next, asks⟩ 3 W)
      simp only [Dst.c, Dst.without, Dst.ended] at HE
      rw [hes] at HE
      clear hes
      go_wp2_with (refine wpList_load_row rfl 33 _ rfl (w.heap.size) rfl 33 #[.int .u32 code, .int .u32 head, .int .u32 at_, .int .u32 ((steps : Int) + 1), .int .u32 moved, .bool have_, .int .u32 from_, .int .u32 to_, .int .u32 left, .int .u32 next, .bool asks] (0, 0) _ K12.out Tryd.underlying33 rfl (by kernel_rfl) ?_)
      refine (HE.out _).mono ?_
      rintro e w9 ⟨rfl, hb⟩
      clear c14 c15 c16 c17 f18
      have K19 := Lib.hid (keepB K12.out hb)
      clear K12
      have K20 := Lib.hid (keepB K10.out hb)
      clear K10
      have K21 := Lib.hid (keepB K11.out hb)
      clear K11
      have HB22 := Lib.hid (And.intro (HB13.out.1.below hb) (HB13.out.2.below hb))
      clear HB13
      clear hb
      have HO23 := Lib.hid (show (#[.int .u32 3, .int .u32 head, .int .u32 at_, .int .u32 ((steps : Int) + 1), .int .u32 moved, .bool false, .int .u32 0, .int .u32 0, .int .u32 0, .int .u32 0, .bool true] : Array Value).all (·.oneCell') = true by simp [Value.oneCell'])
      go_wp2_with (refine wpList_store_to rfl 33 _ _ rfl (w.heap.size + 1) #[.int .u32 3, .int .u32 head, .int .u32 at_, .int .u32 ((steps : Int) + 1), .int .u32 moved, .bool false, .int .u32 0, .int .u32 0, .int .u32 0, .int .u32 0, .bool true] rfl rfl 33 #[.int .u32 0, .int .u32 0, .int .u32 0, .int .u32 0, .int .u32 0, .bool false, .int .u32 0, .int .u32 0, .int .u32 0, .int .u32 0, .bool false] K20.out (by kernel_rfl) rfl HO23.out ?_)
      intro w24 hx25 hkk
      have K26 := Lib.hid (hx25.out.heap K19.out (by omega))
      clear K19
      have K27 := Lib.hid (hx25.out.heap K21.out (by omega))
      clear K21
      have K28 := Lib.hid hkk
      clear hkk K20
      have HB29 := Lib.hid (And.intro (HB22.out.1.kx hx25.out (fun k _ hf e => by subst e; exact HNB.out hf)) (HB22.out.2.own hx25.out (by omega)))
      clear HB22 hx25
      go_wp2_with fail
      exact bodyPost_ret (v := .agg #[.int .u32 3, .int .u32 head, .int .u32 at_, .int .u32 ((steps : Int) + 1), .int .u32 moved, .bool false, .int .u32 0, .int .u32 0, .int .u32 0, .int .u32 0, .bool true]) (results_cell_row Tryd.results53 _ _ (w.heap.size + 1) 33 #[.int .u32 3, .int .u32 head, .int .u32 at_, .int .u32 ((steps : Int) + 1), .int .u32 moved, .bool false, .int .u32 0, .int .u32 0, .int .u32 0, .int .u32 0, .bool true] (0, 0) _ rfl K28.out Tryd.underlying33 rfl (by kernel_rfl)) rfl ⟨rfl, F1, HB29.out.1, HB29.out.2⟩
set_option maxRecDepth 100000 in
set_option maxHeartbeats 4000000 in
theorem dma_fetch_long (head at_ steps moved : Nat) (have_ : Bool) (from_ to_ left next code : Nat) (asks : Bool) (x0 W0 W1 W2 W3 : Nat) {g : Nat} {m : Mm} {F : Nat → Prop} {w : World} (h : RamIs w g m F) (hr : RegAt w) (hst : steps < 64) (ha : at_ < 4294967296) (h31 : 2147483648 ≤ at_) (hx0 : at_ - 2147483648 = x0) (hm : at_ % 4 = 0) (hs : x0 + 16 ≤ 4096 * m.n) (HWR : Hid (wrow (fun x => m.f (x0 + x)) 16 = #[.int .u32 (W0 : Nat), .int .u32 (W1 : Nat), .int .u32 (W2 : Nat), .int .u32 (W3 : Nat)])) (hW2 : 65536 < W2) :
    Calls Tryd.prog 53 #[.agg #[.int .u32 code, .int .u32 head, .int .u32 at_, .int .u32 steps, .int .u32 moved, .bool have_, .int .u32 from_, .int .u32 to_, .int .u32 left, .int .u32 next, .bool asks], .pointer (some ⟨g, 0, none⟩)] w fun e w' => e = .returned (.agg #[.int .u32 3, .int .u32 head, .int .u32 at_, .int .u32 ((steps : Int) + 1), .int .u32 moved, .bool false, .int .u32 0, .int .u32 0, .int .u32 0, .int .u32 0, .bool true]) ∧ ∃ F', RamIs w' g m F' ∧ MemStep F F' w w' := by
  obtain ⟨k0, k1, hb0⟩ := two_new w (.cells #[.int .u32 code, .int .u32 head, .int .u32 at_, .int .u32 steps, .int .u32 moved, .bool have_, .int .u32 from_, .int .u32 to_, .int .u32 left, .int .u32 next, .bool asks] 33) (.cells #[.int .u32 0, .int .u32 0, .int .u32 0, .int .u32 0, .int .u32 0, .bool false, .int .u32 0, .int .u32 0, .int .u32 0, .int .u32 0, .bool false] 33)
  have K0 := Lib.hid k0
  have K1 := Lib.hid k1
  have HB0 := Lib.hid hb0
  clear k0 k1 hb0
  have HRD := Lib.hid (fun W (hb : Below w.heap.size w W) => dma_read_ok (h.below hb) at_ 16 ha (by omega) h31 (by omega) (hr.below hb))
  rw [hx0] at HRD
  have HF0 := Lib.hid h.lt
  have hst64 : ((steps : Int) == 64) = false := by simp; omega
  have hm4 : ((at_ : Int) % 4 != 0) = false := by simp; omega
  clear h hr hx0 h31
  go_enter Tryd.func53, Tryd.ntmps53
  go_wp2_with fail
  refine (HRD.out _ HB0.out).mono ?_
  rintro e w1 ⟨v, F1, rfl, h1, h2, h3, h4⟩
  have HNA : Hid (¬ F1 w.heap.size) := Lib.hid (fun hf => (h2.gr _ hf).elim (fun hf => absurd (HF0.out _ hf) (Nat.lt_irrefl _)) (fun hl => by simp at hl; omega))
  have HNB : Hid (¬ F1 (w.heap.size + 1)) := Lib.hid (fun hf => (h2.gr _ hf).elim (fun hf => absurd (HF0.out _ hf) (by omega)) (fun hl => by simp at hl; omega))
  have KA := Lib.hid (h2.heap K0.out (fun hf => by have := HF0.out _ hf; omega))
  clear K0
  have KB := Lib.hid (h2.heap K1.out (fun hf => by have := HF0.out _ hf; omega))
  clear K1
  have HB := Lib.hid (And.intro h1 ((MemStep.of_below HB0.out).trans h2))
  clear HB0
  obtain ⟨av, cv, rfl⟩ := ownsRow_form h3
  obtain ⟨gv, rfl⟩ : ∃ gv, av = some ⟨gv, 0, none⟩ := by
    rcases h3.2 with ⟨_, h0⟩ | ⟨gv, _, _, hv, _⟩
    · exact absurd h0 (by omega)
    · exact ⟨gv, by simpa using (congrArg (fun v => match v with | Value.slice a _ _ => a | _ => none) hv)⟩
  have HOV := Lib.hid h3
  have HVF : Hid (¬ F1 gv) := Lib.hid (h4 gv rfl)
  clear h1 h2 h3 h4
  have c1 := (cell_of_row _ _ 2 _ _ _ KA.out).trans (rfl : _ = some (.int .u32 at_ : Value))
  have c2 := (cell_of_row _ _ 3 _ _ _ KA.out).trans (rfl : _ = some (.int .u32 steps : Value))
  have f3 := fun j => frozen_of_row _ _ j _ _ KA.out
  go_upto_region 5 with fail
  clear c1 c2 f3
  have hb7 : Below w1.heap.size w1 (w1.alloc (.cells #[.int .u32 0, .int .u32 0, .int .u32 0, .int .u32 0] 102)) := (Below.refl _ _).alloc (Nat.le_refl _) _
  have k7 : (w1.alloc (.cells #[.int .u32 0, .int .u32 0, .int .u32 0, .int .u32 0] 102)).heap[w1.heap.size]? = some (.cells (wrow (fun x => m.f (x0 + x)) 0) 102 (0, 0)) := (heap_alloc_new _ _).trans (by simp [wrow, pw])
  have HN7 : Hid (¬ F1 w1.heap.size) := Lib.hid (fun hf => absurd (HB.out.1.lt _ hf) (Nat.lt_irrefl _))
  have HS7 : Hid (w.heap.size + 1 < w1.heap.size) := Lib.hid (lt_heap KB.out)
  have HG7 : Hid (gv < w1.heap.size) := Lib.hid (ownsRow_lt HOV.out rfl).2
  have KA2 := Lib.hid (keepB KA.out hb7)
  have KB2 := Lib.hid (keepB KB.out hb7)
  have HB2 := Lib.hid (And.intro (HB.out.1.below hb7) (HB.out.2.below hb7))
  have HOV2 := Lib.hid (ownsRow_keep HOV.out (w' := w1.alloc (.cells #[.int .u32 0, .int .u32 0, .int .u32 0, .int .u32 0] 102)) (fun b hb => hb7.block b (ownsRow_lt HOV.out hb).2))
  have K72 := Lib.hid k7
  clear hb7 k7 KA KB HB HOV
  generalize w1.alloc (.cells #[.int .u32 0, .int .u32 0, .int .u32 0, .int .u32 0] 102) = w2 at KA2 KB2 HB2 HOV2 K72 ⊢
  generalize w1.heap.size = b7 at HN7 HS7 HG7 K72 ⊢
  have hs7 := HS7.out
  go_wp2_with fail
  go_loopw [34] (fun i wr => ∃ k : Nat, k ≤ 16 ∧ i = .int .i64 k ∧ wr.heap[w.heap.size]? = some (.cells #[.int .u32 code, .int .u32 head, .int .u32 at_, .int .u32 steps, .int .u32 moved, .bool have_, .int .u32 from_, .int .u32 to_, .int .u32 left, .int .u32 next, .bool asks] 33 (0, 0)) ∧ wr.heap[w.heap.size + 1]? = some (.cells #[.int .u32 0, .int .u32 0, .int .u32 0, .int .u32 0, .int .u32 0, .bool false, .int .u32 0, .int .u32 0, .int .u32 0, .int .u32 0, .bool false] 33 (0, 0)) ∧ wr.heap[b7]? = some (.cells (wrow (fun x => m.f (x0 + x)) k) 102 (0, 0)) ∧ (RamIs wr g m F1 ∧ MemStep F F1 w wr) ∧ wr.ownsRow (((w.alloc (.cells #[.int .u32 code, .int .u32 head, .int .u32 at_, .int .u32 steps, .int .u32 moved, .bool have_, .int .u32 from_, .int .u32 to_, .int .u32 left, .int .u32 next, .bool asks] 33)).alloc (.cells #[.int .u32 0, .int .u32 0, .int .u32 0, .int .u32 0, .int .u32 0, .bool false, .int .u32 0, .int .u32 0, .int .u32 0, .int .u32 0, .bool false] 33)).heap.size) 5 1 (.slice (some ⟨gv, 0, none⟩) 16 cv) 16 ((cut m.f x0 16).map B8)) (fun i _ => 16 - (intOf i).toNat)
  case atStart => exact ⟨0, by omega, rfl, KA2.out, KB2.out, K72.out, HB2.out, HOV2.out⟩
  case round =>
    obtain ⟨k, hk, rfl, ka, kb, kc, hfr, hov⟩ := hrel
    have KA3 := Lib.hid ka
    have KB3 := Lib.hid kb
    have KC3 := Lib.hid kc
    have HB3 := Lib.hid hfr
    have HOV3 := Lib.hid hov
    clear ka kb kc hfr hov KA2 KB2 K72 HB2 HOV2
    by_cases hlt : k < 16
    · have hcv := (HOV3.out.cellAt k (by omega)).trans (by rw [List.getElem?_map, cut_get _ _ _ _ hlt]; rfl : _ = some (B8 (m.f (x0 + k))))
      have hcw := (cell_of_row _ _ (k / 4) _ _ _ KC3.out).trans (wrow_get _ _ _ (by omega))
      have hfz := frozen_of_row _ _ (k / 4) _ _ KC3.out
      unfold B8 at hcv
      have hu8 := u8_lt (m.f (x0 + k))
      obtain ⟨c8, hc8⟩ : ∃ c8, c8 = (m.f (x0 + k)).toNat := ⟨_, rfl⟩
      rw [← hc8] at hcv hu8
      have HC8 := Lib.hid hc8
      clear hc8
      have hk0 : (0 : Int) ≤ (k : Int) := by omega
      have hk16 : (k : Int) < 16 := by omega
      have HV := Lib.hid (ownsRow_lt HOV3.out (b := gv) rfl)
      have hg7 := HG7.out
      go_upto_region 8 with fail
      go_region
      go_wp2_with fail
      go_roundw
      case rel =>
        have hkx : KX (fun q => q = b7) wr (wr.setCell ⟨b7, k / 4, none⟩ (.int .u32 (bits BinOp.or .u32 ((pw (fun x => m.f (x0 + x)) k (k / 4) : Nat) : Int) ((c8 : Int) * 2 ^ (8 * (k % 4)) % 4294967296)))).drew := ((KX.refl (fun q => q = b7) wr).setCell (p := ⟨b7, k / 4, none⟩) (.inl rfl) _).drew
        have hq7 : ∀ q, (Value.slice (some ⟨gv, 0, none⟩) 16 cv).ownBlock = some q → ¬ q = b7 := fun q hq e => by
          have h1 : gv = q := by simpa [Value.ownBlock] using hq
          omega
        refine ⟨k + 1, by omega, by go_num, hkx.heap KA3.out (by omega), hkx.heap KB3.out (by omega), ?_, ⟨HB3.out.1.kx hkx (fun q _ hf e => HN7.out (e ▸ hf)), HB3.out.2.own hkx (by omega)⟩, ownsRow_keep HOV3.out (fun q hq => hkx.block q (ownsRow_lt HOV3.out hq).2 (hq7 q hq))⟩
        refine (set_cells KC3.out).trans ?_
        have hst := wrow_step (fun x => m.f (x0 + x)) k hlt
        rw [HC8.out]
        rw [hst]
      case measure => simp [intOf]; omega
    · obtain rfl : k = 16 := by omega
      clear hlt hk
      have hc16 : wr.heap[b7]? = some (.cells #[.int .u32 (W0 : Nat), .int .u32 (W1 : Nat), .int .u32 (W2 : Nat), .int .u32 (W3 : Nat)] 102 (0, 0)) := KC3.out.trans (by rw [HWR.out])
      have KC4 := Lib.hid hc16
      clear hc16 KC3
      have c4 := (cell_of_row _ _ 3 _ _ _ KA3.out).trans (rfl : _ = some (.int .u32 steps : Value))
      have f5 := fun j => frozen_of_row _ _ j _ _ KA3.out
      have c6 := (cell_of_row _ _ 2 _ _ _ KC4.out).trans (rfl : _ = some (.int .u32 (W2 : Nat) : Value))
      have f7 := fun j => frozen_of_row _ _ j _ _ KC4.out
      have hst1 : (0 : Int) ≤ (steps : Int) := by omega
      have hst2 : (steps : Int) < 64 := by omega
      have hkk : ((wr).setCell ⟨w.heap.size, 3, none⟩ (.int .u32 ((steps : Int) + 1))).heap[w.heap.size]? = some (.cells #[.int .u32 code, .int .u32 head, .int .u32 at_, .int .u32 ((steps : Int) + 1), .int .u32 moved, .bool have_, .int .u32 from_, .int .u32 to_, .int .u32 left, .int .u32 next, .bool asks] 33 (0, 0)) := (set_cells (KA3.out)).trans rfl
      have hx9 := Lib.hid (show KX (fun k => k = w.heap.size) wr ((wr).setCell ⟨w.heap.size, 3, none⟩ (.int .u32 ((steps : Int) + 1))) from (KX.refl (fun k => k = w.heap.size) wr).setCell (p := ⟨w.heap.size, 3, none⟩) (.inl rfl) _)
      go_upto_region 11 with fail
      generalize ((wr).setCell ⟨w.heap.size, 3, none⟩ (.int .u32 ((steps : Int) + 1))) = w8 at hkk hx9 ⊢
      clear c4 f5 c6 f7
      have K10 := Lib.hid (hx9.out.heap KB3.out (by omega))
      clear KB3
      have K11 := Lib.hid (hx9.out.heap KC4.out (by omega))
      clear KC4
      have K12 := Lib.hid hkk
      clear hkk KA3
      have HB13 := Lib.hid (And.intro (HB3.out.1.kx hx9.out (fun k _ hf e => by subst e; exact HNA.out hf)) (HB3.out.2.own hx9.out (by omega)))
      clear HB3 hx9
      have c14 := (cell_of_row _ _ 0 _ _ _ K11.out).trans (rfl : _ = some (.int .u32 (W0 : Nat) : Value))
      have c15 := (cell_of_row _ _ 1 _ _ _ K11.out).trans (rfl : _ = some (.int .u32 (W1 : Nat) : Value))
      have c16 := (cell_of_row _ _ 2 _ _ _ K11.out).trans (rfl : _ = some (.int .u32 (W2 : Nat) : Value))
      have c17 := (cell_of_row _ _ 3 _ _ _ K11.out).trans (rfl : _ = some (.int .u32 (W3 : Nat) : Value))
      have f18 := fun j => frozen_of_row _ _ j _ _ K11.out
      have hes : ((steps + 1 : Nat) : Int) = (steps : Int) + 1 := rfl
      have HE := Lib.hid (fun W => dma_ended ⟨code, head, at_, steps + 1, moved, have_, from_, to_, left, next, asks⟩ 3 W)
      simp only [Dst.c, Dst.without, Dst.ended] at HE
      rw [hes] at HE
      clear hes
      go_wp2_with (refine wpList_load_row rfl 33 _ rfl (w.heap.size) rfl 33 #[.int .u32 code, .int .u32 head, .int .u32 at_, .int .u32 ((steps : Int) + 1), .int .u32 moved, .bool have_, .int .u32 from_, .int .u32 to_, .int .u32 left, .int .u32 next, .bool asks] (0, 0) _ K12.out Tryd.underlying33 rfl (by kernel_rfl) ?_)
      refine (HE.out _).mono ?_
      rintro e w9 ⟨rfl, hb⟩
      clear c14 c15 c16 c17 f18
      have K19 := Lib.hid (keepB K12.out hb)
      clear K12
      have K20 := Lib.hid (keepB K10.out hb)
      clear K10
      have K21 := Lib.hid (keepB K11.out hb)
      clear K11
      have HB22 := Lib.hid (And.intro (HB13.out.1.below hb) (HB13.out.2.below hb))
      clear HB13
      clear hb
      have HO23 := Lib.hid (show (#[.int .u32 3, .int .u32 head, .int .u32 at_, .int .u32 ((steps : Int) + 1), .int .u32 moved, .bool false, .int .u32 0, .int .u32 0, .int .u32 0, .int .u32 0, .bool true] : Array Value).all (·.oneCell') = true by simp [Value.oneCell'])
      go_wp2_with (refine wpList_store_to rfl 33 _ _ rfl (w.heap.size + 1) #[.int .u32 3, .int .u32 head, .int .u32 at_, .int .u32 ((steps : Int) + 1), .int .u32 moved, .bool false, .int .u32 0, .int .u32 0, .int .u32 0, .int .u32 0, .bool true] rfl rfl 33 #[.int .u32 0, .int .u32 0, .int .u32 0, .int .u32 0, .int .u32 0, .bool false, .int .u32 0, .int .u32 0, .int .u32 0, .int .u32 0, .bool false] K20.out (by kernel_rfl) rfl HO23.out ?_)
      intro w24 hx25 hkk
      have K26 := Lib.hid (hx25.out.heap K19.out (by omega))
      clear K19
      have K27 := Lib.hid (hx25.out.heap K21.out (by omega))
      clear K21
      have K28 := Lib.hid hkk
      clear hkk K20
      have HB29 := Lib.hid (And.intro (HB22.out.1.kx hx25.out (fun k _ hf e => by subst e; exact HNB.out hf)) (HB22.out.2.own hx25.out (by omega)))
      clear HB22 hx25
      go_wp2_with fail
      exact bodyPost_ret (v := .agg #[.int .u32 3, .int .u32 head, .int .u32 at_, .int .u32 ((steps : Int) + 1), .int .u32 moved, .bool false, .int .u32 0, .int .u32 0, .int .u32 0, .int .u32 0, .bool true]) (results_cell_row Tryd.results53 _ _ (w.heap.size + 1) 33 #[.int .u32 3, .int .u32 head, .int .u32 at_, .int .u32 ((steps : Int) + 1), .int .u32 moved, .bool false, .int .u32 0, .int .u32 0, .int .u32 0, .int .u32 0, .bool true] (0, 0) _ rfl K28.out Tryd.underlying33 rfl (by kernel_rfl)) rfl ⟨rfl, F1, HB29.out.1, HB29.out.2⟩
set_option maxRecDepth 100000 in
set_option maxHeartbeats 4000000 in
theorem dma_fetch_ok (head at_ steps moved : Nat) (have_ : Bool) (from_ to_ left next code : Nat) (asks : Bool) (x0 W0 W1 W2 W3 : Nat) {g : Nat} {m : Mm} {F : Nat → Prop} {w : World} (h : RamIs w g m F) (hr : RegAt w) (hst : steps < 64) (ha : at_ < 4294967296) (h31 : 2147483648 ≤ at_) (hx0 : at_ - 2147483648 = x0) (hm : at_ % 4 = 0) (hs : x0 + 16 ≤ 4096 * m.n) (HWR : Hid (wrow (fun x => m.f (x0 + x)) 16 = #[.int .u32 (W0 : Nat), .int .u32 (W1 : Nat), .int .u32 (W2 : Nat), .int .u32 (W3 : Nat)])) (hW1 : 1 ≤ W2) (hW2 : W2 ≤ 65536) :
    Calls Tryd.prog 53 #[.agg #[.int .u32 code, .int .u32 head, .int .u32 at_, .int .u32 steps, .int .u32 moved, .bool have_, .int .u32 from_, .int .u32 to_, .int .u32 left, .int .u32 next, .bool asks], .pointer (some ⟨g, 0, none⟩)] w fun e w' => e = .returned (.agg #[.int .u32 code, .int .u32 head, .int .u32 at_, .int .u32 ((steps : Int) + 1), .int .u32 moved, .bool true, .int .u32 (W0 : Nat), .int .u32 (W1 : Nat), .int .u32 (W2 : Nat), .int .u32 (W3 : Nat), .bool asks]) ∧ ∃ F', RamIs w' g m F' ∧ MemStep F F' w w' := by
  obtain ⟨k0, k1, hb0⟩ := two_new w (.cells #[.int .u32 code, .int .u32 head, .int .u32 at_, .int .u32 steps, .int .u32 moved, .bool have_, .int .u32 from_, .int .u32 to_, .int .u32 left, .int .u32 next, .bool asks] 33) (.cells #[.int .u32 0, .int .u32 0, .int .u32 0, .int .u32 0, .int .u32 0, .bool false, .int .u32 0, .int .u32 0, .int .u32 0, .int .u32 0, .bool false] 33)
  have K0 := Lib.hid k0
  have K1 := Lib.hid k1
  have HB0 := Lib.hid hb0
  clear k0 k1 hb0
  have HRD := Lib.hid (fun W (hb : Below w.heap.size w W) => dma_read_ok (h.below hb) at_ 16 ha (by omega) h31 (by omega) (hr.below hb))
  rw [hx0] at HRD
  have HF0 := Lib.hid h.lt
  have hst64 : ((steps : Int) == 64) = false := by simp; omega
  have hm4 : ((at_ : Int) % 4 != 0) = false := by simp; omega
  clear h hr hx0 h31
  go_enter Tryd.func53, Tryd.ntmps53
  go_wp2_with fail
  refine (HRD.out _ HB0.out).mono ?_
  rintro e w1 ⟨v, F1, rfl, h1, h2, h3, h4⟩
  have HNA : Hid (¬ F1 w.heap.size) := Lib.hid (fun hf => (h2.gr _ hf).elim (fun hf => absurd (HF0.out _ hf) (Nat.lt_irrefl _)) (fun hl => by simp at hl; omega))
  have HNB : Hid (¬ F1 (w.heap.size + 1)) := Lib.hid (fun hf => (h2.gr _ hf).elim (fun hf => absurd (HF0.out _ hf) (by omega)) (fun hl => by simp at hl; omega))
  have KA := Lib.hid (h2.heap K0.out (fun hf => by have := HF0.out _ hf; omega))
  clear K0
  have KB := Lib.hid (h2.heap K1.out (fun hf => by have := HF0.out _ hf; omega))
  clear K1
  have HB := Lib.hid (And.intro h1 ((MemStep.of_below HB0.out).trans h2))
  clear HB0
  obtain ⟨av, cv, rfl⟩ := ownsRow_form h3
  obtain ⟨gv, rfl⟩ : ∃ gv, av = some ⟨gv, 0, none⟩ := by
    rcases h3.2 with ⟨_, h0⟩ | ⟨gv, _, _, hv, _⟩
    · exact absurd h0 (by omega)
    · exact ⟨gv, by simpa using (congrArg (fun v => match v with | Value.slice a _ _ => a | _ => none) hv)⟩
  have HOV := Lib.hid h3
  have HVF : Hid (¬ F1 gv) := Lib.hid (h4 gv rfl)
  clear h1 h2 h3 h4
  have c1 := (cell_of_row _ _ 2 _ _ _ KA.out).trans (rfl : _ = some (.int .u32 at_ : Value))
  have c2 := (cell_of_row _ _ 3 _ _ _ KA.out).trans (rfl : _ = some (.int .u32 steps : Value))
  have f3 := fun j => frozen_of_row _ _ j _ _ KA.out
  go_upto_region 5 with fail
  clear c1 c2 f3
  have hb7 : Below w1.heap.size w1 (w1.alloc (.cells #[.int .u32 0, .int .u32 0, .int .u32 0, .int .u32 0] 102)) := (Below.refl _ _).alloc (Nat.le_refl _) _
  have k7 : (w1.alloc (.cells #[.int .u32 0, .int .u32 0, .int .u32 0, .int .u32 0] 102)).heap[w1.heap.size]? = some (.cells (wrow (fun x => m.f (x0 + x)) 0) 102 (0, 0)) := (heap_alloc_new _ _).trans (by simp [wrow, pw])
  have HN7 : Hid (¬ F1 w1.heap.size) := Lib.hid (fun hf => absurd (HB.out.1.lt _ hf) (Nat.lt_irrefl _))
  have HS7 : Hid (w.heap.size + 1 < w1.heap.size) := Lib.hid (lt_heap KB.out)
  have HG7 : Hid (gv < w1.heap.size) := Lib.hid (ownsRow_lt HOV.out rfl).2
  have KA2 := Lib.hid (keepB KA.out hb7)
  have KB2 := Lib.hid (keepB KB.out hb7)
  have HB2 := Lib.hid (And.intro (HB.out.1.below hb7) (HB.out.2.below hb7))
  have HOV2 := Lib.hid (ownsRow_keep HOV.out (w' := w1.alloc (.cells #[.int .u32 0, .int .u32 0, .int .u32 0, .int .u32 0] 102)) (fun b hb => hb7.block b (ownsRow_lt HOV.out hb).2))
  have K72 := Lib.hid k7
  clear hb7 k7 KA KB HB HOV
  generalize w1.alloc (.cells #[.int .u32 0, .int .u32 0, .int .u32 0, .int .u32 0] 102) = w2 at KA2 KB2 HB2 HOV2 K72 ⊢
  generalize w1.heap.size = b7 at HN7 HS7 HG7 K72 ⊢
  have hs7 := HS7.out
  go_wp2_with fail
  go_loopw [34] (fun i wr => ∃ k : Nat, k ≤ 16 ∧ i = .int .i64 k ∧ wr.heap[w.heap.size]? = some (.cells #[.int .u32 code, .int .u32 head, .int .u32 at_, .int .u32 steps, .int .u32 moved, .bool have_, .int .u32 from_, .int .u32 to_, .int .u32 left, .int .u32 next, .bool asks] 33 (0, 0)) ∧ wr.heap[w.heap.size + 1]? = some (.cells #[.int .u32 0, .int .u32 0, .int .u32 0, .int .u32 0, .int .u32 0, .bool false, .int .u32 0, .int .u32 0, .int .u32 0, .int .u32 0, .bool false] 33 (0, 0)) ∧ wr.heap[b7]? = some (.cells (wrow (fun x => m.f (x0 + x)) k) 102 (0, 0)) ∧ (RamIs wr g m F1 ∧ MemStep F F1 w wr) ∧ wr.ownsRow (((w.alloc (.cells #[.int .u32 code, .int .u32 head, .int .u32 at_, .int .u32 steps, .int .u32 moved, .bool have_, .int .u32 from_, .int .u32 to_, .int .u32 left, .int .u32 next, .bool asks] 33)).alloc (.cells #[.int .u32 0, .int .u32 0, .int .u32 0, .int .u32 0, .int .u32 0, .bool false, .int .u32 0, .int .u32 0, .int .u32 0, .int .u32 0, .bool false] 33)).heap.size) 5 1 (.slice (some ⟨gv, 0, none⟩) 16 cv) 16 ((cut m.f x0 16).map B8)) (fun i _ => 16 - (intOf i).toNat)
  case atStart => exact ⟨0, by omega, rfl, KA2.out, KB2.out, K72.out, HB2.out, HOV2.out⟩
  case round =>
    obtain ⟨k, hk, rfl, ka, kb, kc, hfr, hov⟩ := hrel
    have KA3 := Lib.hid ka
    have KB3 := Lib.hid kb
    have KC3 := Lib.hid kc
    have HB3 := Lib.hid hfr
    have HOV3 := Lib.hid hov
    clear ka kb kc hfr hov KA2 KB2 K72 HB2 HOV2
    by_cases hlt : k < 16
    · have hcv := (HOV3.out.cellAt k (by omega)).trans (by rw [List.getElem?_map, cut_get _ _ _ _ hlt]; rfl : _ = some (B8 (m.f (x0 + k))))
      have hcw := (cell_of_row _ _ (k / 4) _ _ _ KC3.out).trans (wrow_get _ _ _ (by omega))
      have hfz := frozen_of_row _ _ (k / 4) _ _ KC3.out
      unfold B8 at hcv
      have hu8 := u8_lt (m.f (x0 + k))
      obtain ⟨c8, hc8⟩ : ∃ c8, c8 = (m.f (x0 + k)).toNat := ⟨_, rfl⟩
      rw [← hc8] at hcv hu8
      have HC8 := Lib.hid hc8
      clear hc8
      have hk0 : (0 : Int) ≤ (k : Int) := by omega
      have hk16 : (k : Int) < 16 := by omega
      have HV := Lib.hid (ownsRow_lt HOV3.out (b := gv) rfl)
      have hg7 := HG7.out
      go_upto_region 8 with fail
      go_region
      go_wp2_with fail
      go_roundw
      case rel =>
        have hkx : KX (fun q => q = b7) wr (wr.setCell ⟨b7, k / 4, none⟩ (.int .u32 (bits BinOp.or .u32 ((pw (fun x => m.f (x0 + x)) k (k / 4) : Nat) : Int) ((c8 : Int) * 2 ^ (8 * (k % 4)) % 4294967296)))).drew := ((KX.refl (fun q => q = b7) wr).setCell (p := ⟨b7, k / 4, none⟩) (.inl rfl) _).drew
        have hq7 : ∀ q, (Value.slice (some ⟨gv, 0, none⟩) 16 cv).ownBlock = some q → ¬ q = b7 := fun q hq e => by
          have h1 : gv = q := by simpa [Value.ownBlock] using hq
          omega
        refine ⟨k + 1, by omega, by go_num, hkx.heap KA3.out (by omega), hkx.heap KB3.out (by omega), ?_, ⟨HB3.out.1.kx hkx (fun q _ hf e => HN7.out (e ▸ hf)), HB3.out.2.own hkx (by omega)⟩, ownsRow_keep HOV3.out (fun q hq => hkx.block q (ownsRow_lt HOV3.out hq).2 (hq7 q hq))⟩
        refine (set_cells KC3.out).trans ?_
        have hst := wrow_step (fun x => m.f (x0 + x)) k hlt
        rw [HC8.out]
        rw [hst]
      case measure => simp [intOf]; omega
    · obtain rfl : k = 16 := by omega
      clear hlt hk
      have hc16 : wr.heap[b7]? = some (.cells #[.int .u32 (W0 : Nat), .int .u32 (W1 : Nat), .int .u32 (W2 : Nat), .int .u32 (W3 : Nat)] 102 (0, 0)) := KC3.out.trans (by rw [HWR.out])
      have KC4 := Lib.hid hc16
      clear hc16 KC3
      have c4 := (cell_of_row _ _ 3 _ _ _ KA3.out).trans (rfl : _ = some (.int .u32 steps : Value))
      have f5 := fun j => frozen_of_row _ _ j _ _ KA3.out
      have c6 := (cell_of_row _ _ 2 _ _ _ KC4.out).trans (rfl : _ = some (.int .u32 (W2 : Nat) : Value))
      have f7 := fun j => frozen_of_row _ _ j _ _ KC4.out
      have hst1 : (0 : Int) ≤ (steps : Int) := by omega
      have hst2 : (steps : Int) < 64 := by omega
      have hkk : ((wr).setCell ⟨w.heap.size, 3, none⟩ (.int .u32 ((steps : Int) + 1))).heap[w.heap.size]? = some (.cells #[.int .u32 code, .int .u32 head, .int .u32 at_, .int .u32 ((steps : Int) + 1), .int .u32 moved, .bool have_, .int .u32 from_, .int .u32 to_, .int .u32 left, .int .u32 next, .bool asks] 33 (0, 0)) := (set_cells (KA3.out)).trans rfl
      have hx9 := Lib.hid (show KX (fun k => k = w.heap.size) wr ((wr).setCell ⟨w.heap.size, 3, none⟩ (.int .u32 ((steps : Int) + 1))) from (KX.refl (fun k => k = w.heap.size) wr).setCell (p := ⟨w.heap.size, 3, none⟩) (.inl rfl) _)
      go_upto_region 11 with fail
      generalize ((wr).setCell ⟨w.heap.size, 3, none⟩ (.int .u32 ((steps : Int) + 1))) = w8 at hkk hx9 ⊢
      clear c4 f5 c6 f7
      have K10 := Lib.hid (hx9.out.heap KB3.out (by omega))
      clear KB3
      have K11 := Lib.hid (hx9.out.heap KC4.out (by omega))
      clear KC4
      have K12 := Lib.hid hkk
      clear hkk KA3
      have HB13 := Lib.hid (And.intro (HB3.out.1.kx hx9.out (fun k _ hf e => by subst e; exact HNA.out hf)) (HB3.out.2.own hx9.out (by omega)))
      clear HB3 hx9
      have c14 := (cell_of_row _ _ 0 _ _ _ K11.out).trans (rfl : _ = some (.int .u32 (W0 : Nat) : Value))
      have c15 := (cell_of_row _ _ 1 _ _ _ K11.out).trans (rfl : _ = some (.int .u32 (W1 : Nat) : Value))
      have c16 := (cell_of_row _ _ 2 _ _ _ K11.out).trans (rfl : _ = some (.int .u32 (W2 : Nat) : Value))
      have c17 := (cell_of_row _ _ 3 _ _ _ K11.out).trans (rfl : _ = some (.int .u32 (W3 : Nat) : Value))
      have f18 := fun j => frozen_of_row _ _ j _ _ K11.out
      have c19 := (cell_of_row _ _ 5 _ _ _ K12.out).trans (rfl : _ = some (.bool have_ : Value))
      have c20 := (cell_of_row _ _ 6 _ _ _ K12.out).trans (rfl : _ = some (.int .u32 from_ : Value))
      have c21 := (cell_of_row _ _ 7 _ _ _ K12.out).trans (rfl : _ = some (.int .u32 to_ : Value))
      have c22 := (cell_of_row _ _ 8 _ _ _ K12.out).trans (rfl : _ = some (.int .u32 left : Value))
      have c23 := (cell_of_row _ _ 9 _ _ _ K12.out).trans (rfl : _ = some (.int .u32 next : Value))
      have f24 := fun j => frozen_of_row _ _ j _ _ K12.out
      go_upto_region 13 with fail
      clear c14 c15 c16 c17 f18 c19 c20 c21 c22 c23 f24
      refine wp_region_held_drew (S := fun W => KX (fun k => k = w.heap.size) (w8) W) (by kernel_rfl) ((KX.refl (fun k => k = w.heap.size) _).drew) (fun hHeld => ?_)
      have kd26 : (w8).drew.heap[w.heap.size]? = some (.cells #[.int .u32 code, .int .u32 head, .int .u32 at_, .int .u32 ((steps : Int) + 1), .int .u32 moved, .bool have_, .int .u32 from_, .int .u32 to_, .int .u32 left, .int .u32 next, .bool asks] 33 (0, 0)) := K12.out
      generalize (w8).drew = wd25 at kd26 hHeld ⊢
      refine wpAnyH_take (i := 0) (v := ?v0) rfl (by kernel_rfl) (by kernel_rfl) (by kernel_rfl) (fun _ _ _ h => h) (Or.inl ⟨by rfl, ?hy0⟩) (by assumption) ?rest0
      case hy0 => (intro W hSw; go_simp; first | done | with_reducible rfl)
      simp only [Act.put, List.getElem_toArray, List.getElem_cons_zero, List.setIfInBounds_toArray, List.set_cons_zero, List.set_cons_succ]
      refine wpAnyH_take (i := 1) (v := ?v1) rfl (by kernel_rfl) (by kernel_rfl) (by kernel_rfl) (fun _ _ _ h => h) (Or.inl ⟨by rfl, ?hy1⟩) (by assumption) ?rest1
      case hy1 => (intro W hSw; have cj := (cell_of_row _ _ 0 _ _ _ (hSw.heap K11.out (by omega))).trans (rfl : _ = some (.int .u32 (W0 : Nat) : Value)); go_simp; first | done | with_reducible rfl)
      simp only [Act.put, List.getElem_toArray, List.getElem_cons_zero, List.getElem_cons_succ, List.setIfInBounds_toArray, List.set_cons_zero, List.set_cons_succ]
      refine wpAnyH_take (i := 2) (v := ?v2) rfl (by kernel_rfl) (by kernel_rfl) (by kernel_rfl) (fun _ _ _ h => h) (Or.inl ⟨by rfl, ?hy2⟩) (by assumption) ?rest2
      case hy2 => (intro W hSw; go_simp; first | done | with_reducible rfl)
      simp only [Act.put, List.getElem_toArray, List.getElem_cons_zero, List.getElem_cons_succ, List.setIfInBounds_toArray, List.set_cons_zero, List.set_cons_succ]
      refine wpAnyH_take (i := 3) (v := ?v3) rfl (by kernel_rfl) (by kernel_rfl) (by kernel_rfl) (fun _ _ _ h => h) (Or.inl ⟨by rfl, ?hy3⟩) (by assumption) ?rest3
      case hy3 => (intro W hSw; have cj := (cell_of_row _ _ 1 _ _ _ (hSw.heap K11.out (by omega))).trans (rfl : _ = some (.int .u32 (W1 : Nat) : Value)); go_simp; first | done | with_reducible rfl)
      simp only [Act.put, List.getElem_toArray, List.getElem_cons_zero, List.getElem_cons_succ, List.setIfInBounds_toArray, List.set_cons_zero, List.set_cons_succ]
      refine wpAnyH_take (i := 4) (v := ?v4) rfl (by kernel_rfl) (by kernel_rfl) (by kernel_rfl) (fun _ _ _ h => h) (Or.inl ⟨by rfl, ?hy4⟩) (by assumption) ?rest4
      case hy4 => (intro W hSw; go_simp; first | done | with_reducible rfl)
      simp only [Act.put, List.getElem_toArray, List.getElem_cons_zero, List.getElem_cons_succ, List.setIfInBounds_toArray, List.set_cons_zero, List.set_cons_succ]
      refine wpAnyH_take (i := 5) (v := ?v5) rfl (by kernel_rfl) (by kernel_rfl) (by kernel_rfl) (fun _ _ _ h => h) (Or.inl ⟨by rfl, ?hy5⟩) (by assumption) ?rest5
      case hy5 => (intro W hSw; have cj := (cell_of_row _ _ 2 _ _ _ (hSw.heap K11.out (by omega))).trans (rfl : _ = some (.int .u32 (W2 : Nat) : Value)); go_simp; first | done | with_reducible rfl)
      simp only [Act.put, List.getElem_toArray, List.getElem_cons_zero, List.getElem_cons_succ, List.setIfInBounds_toArray, List.set_cons_zero, List.set_cons_succ]
      refine wpAnyH_take (i := 6) (v := ?v6) rfl (by kernel_rfl) (by kernel_rfl) (by kernel_rfl) (fun _ _ _ h => h) (Or.inl ⟨by rfl, ?hy6⟩) (by assumption) ?rest6
      case hy6 => (intro W hSw; go_simp; first | done | with_reducible rfl)
      simp only [Act.put, List.getElem_toArray, List.getElem_cons_zero, List.getElem_cons_succ, List.setIfInBounds_toArray, List.set_cons_zero, List.set_cons_succ]
      refine wpAnyH_take (i := 7) (v := ?v7) rfl (by kernel_rfl) (by kernel_rfl) (by kernel_rfl) (fun _ _ _ h => h) (Or.inl ⟨by rfl, ?hy7⟩) (by assumption) ?rest7
      case hy7 => (intro W hSw; have cj := (cell_of_row _ _ 3 _ _ _ (hSw.heap K11.out (by omega))).trans (rfl : _ = some (.int .u32 (W3 : Nat) : Value)); go_simp; first | done | with_reducible rfl)
      simp only [Act.put, List.getElem_toArray, List.getElem_cons_zero, List.getElem_cons_succ, List.setIfInBounds_toArray, List.set_cons_zero, List.set_cons_succ]
      refine wpAnyH_take (i := 8) (v := ?v8) rfl (by kernel_rfl) (by kernel_rfl) (by kernel_rfl) (fun _ _ _ h => h) (Or.inl ⟨by rfl, ?hy8⟩) (by assumption) ?rest8
      case hy8 => (intro W hSw; go_simp; first | done | with_reducible rfl)
      simp only [Act.put, List.getElem_toArray, List.getElem_cons_zero, List.getElem_cons_succ, List.setIfInBounds_toArray, List.set_cons_zero, List.set_cons_succ]
      refine wpAnyH_ready (rs := [9]) (by kernel_rfl) (by simp) ?_
      refine AllReadyH.cons (o := _) rfl (fun K hK => ?_) (AllReadyH.nil)
      simp only [List.getElem_toArray, List.getElem_cons_zero, List.getElem_cons_succ]
      have kz : wd25.heap[w.heap.size]? = some (.cells #[.int .u32 code, .int .u32 head, .int .u32 at_, .int .u32 ((steps : Int) + 1), .int .u32 moved, .bool have_, .int .u32 from_, .int .u32 to_, .int .u32 left, .int .u32 next, .bool asks] 33 (0, 0)) := kd26
      have cz := (cell_of_row _ _ 5 _ _ _ kz).trans (rfl : _ = some (.bool have_ : Value))
      have fz := frozen_of_row _ _ 5 _ _ kz
      have kn := set_cells (i := 5) (v := .bool true) kz
      clear kz
      go_simp
      refine hK.out _ _ (hHeld.setCell (p := ⟨w.heap.size, 5, none⟩) (.inl rfl) _) (fun hHeld28 => ?_)
      clear hK K cz fz hHeld kd26
      have kz29 := kn.trans (rfl : _ = some (Obj.cells #[.int .u32 code, .int .u32 head, .int .u32 at_, .int .u32 ((steps : Int) + 1), .int .u32 moved, .bool true, .int .u32 from_, .int .u32 to_, .int .u32 left, .int .u32 next, .bool asks] 33 (0, 0)))
      clear kn
      generalize wd25.setCell ⟨w.heap.size, 5, none⟩ (.bool true) = w27 at kz29 hHeld28 ⊢
      try simp only [Act.put]
      refine wpAnyH_take (i := 10) (v := ?v10) rfl (by kernel_rfl) (by kernel_rfl) (by kernel_rfl) (fun _ _ _ h => h) (Or.inl ⟨by rfl, ?hy10⟩) (by assumption) ?rest10
      case hy10 => (intro W hSw; go_simp; first | done | with_reducible rfl)
      simp only [Act.put, List.getElem_toArray, List.getElem_cons_zero, List.getElem_cons_succ, List.setIfInBounds_toArray, List.set_cons_zero, List.set_cons_succ]
      refine wpAnyH_ready (rs := [11]) (by kernel_rfl) (by simp) ?_
      refine AllReadyH.cons (o := _) rfl (fun K hK => ?_) (AllReadyH.nil)
      simp only [List.getElem_toArray, List.getElem_cons_zero, List.getElem_cons_succ]
      have kz : w27.heap[w.heap.size]? = some (.cells #[.int .u32 code, .int .u32 head, .int .u32 at_, .int .u32 ((steps : Int) + 1), .int .u32 moved, .bool true, .int .u32 from_, .int .u32 to_, .int .u32 left, .int .u32 next, .bool asks] 33 (0, 0)) := kz29
      have cz := (cell_of_row _ _ 6 _ _ _ kz).trans (rfl : _ = some (.int .u32 from_ : Value))
      have fz := frozen_of_row _ _ 6 _ _ kz
      have kn := set_cells (i := 6) (v := .int .u32 (W0 : Nat)) kz
      clear kz
      go_simp
      refine hK.out _ _ (hHeld28.setCell (p := ⟨w.heap.size, 6, none⟩) (.inl rfl) _) (fun hHeld31 => ?_)
      clear hK K cz fz hHeld28 kz29
      have kz32 := kn.trans (rfl : _ = some (Obj.cells #[.int .u32 code, .int .u32 head, .int .u32 at_, .int .u32 ((steps : Int) + 1), .int .u32 moved, .bool true, .int .u32 (W0 : Nat), .int .u32 to_, .int .u32 left, .int .u32 next, .bool asks] 33 (0, 0)))
      clear kn
      generalize w27.setCell ⟨w.heap.size, 6, none⟩ (.int .u32 (W0 : Nat)) = w30 at kz32 hHeld31 ⊢
      try simp only [Act.put]
      refine wpAnyH_take (i := 12) (v := ?v12) rfl (by kernel_rfl) (by kernel_rfl) (by kernel_rfl) (fun _ _ _ h => h) (Or.inl ⟨by rfl, ?hy12⟩) (by assumption) ?rest12
      case hy12 => (intro W hSw; go_simp; first | done | with_reducible rfl)
      simp only [Act.put, List.getElem_toArray, List.getElem_cons_zero, List.getElem_cons_succ, List.setIfInBounds_toArray, List.set_cons_zero, List.set_cons_succ]
      refine wpAnyH_ready (rs := [13]) (by kernel_rfl) (by simp) ?_
      refine AllReadyH.cons (o := _) rfl (fun K hK => ?_) (AllReadyH.nil)
      simp only [List.getElem_toArray, List.getElem_cons_zero, List.getElem_cons_succ]
      have kz : w30.heap[w.heap.size]? = some (.cells #[.int .u32 code, .int .u32 head, .int .u32 at_, .int .u32 ((steps : Int) + 1), .int .u32 moved, .bool true, .int .u32 (W0 : Nat), .int .u32 to_, .int .u32 left, .int .u32 next, .bool asks] 33 (0, 0)) := kz32
      have cz := (cell_of_row _ _ 7 _ _ _ kz).trans (rfl : _ = some (.int .u32 to_ : Value))
      have fz := frozen_of_row _ _ 7 _ _ kz
      have kn := set_cells (i := 7) (v := .int .u32 (W1 : Nat)) kz
      clear kz
      go_simp
      refine hK.out _ _ (hHeld31.setCell (p := ⟨w.heap.size, 7, none⟩) (.inl rfl) _) (fun hHeld34 => ?_)
      clear hK K cz fz hHeld31 kz32
      have kz35 := kn.trans (rfl : _ = some (Obj.cells #[.int .u32 code, .int .u32 head, .int .u32 at_, .int .u32 ((steps : Int) + 1), .int .u32 moved, .bool true, .int .u32 (W0 : Nat), .int .u32 (W1 : Nat), .int .u32 left, .int .u32 next, .bool asks] 33 (0, 0)))
      clear kn
      generalize w30.setCell ⟨w.heap.size, 7, none⟩ (.int .u32 (W1 : Nat)) = w33 at kz35 hHeld34 ⊢
      try simp only [Act.put]
      refine wpAnyH_take (i := 14) (v := ?v14) rfl (by kernel_rfl) (by kernel_rfl) (by kernel_rfl) (fun _ _ _ h => h) (Or.inl ⟨by rfl, ?hy14⟩) (by assumption) ?rest14
      case hy14 => (intro W hSw; go_simp; first | done | with_reducible rfl)
      simp only [Act.put, List.getElem_toArray, List.getElem_cons_zero, List.getElem_cons_succ, List.setIfInBounds_toArray, List.set_cons_zero, List.set_cons_succ]
      refine wpAnyH_ready (rs := [15]) (by kernel_rfl) (by simp) ?_
      refine AllReadyH.cons (o := _) rfl (fun K hK => ?_) (AllReadyH.nil)
      simp only [List.getElem_toArray, List.getElem_cons_zero, List.getElem_cons_succ]
      have kz : w33.heap[w.heap.size]? = some (.cells #[.int .u32 code, .int .u32 head, .int .u32 at_, .int .u32 ((steps : Int) + 1), .int .u32 moved, .bool true, .int .u32 (W0 : Nat), .int .u32 (W1 : Nat), .int .u32 left, .int .u32 next, .bool asks] 33 (0, 0)) := kz35
      have cz := (cell_of_row _ _ 8 _ _ _ kz).trans (rfl : _ = some (.int .u32 left : Value))
      have fz := frozen_of_row _ _ 8 _ _ kz
      have kn := set_cells (i := 8) (v := .int .u32 (W2 : Nat)) kz
      clear kz
      go_simp
      refine hK.out _ _ (hHeld34.setCell (p := ⟨w.heap.size, 8, none⟩) (.inl rfl) _) (fun hHeld37 => ?_)
      clear hK K cz fz hHeld34 kz35
      have kz38 := kn.trans (rfl : _ = some (Obj.cells #[.int .u32 code, .int .u32 head, .int .u32 at_, .int .u32 ((steps : Int) + 1), .int .u32 moved, .bool true, .int .u32 (W0 : Nat), .int .u32 (W1 : Nat), .int .u32 (W2 : Nat), .int .u32 next, .bool asks] 33 (0, 0)))
      clear kn
      generalize w33.setCell ⟨w.heap.size, 8, none⟩ (.int .u32 (W2 : Nat)) = w36 at kz38 hHeld37 ⊢
      try simp only [Act.put]
      refine wpAnyH_take (i := 16) (v := ?v16) rfl (by kernel_rfl) (by kernel_rfl) (by kernel_rfl) (fun _ _ _ h => h) (Or.inl ⟨by rfl, ?hy16⟩) (by assumption) ?rest16
      case hy16 => (intro W hSw; go_simp; first | done | with_reducible rfl)
      simp only [Act.put, List.getElem_toArray, List.getElem_cons_zero, List.getElem_cons_succ, List.setIfInBounds_toArray, List.set_cons_zero, List.set_cons_succ]
      refine wpAnyH_ready (rs := [17]) (by kernel_rfl) (by simp) ?_
      refine AllReadyH.cons (o := _) rfl (fun K hK => ?_) (AllReadyH.nil)
      simp only [List.getElem_toArray, List.getElem_cons_zero, List.getElem_cons_succ]
      have kz : w36.heap[w.heap.size]? = some (.cells #[.int .u32 code, .int .u32 head, .int .u32 at_, .int .u32 ((steps : Int) + 1), .int .u32 moved, .bool true, .int .u32 (W0 : Nat), .int .u32 (W1 : Nat), .int .u32 (W2 : Nat), .int .u32 next, .bool asks] 33 (0, 0)) := kz38
      have cz := (cell_of_row _ _ 9 _ _ _ kz).trans (rfl : _ = some (.int .u32 next : Value))
      have fz := frozen_of_row _ _ 9 _ _ kz
      have kn := set_cells (i := 9) (v := .int .u32 (W3 : Nat)) kz
      clear kz
      go_simp
      refine hK.out _ _ (hHeld37.setCell (p := ⟨w.heap.size, 9, none⟩) (.inl rfl) _) (fun hHeld40 => ?_)
      clear hK K cz fz hHeld37 kz38
      have kz41 := kn.trans (rfl : _ = some (Obj.cells #[.int .u32 code, .int .u32 head, .int .u32 at_, .int .u32 ((steps : Int) + 1), .int .u32 moved, .bool true, .int .u32 (W0 : Nat), .int .u32 (W1 : Nat), .int .u32 (W2 : Nat), .int .u32 (W3 : Nat), .bool asks] 33 (0, 0)))
      clear kn
      generalize w36.setCell ⟨w.heap.size, 9, none⟩ (.int .u32 (W3 : Nat)) = w39 at kz41 hHeld40 ⊢
      try simp only [Act.put]
      refine wpAnyH_done (by kernel_rfl) ?_ _
      have hx_ := Lib.hid hHeld40
      clear hHeld40
      have K42 := Lib.hid (hx_.out.heap K10.out (by omega))
      clear K10
      have K43 := Lib.hid (hx_.out.heap K11.out (by omega))
      clear K11
      have K44 := Lib.hid kz41
      clear kz41 K12
      have HB45 := Lib.hid (And.intro (HB13.out.1.kx hx_.out (fun k _ hf e => by subst e; exact HNA.out hf)) (HB13.out.2.own hx_.out (by omega)))
      clear HB13 hx_
      have HO46 := Lib.hid (show (#[.int .u32 code, .int .u32 head, .int .u32 at_, .int .u32 ((steps : Int) + 1), .int .u32 moved, .bool true, .int .u32 (W0 : Nat), .int .u32 (W1 : Nat), .int .u32 (W2 : Nat), .int .u32 (W3 : Nat), .bool asks] : Array Value).all (·.oneCell') = true by simp [Value.oneCell'])
      go_wp2_with (first | (refine wpList_load_row rfl 33 _ rfl (w.heap.size) rfl 33 #[.int .u32 code, .int .u32 head, .int .u32 at_, .int .u32 ((steps : Int) + 1), .int .u32 moved, .bool true, .int .u32 (W0 : Nat), .int .u32 (W1 : Nat), .int .u32 (W2 : Nat), .int .u32 (W3 : Nat), .bool asks] (0, 0) _ K44.out Tryd.underlying33 rfl (by kernel_rfl) ?_) | (refine wpList_store_to rfl 33 _ _ rfl (w.heap.size + 1) #[.int .u32 code, .int .u32 head, .int .u32 at_, .int .u32 ((steps : Int) + 1), .int .u32 moved, .bool true, .int .u32 (W0 : Nat), .int .u32 (W1 : Nat), .int .u32 (W2 : Nat), .int .u32 (W3 : Nat), .bool asks] rfl rfl 33 #[.int .u32 0, .int .u32 0, .int .u32 0, .int .u32 0, .int .u32 0, .bool false, .int .u32 0, .int .u32 0, .int .u32 0, .int .u32 0, .bool false] K42.out (by kernel_rfl) rfl HO46.out ?_))
      intro w47 hx48 hkk
      have K49 := Lib.hid (hx48.out.heap K44.out (by omega))
      clear K44
      have K50 := Lib.hid (hx48.out.heap K43.out (by omega))
      clear K43
      have K51 := Lib.hid hkk
      clear hkk K42
      have HB52 := Lib.hid (And.intro (HB45.out.1.kx hx48.out (fun k _ hf e => by subst e; exact HNB.out hf)) (HB45.out.2.own hx48.out (by omega)))
      clear HB45 hx48
      go_wp2_with fail
      exact bodyPost_ret (v := .agg #[.int .u32 code, .int .u32 head, .int .u32 at_, .int .u32 ((steps : Int) + 1), .int .u32 moved, .bool true, .int .u32 (W0 : Nat), .int .u32 (W1 : Nat), .int .u32 (W2 : Nat), .int .u32 (W3 : Nat), .bool asks]) (results_cell_row Tryd.results53 _ _ (w.heap.size + 1) 33 #[.int .u32 code, .int .u32 head, .int .u32 at_, .int .u32 ((steps : Int) + 1), .int .u32 moved, .bool true, .int .u32 (W0 : Nat), .int .u32 (W1 : Nat), .int .u32 (W2 : Nat), .int .u32 (W3 : Nat), .bool asks] (0, 0) _ rfl K51.out Tryd.underlying33 rfl (by kernel_rfl)) rfl ⟨rfl, F1, HB52.out.1, HB52.out.2⟩
end Go.Proofs.YtcakcfeipfjmpaaDoor
