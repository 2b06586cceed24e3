/-
pinnaceref06.mark, New, Store, walked where they do not fail.
No condition.
-/
import Derived.Test.YtcakcfeipfjmpaaDoorRefWith
import Derived.Test.YtcakcfeipfjmpaaDoorMemWrite
import Derived.Test.YtcakcfeipfjmpaaDoorDma
namespace Go.Proofs.YtcakcfeipfjmpaaDoor
open Go.RowKit

def cellT (d : Nat → Bool) : Nat → Value := fun i => .bool (d i)
theorem info_bool : (Tryd.prog.info? 4).map (fun i => (i.zero, i.size, i.bytes)) = some (some (.bool false), 1, 1) := by kernel_rfl
def refZ : Array Value := #[.slice none 0 0, .slice none 0 0, .int .i64 0]
def refC (b1 n1 c1 b2 n2 c2 : Nat) (q : Int) : Array Value := #[.slice (some ⟨b1, 0, none⟩) n1 c1, .slice (some ⟨b2, 0, none⟩) n2 c2, .int .i64 q]
theorem refC_one (b1 n1 c1 b2 n2 c2 : Nat) (q : Int) : (refC b1 n1 c1 b2 n2 c2 q).all (·.oneCell') = true := by simp [refC, Value.oneCell']
theorem grown_heap {a b : World} {v : Value} {g : Nat} {x : Obj} (h : a.heap[g]? = some x) (hg : a.grownBy b v.ownBlock) (hn : v.ownBlock = none) : b.heap[g]? = some x := (hg.block g (lt_heap h) (by rw [hn]; simp)).trans h
theorem grown_below {a b : World} {v : Value} (hg : a.grownBy b v.ownBlock) (hn : v.ownBlock = none) : Below a.heap.size a b := ⟨hg.os, hg.tape, hg.output, hg.size, fun k hk => hg.block k hk (by rw [hn]; simp)⟩
theorem mark_step (d : Nat → Bool) (lo p : Nat) (hp : lo ≤ p) : (fun i => if i = p then Value.bool true else cellT (fun x => d x || decide (lo ≤ x ∧ x < p)) i) = cellT (fun x => d x || decide (lo ≤ x ∧ x < p + 1)) := by
  funext i
  unfold cellT
  by_cases e : i = p
  · subst e
    rw [if_pos rfl]
    dsimp only
    rw [decide_eq_true (show lo ≤ i ∧ i < i + 1 by omega), Bool.or_true]
  · rw [if_neg e]
    congr 1
    dsimp only
    by_cases h : lo ≤ i ∧ i < p
    · rw [decide_eq_true h, decide_eq_true (by omega)]
    · rw [decide_eq_false h, decide_eq_false (by omega)]
theorem mark_last (d : Nat → Bool) (a k p : Nat) (hk : 0 < k) (hp : p = (a + k - 1) / 4096 + 1) : cellT (fun x => d x || decide (a / 4096 ≤ x ∧ x < p)) = cellT (markL d a k) := by
  funext i
  unfold cellT markL
  congr 1
  dsimp only
  by_cases h : a / 4096 ≤ i ∧ i < p
  · rw [decide_eq_true h, decide_eq_true (by omega)]
  · rw [decide_eq_false h, decide_eq_false (by omega)]
set_option maxRecDepth 100000 in
set_option maxHeartbeats 1600000 in
theorem ref6_mark_ok {w : World} {b1 n1 c1 b2 n c2 : Nat} {q : Int} {d : Nat → Bool} (r : Row w b2 4 n (cellT d)) (hn : 0 < n) (hn2 : n ≤ 16384) (a k : Nat) (hk : 0 < k) (hs : a + k ≤ 4096 * n) :
    Calls Tryd.prog 86 #[.agg (refC b1 n1 c1 b2 n c2 q), .int .i64 a, .int .i64 k] w fun e w' =>
      ∃ b' c', e = .returned (.agg (refC b1 n1 c1 b' n c' q)) ∧ Row w' b' 4 n (cellT (markL d a k)) ∧ w.heap.size ≤ b' ∧ Below w.heap.size w w' := by
  unfold refC
  obtain ⟨k0, k1, hb0⟩ := two_new w (.cells #[.slice (some ⟨b1, 0, none⟩) n1 c1, .slice (some ⟨b2, 0, none⟩) n c2, .int .i64 q] 30) (.cells refZ 30)
  have HR := Lib.hid (r.below hb0)
  have K0 := Lib.hid k0
  have K1 := Lib.hid k1
  have HB0 := Lib.hid hb0
  obtain ⟨i0, hi0, hz0, hz1, hz2⟩ := info_of info_bool
  clear r k0 k1 hb0
  unfold refZ at *
  go_enter Tryd.func86, Tryd.ntmps86
  go_upto_region 1 with fail
  generalize ((w.alloc (.cells #[.slice (some ⟨b1, 0, none⟩) n1 c1, .slice (some ⟨b2, 0, none⟩) n c2, .int .i64 q] 30)).alloc (.cells #[.slice none 0 0, .slice none 0 0, .int .i64 0] 30)) = w1 at HR K0 K1 HB0 ⊢
  have cc := (cell_of_row _ _ 1 _ _ _ K0.out).trans (rfl : _ = some (.slice (some ⟨b2, 0, none⟩) n c2 : Value))
  have HSZ : Hid (w.heap.size + 1 < w1.heap.size) := Lib.hid (lt_heap K1.out)
  go_wp2_with (refine wpList_append_tx rfl _ _ 28 28 rfl w1.heap.size 4 4 i0 _ 1 1 Tryd.underlying28 Tryd.underlying28 hi0 hz0 hz1 hz2 rfl (by omega) (.slice none 0 0) 0 [] rfl (World.ownsRow_nil _ _ _ _) ⟨b2, 0, none⟩ n c2 (rowL (cellT d) n) rfl ?hl HR.out.news ?h1 ?h63 ?hby ?hb ?hK)
  case hl => rw [rowL_length, Nat.mul_one]
  case h1 =>
    intro u hu
    obtain ⟨x, _, rfl⟩ := List.mem_map.1 hu
    rfl
  case h63 => simp only [maxLen]; omega
  case hby => omega
  case hb => exact Nat.le_refl _
  intro v' w2 hown hgr hvb
  obtain ⟨b3, c3, rfl, hc3, hb3, hrow⟩ := Row.of_owns hown hn (h := cellT d) (fun i hi => rowL_get _ _ _ hi)
  have K2 := Lib.hid (grown_heap K0.out hgr rfl)
  have K3 := Lib.hid (grown_heap K1.out hgr rfl)
  have HB4 := Lib.hid (HB0.out.trans ((grown_below hgr rfl).mono (by have := HSZ.out; omega)))
  have HROW := Lib.hid hrow
  have HB3 : Hid (w.heap.size + 1 < b3) := Lib.hid (Nat.lt_of_lt_of_le HSZ.out hb3)
  clear hown hgr hvb hrow hb3 K0 K1 HB0 cc HR
  have ha0 : (0 : Int) ≤ a := by omega
  have haN : (a : Int) ≤ 67108864 := by omega
  have hk0 : (0 : Int) < k := by omega
  have hkN : (k : Int) ≤ 67108864 := by omega
  go_wp2_with fail
  go_loopw [8] (fun i wr => ∃ p : Nat, a / 4096 ≤ p ∧ p ≤ (a + k - 1) / 4096 + 1 ∧ i = .int .i64 p ∧ Row wr b3 4 n (cellT (fun x => d x || decide (a / 4096 ≤ x ∧ x < p))) ∧ wr.heap[w.heap.size]? = some (.cells #[.slice (some ⟨b1, 0, none⟩) n1 c1, .slice (some ⟨b2, 0, none⟩) n c2, .int .i64 q] 30 (0, 0)) ∧ wr.heap[w.heap.size + 1]? = some (.cells #[.slice none 0 0, .slice none 0 0, .int .i64 0] 30 (0, 0)) ∧ Below w.heap.size w wr) (fun i _ => (a + k - 1) / 4096 + 1 - (intOf i).toNat)
  case atStart =>
    refine ⟨a / 4096, Nat.le_refl _, by omega, by go_num, HROW.out.congr (fun i _ => ?_), K2.out, K3.out, HB4.out⟩
    unfold cellT
    dsimp only
    rw [decide_eq_false (by omega), Bool.or_false]
  case round =>
    obtain ⟨p, hp1, hp2, rfl, hra, hk0', hk1', hbl⟩ := hrel
    have HA := Lib.hid hra
    have K4 := Lib.hid hk0'
    have K5 := Lib.hid hk1'
    have HBB := Lib.hid hbl
    clear hra hk0' hk1' hbl
    have hp0 : (0 : Int) ≤ p := by omega
    have hpN : (p : Int) ≤ 16384 := by omega
    by_cases hlt : p ≤ (a + k - 1) / 4096
    · have hle : (p : Int) ≤ ((a : Int) + k - 1) / 4096 := by omega
      have hpn : p < n := by omega
      have hpni : (p : Int) < n := by omega
      have hc := HA.out.cell hpn
      have hz := HA.out.fz p
      have HN := Lib.hid (HA.out.poke hpn (.bool true))
      rw [mark_step _ _ _ hp1] at HN
      have HBK := Lib.hid (HBB.out.setCell (p := ⟨b3, p, none⟩) (by have := HB3.out; show w.heap.size ≤ b3; omega) (.bool true))
      have K6 := Lib.hid ((heap_cell_other (p := ⟨b3, p, none⟩) (u := .bool true) (show w.heap.size ≠ b3 by have := HB3.out; omega)).trans K4.out)
      have K7 := Lib.hid ((heap_cell_other (p := ⟨b3, p, none⟩) (u := .bool true) (show w.heap.size + 1 ≠ b3 by have := HB3.out; omega)).trans K5.out)
      unfold cellT at hc
      go_wp2_with fail
      go_roundw
      case rel => exact ⟨p + 1, by omega, by omega, by go_num, HN.out, K6.out, K7.out, HBK.out⟩
      case measure => simp [intOf]; omega
    · have hle : ¬ (p : Int) ≤ ((a : Int) + k - 1) / 4096 := by omega
      obtain rfl : p = (a + k - 1) / 4096 + 1 := by omega
      have HD := Lib.hid (HA.out)
      rw [mark_last d a k _ hk rfl] at HD
      have c11 := (cell_of_row _ _ 1 _ _ _ K4.out).trans (rfl : _ = some (.slice (some ⟨b2, 0, none⟩) n c2 : Value))
      have f13 := fun j => frozen_of_row _ _ j _ _ K4.out
      have hkk : (wr.setCell ⟨w.heap.size, 1, none⟩ (.slice (some ⟨b3, 0, none⟩) n c3)).heap[w.heap.size]? = some (.cells #[.slice (some ⟨b1, 0, none⟩) n1 c1, .slice (some ⟨b3, 0, none⟩) n c3, .int .i64 q] 30 (0, 0)) := (set_cells K4.out).trans rfl
      have hx15 := Lib.hid (show KX (fun k => k = w.heap.size) wr (wr.setCell ⟨w.heap.size, 1, none⟩ (.slice (some ⟨b3, 0, none⟩) n c3)) from (KX.refl (fun k => k = w.heap.size) wr).setCell (p := ⟨w.heap.size, 1, none⟩) (.inl rfl) _)
      clear HA hp1 hp2 hp0 hpN hlt
      go_upto_region 8 with fail
      generalize (wr.setCell ⟨w.heap.size, 1, none⟩ (.slice (some ⟨b3, 0, none⟩) n c3)) = w14 at hkk hx15 ⊢
      clear c11 f13
      have K16 := Lib.hid (hx15.out.heap K5.out (by omega))
      have K17 := Lib.hid hkk
      have HD2 := Lib.hid (HD.out.kx hx15.out (by have := HB3.out; omega))
      have HB18 := Lib.hid (HBB.out.trans (hx15.out.below (B := w.heap.size) (fun k hk e => by omega) HBB.out.size))
      clear hkk K4 K5 HBB hx15 HD
      have HO19 := Lib.hid (refC_one b1 n1 c1 b3 n c3 q)
      unfold refC at HO19
      go_wp2_with (first | (refine wpList_load_row rfl 30 _ rfl (w.heap.size) rfl 30 #[.slice (some ⟨b1, 0, none⟩) n1 c1, .slice (some ⟨b3, 0, none⟩) n c3, .int .i64 q] (0, 0) _ K17.out Tryd.underlying30 rfl (by kernel_rfl) ?_) | (refine wpList_store_to rfl 30 _ _ rfl (w.heap.size + 1) #[.slice (some ⟨b1, 0, none⟩) n1 c1, .slice (some ⟨b3, 0, none⟩) n c3, .int .i64 q] rfl rfl 30 #[.slice none 0 0, .slice none 0 0, .int .i64 0] K16.out (by kernel_rfl) rfl HO19.out ?_))
      intro w20 hx21 hkk
      have K23 := Lib.hid hkk
      have HD3 := Lib.hid (HD2.out.kx hx21.out (by have := HB3.out; omega))
      have HB24 := Lib.hid (HB18.out.trans (hx21.out.below (B := w.heap.size) (fun k hk e => by omega) HB18.out.size))
      clear hkk K16 HB18 hx21
      go_wp2_with fail
      exact bodyPost_ret (v := .agg #[.slice (some ⟨b1, 0, none⟩) n1 c1, .slice (some ⟨b3, 0, none⟩) n c3, .int .i64 q]) (results_cell_row Tryd.results86 _ _ (w.heap.size + 1) 30 #[.slice (some ⟨b1, 0, none⟩) n1 c1, .slice (some ⟨b3, 0, none⟩) n c3, .int .i64 q] (0, 0) _ rfl K23.out Tryd.underlying30 rfl (by kernel_rfl)) rfl ⟨b3, c3, rfl, HD3.out, by have := HB3.out; omega, HB24.out⟩
end Go.Proofs.YtcakcfeipfjmpaaDoor
