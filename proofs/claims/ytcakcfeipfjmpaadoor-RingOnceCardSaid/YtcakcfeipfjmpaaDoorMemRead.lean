/-
Read of package mem, walked: bytes at a place, or the error.
No condition.
-/
import Derived.Test.YtcakcfeipfjmpaaDoorMemStore
import Derived.Test.YtcakcfeipfjmpaaDoorAppend
namespace Go.Proofs.YtcakcfeipfjmpaaDoor
open Go.RowKit

def lenV : Value → Nat | .slice _ c _ => c | _ => 0
/-- Bytes of memory. -/
def cut (f : Nat → UInt8) (a n : Nat) : List UInt8 := (List.range n).map fun j => f (a + j)
theorem cut_length (f : Nat → UInt8) (a n : Nat) : (cut f a n).length = n := by simp [cut]
theorem cut_add (f : Nat → UInt8) (a n k : Nat) : cut f a (n + k) = cut f a n ++ cut f (a + n) k := by
  apply List.ext_getElem (by simp [cut_length])
  intro i h1 h2
  simp only [cut_length] at h1
  by_cases h : i < n
  · rw [List.getElem_append_left (by rw [cut_length]; exact h)]
    simp [cut]
  · rw [List.getElem_append_right (by rw [cut_length]; omega)]
    simp [cut]
    congr 1
    omega
theorem cut_get (f : Nat → UInt8) (a n j : Nat) (h : j < n) : (cut f a n)[j]? = some (f (a + j)) := by simp [cut, h]
theorem cells_of_page {W : World} {k : Nat} {h : Nat → UInt8} (hp : PageAt W k h) (o n : Nat) (hn : o + n ≤ 4096) : ∀ j u, ((cut h o n).map B8)[j]? = some u → W.cell? ((⟨k, o, none⟩ : Addr).add j) = some u := fun j u hj => by
  have hjn : j < n := by
    have := (List.getElem?_eq_some_iff.1 hj).1
    simpa [cut_length] using this
  obtain ⟨c, hc, _, h2⟩ := hp
  rw [Addr.add_lit]
  refine (cell_of_row _ _ (o + j) _ _ _ hc).trans ?_
  rw [h2 (o + j) (by omega), ← hj, List.getElem?_map, cut_get _ _ _ _ hjn]
  rfl

theorem cut_shift (f : Nat → UInt8) (b o q : Nat) : cut (fun j => f (b + j)) o q = cut f (b + o) q := by
  unfold cut
  apply List.map_congr_left
  intro i _
  show f (b + (o + i)) = f (b + o + i)
  rw [Nat.add_assoc]
theorem cut_page (f : Nat → UInt8) (a c q : Nat) : (cut f a c).map B8 ++ (cut (fun j => f (4096 * ((a + c) / 4096) + j)) ((a + c) % 4096) q).map B8 = (cut f a (c + q)).map B8 := by
  rw [cut_shift, show 4096 * ((a + c) / 4096) + (a + c) % 4096 = a + c by omega, cut_add, List.map_append]
theorem ownsRow_keep {w w' : World} {base e size n : Nat} {v : Value} {xs : List Value} (h : w.ownsRow base e size v n xs) (he : ∀ b, v.ownBlock = some b → w'.heap[b]? = w.heap[b]?) : w'.ownsRow base e size v n xs := by
  obtain ⟨h1, h2⟩ := h
  refine ⟨h1, ?_⟩
  rcases h2 with h2 | ⟨g, cap, cur, rfl, hg, hh, r⟩
  · exact .inl h2
  · exact .inr ⟨g, cap, cur, rfl, hg, (he g rfl).trans hh, r⟩
theorem ownsRow_lt {w : World} {base e size n : Nat} {v : Value} {xs : List Value} (h : w.ownsRow base e size v n xs) {b : Nat} (hb : v.ownBlock = some b) : base ≤ b ∧ b < w.heap.size := by
  rcases h.2 with ⟨rfl, _⟩ | ⟨g, cap, cur, rfl, hg, hh, _⟩
  · simp [Value.ownBlock] at hb
  · obtain rfl : g = b := by simpa [Value.ownBlock] using hb
    exact ⟨hg, lt_heap hh⟩
theorem ownsRow_form {w : World} {base e size n : Nat} {v : Value} {xs : List Value} (h : w.ownsRow base e size v n xs) : ∃ a c, v = .slice a n c := by
  rcases h.2 with ⟨rfl, rfl⟩ | ⟨g, cap, cur, rfl, _⟩
  · exact ⟨none, 0, rfl⟩
  · exact ⟨some ⟨g, 0, none⟩, cap, rfl⟩
theorem MemStep.grown {F F' : Nat → Prop} {a w w' : World} {row : Option Nat} (h : MemStep F F' a w) (hg : w.grownBy w' row) (hr : ∀ b, row = some b → a.heap.size ≤ b) : MemStep F F' a w' :=
  ⟨⟨hg.os.trans h.kx.os, hg.tape.trans h.kx.tape, hg.output.trans h.kx.output, Nat.le_trans h.kx.size hg.size, fun k hk hn => (hg.block k (Nat.lt_of_lt_of_le hk h.kx.size) (fun e => by have := hr k e.symm; omega)).trans (h.kx.block k hk hn)⟩, h.gr⟩
theorem RamIs.grown {W W' : World} {g : Nat} {m : Mm} {F : Nat → Prop} {row : Option Nat} (h : RamIs W g m F) (hg : W.grownBy W' row) (hr : ∀ b, row = some b → ¬ F b) : RamIs W' g m F :=
  h.keep hg.size (fun k hk hf => hg.block k hk (fun e => hr k e.symm hf))

set_option maxRecDepth 100000 in
set_option maxHeartbeats 1600000 in
theorem mem_Read_ok {g : Nat} {m : Mm} {F : Nat → Prop} {w : World} (h : RamIs w g m F) (a n : Nat) (ha : a < 4294967296) (hs : a + n ≤ 4096 * m.n) :
    Calls Tryd.prog 13 #[.pointer (some ⟨g, 0, none⟩), .int .u32 a, .int .i64 n] w fun e w' => ∃ v F', e = .returned (.tuple #[v, .nilIface]) ∧ RamIs w' g m F' ∧ MemStep F F' w w' ∧ w'.ownsRow w.heap.size 5 1 v n ((cut m.f a n).map B8) ∧ (∀ b, v.ownBlock = some b → ¬ F' b) := by
  have HC := Lib.hid (mem_run_ok h a n hs)
  have HAT := Lib.hid (fun W F (hW : RamIs W g m F) i (hi : i < m.n) => mem_at hW i hi)
  have hn2 := h.n2
  have HH := Lib.hid h
  have hn : n ≤ 67108864 := by omega
  obtain ⟨i0, hi0, hz0, hz1, hz2⟩ := info_of info_u8
  clear h
  go_enter Tryd.func13, Tryd.ntmps13
  go_wp2_with fail
  refine (HC.out).mono ?_
  rintro e w' ⟨rfl, rfl⟩
  go_wp2_with fail
  go_loopw [9, 10] (fun v i wr => ∃ (c : Nat) (p : Nat) (F' : Nat → Prop), c ≤ n ∧ i = .int .i64 p ∧ (c < n → p = a + c) ∧ p ≤ 4294967296 ∧ RamIs wr g m F' ∧ MemStep F F' w wr ∧ wr.ownsRow w.heap.size 5 1 v c ((cut m.f a c).map B8) ∧ (∀ b, v.ownBlock = some b → ¬ F' b) ∧ ∃ av cv, v = .slice av c cv) (fun v i _ => n - lenV v)
  case atStart => exact ⟨0, a, F, by omega, rfl, fun _ => rfl, by omega, HH.out, MemStep.refl _ _, World.ownsRow_nil _ _ _ _, fun b hb => by simp [Value.ownBlock] at hb, none, 0, rfl⟩
  case round =>
    obtain ⟨c, p, F', hc, rfl, hp, hp4, hri, hst, hown, hnf, av, cv, rfl⟩ := hrel
    have HR := Lib.hid hri
    have HS := Lib.hid hst
    have HO := Lib.hid hown
    have HF := Lib.hid hnf
    clear hri hst hown hnf
    by_cases hlt : c < n
    · obtain rfl := hp hlt
      have hi : (a + c) / 4096 < m.n := by omega
      have HA := Lib.hid (HAT.out wr F' HR.out ((a + c) / 4096) hi)
      have hcn : (c : Int) < (n : Int) := by omega
      have ho0 : (0 : Int) ≤ ((a : Int) + (c : Int)) % 4096 := by omega
      have ho1 : ((a : Int) + (c : Int)) % 4096 < 4096 := by omega
      clear hp
      go_wp2_with fail
      refine (HA.out).mono ?_
      rintro e w1 ⟨k, ck, F1, rfl, hck, hr1, hpg, hst1, hfk⟩
      have HR1 := Lib.hid hr1
      have HPG := Lib.hid hpg
      have HS1 := Lib.hid (HS.out.trans hst1)
      have HFK := Lib.hid hfk
      have HO1 := Lib.hid (ownsRow_keep HO.out (w' := w1) (fun b hb => hst1.kx.block b (ownsRow_lt HO.out hb).2 (HF.out b hb)))
      have HF1 : Hid (∀ b, (Value.slice av c cv).ownBlock = some b → ¬ F1 b) := Lib.hid (fun b hb => hst1.off (ownsRow_lt HO.out hb).2 (HF.out b hb))
      clear hr1 hpg hst1 hfk HO HF
      by_cases hm : 4096 - (a + c) % 4096 ≤ n - c
      · have hmi : ¬ (n : Int) - (c : Int) < ((4096 - (a + c) % 4096 : Nat) : Int) := by omega
        have HNK := Lib.hid (cells_of_page HPG.out ((a + c) % 4096) (4096 - (a + c) % 4096) (by omega))
        go_wp2_with (refine wpList_append_tx rfl _ _ 27 107 rfl w.heap.size 5 5 i0 _ 1 1 Tryd.underlying27 Tryd.underlying107 hi0 hz0 hz1 hz2 rfl (by omega) (.slice av c cv) c _ rfl HO1.out ⟨k, (a + c) % 4096, none⟩ (4096 - (a + c) % 4096) _ _ rfl ?hl HNK.out ?h1 ?h63 ?hby ?hb ?hK)
        case hl => rw [List.length_map, cut_length, Nat.mul_one]
        case h1 =>
          intro u hu
          obtain ⟨x, _, rfl⟩ := List.mem_map.1 hu
          rfl
        case h63 => simp only [maxLen]; omega
        case hby => omega
        case hb => exact HS1.out.kx.size
        intro v' w2 hown hgr hvb
        rw [cut_page] at hown
        obtain ⟨av', cv', rfl⟩ := ownsRow_form hown
        have HOW := Lib.hid hown
        have HR2 := Lib.hid (HR1.out.grown hgr HF1.out)
        have HS2 := Lib.hid (HS1.out.grown hgr (fun b hb => (ownsRow_lt HO1.out hb).1))
        have HF2 : Hid (∀ b, (Value.slice av' (c + (4096 - (a + c) % 4096)) cv').ownBlock = some b → ¬ F1 b) := Lib.hid (fun b hb => by
          rcases hvb with h | h
          · exact HF1.out b (h ▸ hb)
          · intro hf
            obtain rfl : w1.heap.size = b := Option.some.inj (h.symm.trans hb)
            exact absurd (HR1.out.lt _ hf) (Nat.lt_irrefl _))
        clear hown hgr hvb
        go_wp2_with fail
        go_roundw
        case rel => exact ⟨c + (4096 - (a + c) % 4096), ((a + c) / 4096 + 1) * 4096, F1, by omega, by go_num, by omega, by omega, HR2.out, HS2.out, HOW.out, HF2.out, av', cv', rfl⟩
        case measure => simp [lenV]; omega
      · have hmi : (n : Int) - (c : Int) < ((4096 - (a + c) % 4096 : Nat) : Int) := by omega
        have HNK := Lib.hid (cells_of_page HPG.out ((a + c) % 4096) (n - c) (by omega))
        go_wp2_with (refine wpList_append_tx rfl _ _ 27 107 rfl w.heap.size 5 5 i0 _ 1 1 Tryd.underlying27 Tryd.underlying107 hi0 hz0 hz1 hz2 rfl (by omega) (.slice av c cv) c _ rfl HO1.out ⟨k, (a + c) % 4096, none⟩ (n - c) _ _ rfl ?hln HNK.out ?h1n ?h63n ?hbyn ?hbn ?hKn)
        case hln => rw [List.length_map, cut_length, Nat.mul_one]
        case h1n =>
          intro u hu
          obtain ⟨x, _, rfl⟩ := List.mem_map.1 hu
          rfl
        case h63n => simp only [maxLen]; omega
        case hbyn => omega
        case hbn => exact HS1.out.kx.size
        intro v' w2 hown hgr hvb
        rw [cut_page, show c + (n - c) = n by omega] at hown
        obtain ⟨av', cv', rfl⟩ := ownsRow_form hown
        have HOW := Lib.hid hown
        have HR2 := Lib.hid (HR1.out.grown hgr HF1.out)
        have HS2 := Lib.hid (HS1.out.grown hgr (fun b hb => (ownsRow_lt HO1.out hb).1))
        have HF2 : Hid (∀ b, (Value.slice av' n cv').ownBlock = some b → ¬ F1 b) := Lib.hid (fun b hb => by
          rcases hvb with h | h
          · exact HF1.out b (h ▸ hb)
          · intro hf
            obtain rfl : w1.heap.size = b := Option.some.inj (h.symm.trans hb)
            exact absurd (HR1.out.lt _ hf) (Nat.lt_irrefl _))
        clear hown hgr hvb
        go_wp2_with fail
        go_roundw
        case rel => exact ⟨n, ((a + c) / 4096 + 1) * 4096, F1, by omega, by go_num, by omega, by omega, HR2.out, HS2.out, HOW.out, HF2.out, av', cv', rfl⟩
        case measure => simp [lenV]; omega
    · obtain rfl : c = n := by omega
      clear hp
      go_wp2_with fail
      go_ret2
      exact ⟨_, F', rfl, HR.out, HS.out, HO.out, HF.out⟩
end Go.Proofs.YtcakcfeipfjmpaaDoor
