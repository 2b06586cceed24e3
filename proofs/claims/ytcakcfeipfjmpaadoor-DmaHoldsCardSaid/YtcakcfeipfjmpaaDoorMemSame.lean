/-
Same of package mem, walked, at two memories that lie apart.
No condition.
-/
import Derived.Test.YtcakcfeipfjmpaaDoorBytesEq
namespace Go.Proofs.YtcakcfeipfjmpaaDoor
open Go.RowKit

/-- Two memories that lie apart. -/
structure Two (W : World) (g : Nat) (m : Mm) (F : Nat → Prop) (g2 : Nat) (m2 : Mm) (G : Nat → Prop) : Prop where
  a : RamIs W g m F
  b : RamIs W g2 m2 G
  ap : ∀ k, F k → ¬ G k
theorem Two.flip {W : World} {g g2 : Nat} {m m2 : Mm} {F G : Nat → Prop} (h : Two W g m F g2 m2 G) : Two W g2 m2 G g m F := ⟨h.b, h.a, fun k hg hf => h.ap k hf hg⟩
theorem Two.step {W W' : World} {g g2 : Nat} {m m' m2 : Mm} {F F' G : Nat → Prop} (h : Two W g m F g2 m2 G) (hr : RamIs W' g m' F') (hs : MemStep F F' W W') : Two W' g m' F' g2 m2 G :=
  ⟨hr, h.b.kx hs.kx (fun k _ hg hf => h.ap k hf hg), fun k hf hg => (hs.gr k hf).elim (fun e => h.ap k e hg) (fun e => absurd (h.b.lt k hg) (Nat.not_lt_of_le e))⟩
theorem Two.below {W W' : World} {g g2 : Nat} {m m2 : Mm} {F G : Nat → Prop} (h : Two W g m F g2 m2 G) (hb : Below W.heap.size W W') : Two W' g m F g2 m2 G := ⟨h.a.below hb, h.b.below hb, h.ap⟩
theorem bytes_Equal_at {w : World} {ka kb n ca cb : Nat} {f h : Nat → UInt8} (ha : PageAt w ka f) (hb : PageAt w kb h) (hn : n = 4096) :
    Calls Tryd.prog 66 #[.slice (some ⟨ka, 0, none⟩) n ca, .slice (some ⟨kb, 0, none⟩) n cb] w fun e w' => e = .returned (.bool (decide (cut f 0 4096 = cut h 0 4096))) ∧ w = w' := by
  have key : ∀ k (f : Nat → UInt8), PageAt w k f → BytesAt w (some ⟨k, 0, none⟩) (cut f 0 4096) (fun _ => False) := fun k f hp _ => ⟨k, 0, rfl, hp.lt, id, fun j x hj => by
    obtain ⟨c, hc, _, hg⟩ := hp
    have hj2 : j < 4096 := by have := (List.getElem?_eq_some_iff.1 hj).1; rwa [cut_length] at this
    rw [cut_get _ _ _ _ hj2] at hj
    rw [Nat.zero_add, cell_of_row _ _ j _ _ _ hc, hg j hj2, ← Option.some.inj hj, Nat.zero_add]⟩
  have h1 := bytes_Equal (ca := ca) (cb := cb) (key ka f ha) (key kb h hb)
  rw [cut_length, cut_length] at h1
  rw [hn]
  exact h1
set_option maxRecDepth 100000 in
set_option maxHeartbeats 2000000 in
theorem mem_Same_ok {g g2 : Nat} {m m2 : Mm} {F G : Nat → Prop} {w : World} (h : Two w g m F g2 m2 G) (hn : m2.n = m.n) :
    Calls Tryd.prog 17 #[.pointer (some ⟨g, 0, none⟩), .pointer (some ⟨g2, 0, none⟩)] w fun e w' => ∃ F' G', e = .returned (.bool (decide (∀ i, i < m.n → cut (fun j => m.f (4096 * i + j)) 0 4096 = cut (fun j => m2.f (4096 * i + j)) 0 4096))) ∧ Two w' g m F' g2 m2 G' ∧ KX (fun k => F k ∨ G k) w w' ∧ (∀ k, F' k → F k ∨ w.heap.size ≤ k) ∧ (∀ k, G' k → G k ∨ w.heap.size ≤ k) := by
  have HT := Lib.hid h
  have hn2 := h.a.n2
  obtain ⟨gp, hc1⟩ : ∃ gp, w.cell? ⟨g, 0, none⟩ = some (.slice (some ⟨gp, 0, none⟩) m.n m.n) := by obtain ⟨gp, _, _, _, ha, _⟩ := h.a; exact ⟨gp, ha.c0⟩
  obtain ⟨gq, hc2⟩ : ∃ gp, w.cell? ⟨g2, 0, none⟩ = some (.slice (some ⟨gp, 0, none⟩) m.n m.n) := by obtain ⟨gp, _, _, _, ha, _⟩ := h.b; exact ⟨gp, hn ▸ ha.c0⟩
  have HAT := Lib.hid (fun W g m F (hW : RamIs W g m F) i (hi : i < m.n) => mem_at hW i hi)
  have HN := Lib.hid hn
  clear h hn
  go_enter Tryd.func17, Tryd.ntmps17
  go_upto_region 1 with fail
  go_quiet (fail)
  go_wp2_with fail
  go_loopw [30] (fun i wr => ∃ (j : Nat) (F' G' : Nat → Prop), j ≤ m.n ∧ i = .int .i64 j ∧ (∀ i, i < j → cut (fun j => m.f (4096 * i + j)) 0 4096 = cut (fun j => m2.f (4096 * i + j)) 0 4096) ∧ Two wr g m F' g2 m2 G' ∧ KX (fun k => F k ∨ G k) w wr ∧ (∀ k, F' k → F k ∨ w.heap.size ≤ k) ∧ (∀ k, G' k → G k ∨ w.heap.size ≤ k)) (fun i _ => m.n - (intOf i).toNat)
  case atStart => exact ⟨0, F, G, by omega, rfl, fun i hi => absurd hi (by omega), HT.out.below (below_drewN (Below.refl w.heap.size w) _), KX.of_below (X := fun k => F k ∨ G k) (below_drewN (Below.refl w.heap.size w) _), fun _ h => .inl h, fun _ h => .inl h⟩
  case round =>
    obtain ⟨j, F', G', hj, rfl, heq, htw, hkx, hf, hg⟩ := hrel
    have HE := Lib.hid heq
    have HTW := Lib.hid htw
    have HKX := Lib.hid hkx
    have HF := Lib.hid hf
    have HG := Lib.hid hg
    clear heq htw hkx hf hg
    by_cases hlt : j < m.n
    · have hjn : (j : Int) < (m.n : Int) := by omega
      have hj0 : (0 : Int) ≤ (j : Int) := by omega
      go_wp2_with fail
      refine (HAT.out _ _ _ _ HTW.out.a j hlt).mono ?_
      rintro e w1 ⟨k1, c1, F1, rfl, hc1', hr1, hp1, hs1, hk1⟩
      have T1 := Lib.hid (HTW.out.step hr1 hs1)
      have P1 := Lib.hid hp1
      have S1 := Lib.hid hs1
      have HK1 := Lib.hid hk1
      clear hr1 hp1 hs1 hk1
      go_wp2_with fail
      refine (HAT.out _ _ _ _ T1.out.b j (by have := HN.out; omega)).mono ?_
      rintro e w2 ⟨k2, c2, G1, rfl, hc2', hr2, hp2, hs2, hk2⟩
      have T2 := Lib.hid (T1.out.flip.step hr2 hs2).flip
      have P2 := Lib.hid (P1.out.keep (hs2.kx.block k1 P1.out.lt (T1.out.ap k1 HK1.out)))
      have HB := Lib.hid (fun n (hn : n = 4096) => bytes_Equal_at (n := n) (ca := c1) (cb := c2) P2.out hp2 hn)
      have S2 := Lib.hid hs2
      clear hr2 hp2 hs2 hk2
      have HKX2 : Hid (KX (fun k => F k ∨ G k) w w2) := Lib.hid ((HKX.out.trans S1.out.kx (fun k hk hf => (HF.out k hf).elim .inl (fun h => absurd hk (by omega)))).trans S2.out.kx (fun k hk hg => (HG.out k hg).elim .inr (fun h => absurd hk (by omega))))
      have HF2 : Hid (∀ k, F1 k → F k ∨ w.heap.size ≤ k) := Lib.hid (fun k hk => (S1.out.gr k hk).elim (HF.out k) (fun h => .inr (Nat.le_trans HKX.out.size h)))
      have HG2 : Hid (∀ k, G1 k → G k ∨ w.heap.size ≤ k) := Lib.hid (fun k hk => (S2.out.gr k hk).elim (HG.out k) (fun h => .inr (Nat.le_trans (Nat.le_trans HKX.out.size S1.out.kx.size) h)))
      clear HKX HF HG S1 S2 P1 P2 T1 HTW HK1
      by_cases hq : cut (fun x => m.f (4096 * j + x)) 0 4096 = cut (fun x => m2.f (4096 * j + x)) 0 4096
      · have HE2 : Hid (∀ i, i < j + 1 → cut (fun j => m.f (4096 * i + j)) 0 4096 = cut (fun j => m2.f (4096 * i + j)) 0 4096) := Lib.hid (fun i hi => by
          rcases Nat.lt_or_eq_of_le (Nat.lt_succ_iff.1 hi) with h | rfl
          · exact HE.out i h
          · exact hq)
        have hd := decide_eq_true hq
        rw [hd] at HB
        clear hq hd
        go_wp2_with fail
        refine (HB.out _ rfl).mono ?_
        rintro e w3 ⟨rfl, rfl⟩
        go_wp2_with fail
        go_roundw
        case rel => exact ⟨j + 1, F1, G1, by omega, by go_num, HE2.out, T2.out, HKX2.out, HF2.out, HG2.out⟩
        case measure => simp [intOf]; omega
      · have HND : Hid (decide (∀ i, i < m.n → cut (fun j => m.f (4096 * i + j)) 0 4096 = cut (fun j => m2.f (4096 * i + j)) 0 4096) = false) := Lib.hid (decide_eq_false (fun h => hq (h j hlt)))
        have hd := decide_eq_false hq
        rw [hd] at HB
        clear hq hd
        go_wp2_with fail
        refine (HB.out _ rfl).mono ?_
        rintro e w3 ⟨rfl, rfl⟩
        go_wp2_with fail
        go_ret
        exact ⟨F1, G1, by rw [HND.out]; rfl, T2.out, HKX2.out, HF2.out, HG2.out⟩
    · have hjn : ¬ (j : Int) < (m.n : Int) := by omega
      have HND : Hid (decide (∀ i, i < m.n → cut (fun j => m.f (4096 * i + j)) 0 4096 = cut (fun j => m2.f (4096 * i + j)) 0 4096) = true) := Lib.hid (decide_eq_true (fun i hi => HE.out i (by omega)))
      go_wp2_with fail
      go_ret
      exact ⟨by rw [HND.out]; rfl, F', G', HTW.out, HKX.out, HF.out, HG.out⟩
end Go.Proofs.YtcakcfeipfjmpaaDoor
