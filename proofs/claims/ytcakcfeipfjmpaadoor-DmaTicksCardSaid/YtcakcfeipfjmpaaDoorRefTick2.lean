/-
pinnaceref12.Tick, of any state and memory: it answers as a tick of package dma does.
No condition.
-/
import Derived.Test.YtcakcfeipfjmpaaDoorRefTick
import Derived.Test.YtcakcfeipfjmpaaDoorBothDef
namespace Go.Proofs.YtcakcfeipfjmpaaDoor
open Go.RowKit

theorem gp_word (f : Nat → UInt8) (a j : Nat) (hj : j < 4) : gp f (off a + 4 * j) 4 = wordAt f a j := by
  rw [wordAt_rd4 _ _ _ hj]
  unfold rd4
  simp only [gp, Nat.add_zero, Nat.zero_add, Nat.pow_zero, Nat.mul_one]
theorem in_dec (n a k : Nat) : decide (2147483648 ≤ a ∧ a - 2147483648 + k ≤ 4096 * n) = decide (inM n a k) := by
  unfold inM
  rw [off_eq]
theorem cut_rowL (f : Nat → UInt8) (a n : Nat) : (cut f a n).map B8 = rowL (fun j => cellU f (a + j)) n := by
  unfold cut rowL cellU
  rw [List.map_map]
  rfl
theorem ended_c (s : Dst) : (s.ended 3).c = #[.int .u32 3, .int .u32 s.head, .int .u32 s.at_, .int .u32 s.steps, .int .u32 s.moved, .bool false, .int .u32 0, .int .u32 0, .int .u32 0, .int .u32 0, .bool true] := rfl
theorem ref12_Tick {w : World} {B : Nat} {v : Value} {m : Mm} {F : Nat → Prop} (s : Dst) (hs : s.wf) (h : RefF w B v m F) (hF : ∀ k, F k → k < w.heap.size) (hB : B ≤ w.heap.size) :
    Calls Tryd.prog 12 #[.agg s.c, v] w fun e w' => ∃ v', e = .returned (.tuple #[.agg (s.tick m).c, v']) ∧ RefF w' B v' (s.after m) F ∧ Below w.heap.size w w' := by
  have hh := h
  obtain ⟨n1, n2, b1, c1, b2, c2, ⟨rfl, hcc⟩, hb1, hb2, hf1, hf2, r1, r2⟩ := h
  have HC := Lib.hid (fun W => ref12_Check s W)
  have HI : ∀ a k : Nat, a < 4294967296 → k < 4294967296 → ∀ W, Calls Tryd.prog 54 #[.agg (refC b1 (4096 * m.n) c1 b2 m.n c2 m.wr), .int .u32 a, .int .u32 k] W fun e w' => e = .returned (.bool (decide (inM m.n a k))) ∧ Below W.heap.size W w' := fun a k ha hk W => by
    have := ref12_in (some ⟨b1, 0, none⟩) (some ⟨b2, 0, none⟩) (4096 * m.n) c1 m.n c2 m.wr a k W (by omega) ha hk
    rw [in_dec] at this
    exact this
  have keep : ∀ {e : Ending} {w' : World} (x : Value), (e = .returned (.tuple #[x, .agg (refC b1 (4096 * m.n) c1 b2 m.n c2 m.wr)]) ∧ Below w.heap.size w w') → ∃ v', e = .returned (.tuple #[x, v']) ∧ RefF w' B v' m F ∧ Below w.heap.size w w' := fun x hx => ⟨_, hx.1, hh.below hx.2, hx.2⟩
  by_cases hok : s.okP
  · rw [if_pos hok] at HC
    by_cases hc : s.code = 1
    · have hg : s.goes := ⟨hok, hc⟩
      have hask : s.asks = false := by
        cases ha : s.asks
        · rfl
        · have := hok.a ha; omega
      have HFA := Lib.hid (fun W => ref12_fail s W)
      have hst := hok.st
      have hat := hs.at_
      have hfr := hs.from_
      have hto := hs.to_
      have hle := hs.left
      have hmo := hs.moved
      cases hv : s.have_
      · have e1 : s.tick m = s.fetch m := by unfold Dst.tick; rw [if_neg (not_not_intro hg), if_neg (by rw [hv]; exact Bool.false_ne_true)]
        have e2 : s.after m = m := by unfold Dst.after; rw [if_neg (fun h => by rw [hv] at h; cases h.2)]
        rw [e1, e2]
        obtain ⟨code, head, at_, steps, moved, have_, from_, to_, left, next, asks⟩ := s
        dsimp only at hc hask hv hst hat
        subst hc hask hv
        rw [ended_c] at HFA
        unfold Dst.fetch
        dsimp only
        by_cases h1 : 63 < steps
        · rw [if_pos (.inl (by omega)), ended_c]
          exact (r12_tk_f64 head at_ steps moved from_ to_ left next false w h1 HFA HC).mono fun e w' hx => keep _ hx
        · by_cases h2 : at_ % 4 = 0
          · by_cases h3 : inM m.n at_ 16
            · rw [if_neg (by rintro (h | h | h); omega; exact h h2; exact h h3)]
              have HIT := Lib.hid (fun W => HI at_ 16 hat (by omega) W)
              rw [decide_eq_true h3] at HIT
              have hx0 := off_eq at_
              obtain ⟨x, rfl⟩ : ∃ x, at_ = x + 2147483648 := ⟨at_ - 2147483648, by have := h3.1; omega⟩
              rw [Nat.add_sub_cancel] at hx0
              have hx1 : x + 16 ≤ 4096 * m.n := by have := h3.2; omega
              have ex : ((x + 2147483648 : Nat) : Int) = (x : Int) + 2147483648 := by omega
              have est : ((steps + 1 : Nat) : Int) = (steps : Int) + 1 := by omega
              have w0 := gp_word m.f (x + 2147483648) 0 (by omega)
              have w1 := gp_word m.f (x + 2147483648) 1 (by omega)
              have w2 := gp_word m.f (x + 2147483648) 2 (by omega)
              have w3 := gp_word m.f (x + 2147483648) 3 (by omega)
              rw [← hx0] at w0 w1 w2 w3
              have HG : Hid (∀ W, Row W b1 5 (4096 * m.n) (cellU m.f) → Calls Tryd.prog 56 #[.slice (some ⟨b1, 0, none⟩) (4096 * m.n) c1, .int .i64 (x : Int), .int .i64 4] W (fun e w' => e = .returned (.tuple #[.int .u32 (wordAt m.f (x + 2147483648) 0 : Nat), .int .i64 0]) ∧ W = w') ∧ Calls Tryd.prog 56 #[.slice (some ⟨b1, 0, none⟩) (4096 * m.n) c1, .int .i64 ((x : Int) + 4), .int .i64 4] W (fun e w' => e = .returned (.tuple #[.int .u32 (wordAt m.f (x + 2147483648) 1 : Nat), .int .i64 0]) ∧ W = w') ∧ Calls Tryd.prog 56 #[.slice (some ⟨b1, 0, none⟩) (4096 * m.n) c1, .int .i64 ((x : Int) + 8), .int .i64 4] W (fun e w' => e = .returned (.tuple #[.int .u32 (wordAt m.f (x + 2147483648) 2 : Nat), .int .i64 0]) ∧ W = w') ∧ Calls Tryd.prog 56 #[.slice (some ⟨b1, 0, none⟩) (4096 * m.n) c1, .int .i64 ((x : Int) + 12), .int .i64 4] W (fun e w' => e = .returned (.tuple #[.int .u32 (wordAt m.f (x + 2147483648) 3 : Nat), .int .i64 0]) ∧ W = w')) := Lib.hid (fun W r => by
                have g0 := ref1_Get_ok (c := c1) r (x + 4 * 0) 4 (.inr (.inr rfl)) (by omega) (by omega) (by omega)
                have g1 := ref1_Get_ok (c := c1) r (x + 4 * 1) 4 (.inr (.inr rfl)) (by omega) (by omega) (by omega)
                have g2 := ref1_Get_ok (c := c1) r (x + 4 * 2) 4 (.inr (.inr rfl)) (by omega) (by omega) (by omega)
                have g3 := ref1_Get_ok (c := c1) r (x + 4 * 3) 4 (.inr (.inr rfl)) (by omega) (by omega) (by omega)
                rw [w0, show ((x + 4 * 0 : Nat) : Int) = (x : Int) by omega] at g0
                rw [w1, show ((x + 4 * 1 : Nat) : Int) = (x : Int) + 4 by omega] at g1
                rw [w2, show ((x + 4 * 2 : Nat) : Int) = (x : Int) + 8 by omega] at g2
                rw [w3, show ((x + 4 * 3 : Nat) : Int) = (x : Int) + 12 by omega] at g3
                exact ⟨g0, g1, g2, g3⟩)
              have HFS := Lib.hid (fun W => ref12_fail ⟨1, head, x + 2147483648, steps + 1, moved, false, from_, to_, left, next, false⟩ W)
              rw [ended_c] at HFS
              simp only [Dst.c] at HC HFS
              rw [ex] at HC HIT HFS
              rw [est] at HFS
              generalize wordAt m.f (x + 2147483648) 0 = W0 at HG ⊢
              generalize wordAt m.f (x + 2147483648) 1 = W1 at HG ⊢
              generalize wordAt m.f (x + 2147483648) 2 = W2 at HG ⊢
              generalize wordAt m.f (x + 2147483648) 3 = W3 at HG ⊢
              by_cases h4 : W2 = 0
              · rw [if_pos (.inl (by omega)), ended_c]
                simp only [Dst.c]
                rw [ex, est]
                exact (r12_tk_w_zero head x steps moved from_ to_ left next false W0 W1 W2 W3 w (by omega) h2 hx1 n2 (Lib.hid r1) HIT HG h4 HFS HC).mono fun e w' hx => keep _ hx
              · by_cases h5 : 65536 < W2
                · rw [if_pos (.inr h5), ended_c]
                  simp only [Dst.c]
                  rw [ex, est]
                  exact (r12_tk_w_long head x steps moved from_ to_ left next false W0 W1 W2 W3 w (by omega) h2 hx1 n2 (Lib.hid r1) HIT HG h4 h5 HFS HC).mono fun e w' hx => keep _ hx
                · rw [if_neg (by omega)]
                  simp only [Dst.c]
                  rw [ex, est]
                  exact (r12_tk_w_ok head x steps moved from_ to_ left next false W0 W1 W2 W3 w (by omega) h2 hx1 n2 (Lib.hid r1) HIT HG h4 h5 HC).mono fun e w' hx => keep _ hx
            · have HIT := Lib.hid (fun W => HI at_ 16 hat (by omega) W)
              rw [decide_eq_false h3] at HIT
              rw [if_pos (.inr (.inr h3)), ended_c]
              exact (r12_tk_fno head at_ steps moved from_ to_ left next false w (by omega) h2 HFA HIT HC).mono fun e w' hx => keep _ hx
          · rw [if_pos (.inr (.inl h2)), ended_c]
            exact (r12_tk_fodd head at_ steps moved from_ to_ left next false w (by omega) h2 HFA HC).mono fun e w' hx => keep _ hx
      · have e1 : s.tick m = s.move m := by unfold Dst.tick; rw [if_neg (not_not_intro hg), if_pos hv]
        have e2 : s.after m = s.wrote m := by unfold Dst.after; rw [if_pos ⟨hg, hv⟩]
        rw [e1, e2]
        obtain ⟨hl1, hl2⟩ := hok.l hv
        obtain ⟨code, head, at_, steps, moved, have_, from_, to_, left, next, asks⟩ := s
        dsimp only at hc hask hv hfr hto hle hmo hl1 hl2
        subst hc hask hv
        rw [ended_c] at HFA
        unfold Dst.move Dst.wrote
        dsimp only
        by_cases hl : 64 < left
        · have hbu : (if 64 < left then 64 else left) = 64 := if_pos hl
          have hnnl : 64 < 4294967296 := by omega
          have hnn0 : 0 < 64 := by omega
          have HIF := Lib.hid (fun W => HI from_ 64 hfr hnnl W)
          have HIT := Lib.hid (fun W => HI to_ 64 hto hnnl W)
          rw [show ((64 : Nat) : Int) = 64 from rfl] at HIF HIT
          by_cases h1 : inM m.n from_ 64
          · rw [decide_eq_true h1] at HIF
            by_cases h2 : inM m.n to_ 64
            · rw [decide_eq_true h2] at HIT
              have hmv : Dst.moves ⟨1, head, at_, steps, moved, true, from_, to_, left, next, false⟩ m := by
                unfold Dst.moves Dst.burst
                rw [hbu]
                exact ⟨h1, h2⟩
              rw [if_neg (not_not_intro hmv), if_pos hmv]
              unfold Dst.burst
              rw [hbu]
              have hf0 := off_eq from_
              have ht0 := off_eq to_
              have hfi : ((off from_ : Nat) : Int) = (from_ : Int) - 2147483648 := by have := h1.1; omega
              have hti : ((off to_ : Nat) : Int) = (to_ : Int) - 2147483648 := by have := h2.1; omega
              have hlen : (cut m.f (off from_) 64).length = 64 := cut_length _ _ _
              have ew : m.write (off to_) (cut m.f (off from_) 64) = { m with f := putL m.f (off to_) (cut m.f (off from_) 64), d := markL m.d (off to_) 64, wr := wrap64 (m.wr + 1) } := by
                unfold Mm.write
                rw [hlen, if_neg (fun h => by rw [h] at hlen; simp only [List.length_nil] at hlen; omega)]
              rw [ew]
              have hin1 : off from_ + 64 ≤ 4096 * m.n := h1.2
              have hin2 : off to_ + 64 ≤ 4096 * m.n := h2.2
              have HRD := Lib.hid (fun W => ref6_Read_ok b1 (4096 * m.n) c1 b2 m.n c2 m.wr (off from_) 64 W hnn0 hin1 hcc (by omega))
              have HWR := Lib.hid (fun W (hb : Below w.heap.size w W) => ref6_Write_row (c2 := c2) (q := m.wr) (r1.below hb) (r2.below hb) (by omega) n2 hcc (off to_) (cut m.f (off from_) 64) ⟨b1, off from_, none⟩ (c1 - off from_) 64 hlen.symm hnn0 hin2 (fun W' hb' => by
                have hr := (r1.below hb).below hb'
                rw [cut_rowL]
                exact Row.newsAt hr hin1))
              rw [hfi] at HRD
              rw [hti] at HWR
              rw [show ((64 : Nat) : Int) = 64 from rfl] at HRD
              have fin : ∀ {e : Ending} {w' : World} (x : Value), (∃ b3 c3 b4 c4, e = .returned (.tuple #[x, .agg (refC b3 (4096 * m.n) c3 b4 m.n c4 (wrap64 (m.wr + 1)))]) ∧ Row w' b3 5 (4096 * m.n) (cellU (putL m.f (off to_) (cut m.f (off from_) 64))) ∧ Row w' b4 4 m.n (cellT (markL m.d (off to_) 64)) ∧ w.heap.size ≤ b3 ∧ w.heap.size ≤ b4 ∧ Below w.heap.size w w' ∧ 4096 * m.n ≤ c3) →
                  ∃ v', e = .returned (.tuple #[x, v']) ∧ RefF w' B v' { m with f := putL m.f (off to_) (cut m.f (off from_) 64), d := markL m.d (off to_) 64, wr := wrap64 (m.wr + 1) } F ∧ Below w.heap.size w w' := fun x hx => by
                obtain ⟨b3, c3, b4, c4, h1, h2, h3, h4, h5, h6, h7⟩ := hx
                exact ⟨_, h1, ⟨n1, n2, b3, c3, b4, c4, ⟨rfl, h7⟩, by omega, by omega, fun hf => by have := hF _ hf; omega, fun hf => by have := hF _ hf; omega, h2, h3⟩, h6⟩
              rw [if_pos hl]
              have e1 : (((moved + 64) % 4294967296 : Nat) : Int) = ((moved : Int) + 64) % 4294967296 := by omega
              have e2 : (((from_ + 64) % 4294967296 : Nat) : Int) = ((from_ : Int) + 64) % 4294967296 := by omega
              have e3 : (((to_ + 64) % 4294967296 : Nat) : Int) = ((to_ : Int) + 64) % 4294967296 := by omega
              have e4 : ((left - 64 : Nat) : Int) = (left : Int) - 64 := by omega
              simp only [Dst.c] at HC ⊢
              rw [e1, e2, e3, e4]
              exact (r12_tk_mv_more head at_ steps moved from_ to_ left next w hl hle hmo h1.1 hfr h2.1 hto (off from_) HIF HIT HRD HWR HC).mono fun e w' hx => fin _ hx
            · rw [decide_eq_false h2] at HIT
              have hmv : ¬ Dst.moves ⟨1, head, at_, steps, moved, true, from_, to_, left, next, false⟩ m := by
                unfold Dst.moves Dst.burst
                rw [hbu]
                exact fun h => h2 h.2
              rw [if_pos hmv, if_neg hmv, ended_c]
              exact (r12_tk_mb2 head at_ steps moved from_ to_ left next false w hl HFA HIF HIT HC).mono fun e w' hx => keep _ hx
          · rw [decide_eq_false h1] at HIF
            have hmv : ¬ Dst.moves ⟨1, head, at_, steps, moved, true, from_, to_, left, next, false⟩ m := by
              unfold Dst.moves Dst.burst
              rw [hbu]
              exact fun h => h1 h.1
            rw [if_pos hmv, if_neg hmv, ended_c]
            exact (r12_tk_mb1 head at_ steps moved from_ to_ left next false w hl HFA HIF HC).mono fun e w' hx => keep _ hx
        · have hbu : (if 64 < left then 64 else left) = left := if_neg hl
          have hnnl : left < 4294967296 := by omega
          have hnn0 : 0 < left := by omega
          have HIF := Lib.hid (fun W => HI from_ left hfr hnnl W)
          have HIT := Lib.hid (fun W => HI to_ left hto hnnl W)
          skip
          by_cases h1 : inM m.n from_ left
          · rw [decide_eq_true h1] at HIF
            by_cases h2 : inM m.n to_ left
            · rw [decide_eq_true h2] at HIT
              have hmv : Dst.moves ⟨1, head, at_, steps, moved, true, from_, to_, left, next, false⟩ m := by
                unfold Dst.moves Dst.burst
                rw [hbu]
                exact ⟨h1, h2⟩
              rw [if_neg (not_not_intro hmv), if_pos hmv]
              unfold Dst.burst
              rw [hbu]
              have hf0 := off_eq from_
              have ht0 := off_eq to_
              have hfi : ((off from_ : Nat) : Int) = (from_ : Int) - 2147483648 := by have := h1.1; omega
              have hti : ((off to_ : Nat) : Int) = (to_ : Int) - 2147483648 := by have := h2.1; omega
              have hlen : (cut m.f (off from_) left).length = left := cut_length _ _ _
              have ew : m.write (off to_) (cut m.f (off from_) left) = { m with f := putL m.f (off to_) (cut m.f (off from_) left), d := markL m.d (off to_) left, wr := wrap64 (m.wr + 1) } := by
                unfold Mm.write
                rw [hlen, if_neg (fun h => by rw [h] at hlen; simp only [List.length_nil] at hlen; omega)]
              rw [ew]
              have hin1 : off from_ + left ≤ 4096 * m.n := h1.2
              have hin2 : off to_ + left ≤ 4096 * m.n := h2.2
              have HRD := Lib.hid (fun W => ref6_Read_ok b1 (4096 * m.n) c1 b2 m.n c2 m.wr (off from_) left W hnn0 hin1 hcc (by omega))
              have HWR := Lib.hid (fun W (hb : Below w.heap.size w W) => ref6_Write_row (c2 := c2) (q := m.wr) (r1.below hb) (r2.below hb) (by omega) n2 hcc (off to_) (cut m.f (off from_) left) ⟨b1, off from_, none⟩ (c1 - off from_) left hlen.symm hnn0 hin2 (fun W' hb' => by
                have hr := (r1.below hb).below hb'
                rw [cut_rowL]
                exact Row.newsAt hr hin1))
              rw [hfi] at HRD
              rw [hti] at HWR
              skip
              have fin : ∀ {e : Ending} {w' : World} (x : Value), (∃ b3 c3 b4 c4, e = .returned (.tuple #[x, .agg (refC b3 (4096 * m.n) c3 b4 m.n c4 (wrap64 (m.wr + 1)))]) ∧ Row w' b3 5 (4096 * m.n) (cellU (putL m.f (off to_) (cut m.f (off from_) left))) ∧ Row w' b4 4 m.n (cellT (markL m.d (off to_) left)) ∧ w.heap.size ≤ b3 ∧ w.heap.size ≤ b4 ∧ Below w.heap.size w w' ∧ 4096 * m.n ≤ c3) →
                  ∃ v', e = .returned (.tuple #[x, v']) ∧ RefF w' B v' { m with f := putL m.f (off to_) (cut m.f (off from_) left), d := markL m.d (off to_) left, wr := wrap64 (m.wr + 1) } F ∧ Below w.heap.size w w' := fun x hx => by
                obtain ⟨b3, c3, b4, c4, h1, h2, h3, h4, h5, h6, h7⟩ := hx
                exact ⟨_, h1, ⟨n1, n2, b3, c3, b4, c4, ⟨rfl, h7⟩, by omega, by omega, fun hf => by have := hF _ hf; omega, fun hf => by have := hF _ hf; omega, h2, h3⟩, h6⟩
              rw [if_neg hl]
              have e1 : (((moved + left) % 4294967296 : Nat) : Int) = ((moved : Int) + (left : Int)) % 4294967296 := by omega
              by_cases h4 : next = 0
              · rw [if_pos h4]
                simp only [Dst.c, Dst.ended, Dst.without] at HC ⊢
                rw [e1]
                exact (r12_tk_mv_done head at_ steps moved from_ to_ left next w (by omega) hle hmo h1.1 hfr h2.1 hto (off from_) h4 HIF HIT HRD HWR HC).mono fun e w' hx => fin _ hx
              · rw [if_neg h4]
                simp only [Dst.c, Dst.without] at HC ⊢
                rw [e1]
                exact (r12_tk_mv_chain head at_ steps moved from_ to_ left next w (by omega) hle hmo h1.1 hfr h2.1 hto (off from_) h4 HIF HIT HRD HWR HC).mono fun e w' hx => fin _ hx
            · rw [decide_eq_false h2] at HIT
              have hmv : ¬ Dst.moves ⟨1, head, at_, steps, moved, true, from_, to_, left, next, false⟩ m := by
                unfold Dst.moves Dst.burst
                rw [hbu]
                exact fun h => h2 h.2
              rw [if_pos hmv, if_neg hmv, ended_c]
              exact (r12_tk_ms2 head at_ steps moved from_ to_ left next false w (by omega) HFA HIF HIT HC).mono fun e w' hx => keep _ hx
          · rw [decide_eq_false h1] at HIF
            have hmv : ¬ Dst.moves ⟨1, head, at_, steps, moved, true, from_, to_, left, next, false⟩ m := by
              unfold Dst.moves Dst.burst
              rw [hbu]
              exact fun h => h1 h.1
            rw [if_pos hmv, if_neg hmv, ended_c]
            exact (r12_tk_ms1 head at_ steps moved from_ to_ left next false w (by omega) HFA HIF HC).mono fun e w' hx => keep _ hx
    · have hg : ¬ s.goes := fun h => hc h.code
      have e1 : s.tick m = s := by unfold Dst.tick; rw [if_pos hg]
      have e2 : s.after m = m := by unfold Dst.after; rw [if_neg (fun h => hg h.1)]
      rw [e1, e2]
      obtain ⟨code, head, at_, steps, moved, have_, from_, to_, left, next, asks⟩ := s
      exact (r12_tk_idle code head at_ steps moved have_ from_ to_ left next asks w hc HC).mono fun e w' hx => keep _ hx
  · rw [if_neg hok] at HC
    have hg : ¬ s.goes := fun h => hok h.ok
    have e1 : s.tick m = s := by unfold Dst.tick; rw [if_pos hg]
    have e2 : s.after m = m := by unfold Dst.after; rw [if_neg (fun h => hg h.1)]
    rw [e1, e2]
    obtain ⟨code, head, at_, steps, moved, have_, from_, to_, left, next, asks⟩ := s
    exact (r12_tk_bad code head at_ steps moved have_ from_ to_ left next asks w HC).mono fun e w' hx => keep _ hx
end Go.Proofs.YtcakcfeipfjmpaaDoor
