/-
virtio's ready, queue and Write, walked: each is a plain function of the state.
No condition.
-/
import Derived.Test.YtcbjlpkkebcmjaaDoorVioReady
import Derived.Test.YtcbjlpkkebcmjaaDoorVioQueue
import Derived.Test.YtcbjlpkkebcmjaaDoorVioWr
namespace Go.Proofs.YtcbjlpkkebcmjaaDoor
open Go.RowKit


def VS.ready (s : VS) (v : Nat) : VS := if s.se = 0 then (if v = 0 then { s with a := { s.a with rdy := false } } else if v = 1 then (if s.a.ring then { s with a := { s.a with rdy := true, la := 0, pu := 0 } } else s.fail) else s) else (if v = 0 then { s with b := { s.b with rdy := false } } else if v = 1 then (if s.b.ring then { s with b := { s.b with rdy := true, la := 0, pu := 0 } } else s.fail) else s)
def VS.queue (s : VS) (at_ v : Nat) : VS := if 2 ≤ s.se then s else if at_ = 68 then s.ready v else if s.se = 0 then (if s.a.rdy = true then s else if at_ = 56 then (if v ≤ 256 then { s with a := { s.a with size := (v : Int) } } else s) else if at_ = 128 then { s with a := { s.a with de := v } } else if at_ = 144 then { s with a := { s.a with av := v } } else if at_ = 160 then { s with a := { s.a with us := v } } else if (at_ = 132 ∨ at_ = 148 ∨ at_ = 164) ∧ v ≠ 0 then s.fail else s) else (if s.b.rdy = true then s else if at_ = 56 then (if v ≤ 256 then { s with b := { s.b with size := (v : Int) } } else s) else if at_ = 128 then { s with b := { s.b with de := v } } else if at_ = 144 then { s with b := { s.b with av := v } } else if at_ = 160 then { s with b := { s.b with us := v } } else if (at_ = 132 ∨ at_ = 148 ∨ at_ = 164) ∧ v ≠ 0 then s.fail else s)
theorem range_a_of (s : VS) : ∀ (j : Nat) v, ([.int .i64 s.a.size, .int .u32 s.a.de, .int .u32 s.a.av, .int .u32 s.a.us, .int .u16 s.a.la, .int .u16 s.a.pu] : List Value)[j]? = some v → s.c[8 + j]? = some v
  | 0, _, h => h
  | 1, _, h => h
  | 2, _, h => h
  | 3, _, h => h
  | 4, _, h => h
  | 5, _, h => h
  | j + 6, _, h => by simp at h
theorem range_b_of (s : VS) : ∀ (j : Nat) v, ([.int .i64 s.b.size, .int .u32 s.b.de, .int .u32 s.b.av, .int .u32 s.b.us, .int .u16 s.b.la, .int .u16 s.b.pu] : List Value)[j]? = some v → s.c[15 + j]? = some v
  | 0, _, h => h
  | 1, _, h => h
  | 2, _, h => h
  | 3, _, h => h
  | 4, _, h => h
  | 5, _, h => h
  | j + 6, _, h => by simp at h
theorem c3_of (s : VS) (k : Nat) (h : s.se = k) : s.c[3]? = some (.int .u32 (k : Nat)) := by rw [← h]; rfl
theorem ca_of (s : VS) (r : Bool) (h : s.a.rdy = r) : s.c[7]? = some (.bool r) := by rw [← h]; rfl
theorem cb_of (s : VS) (r : Bool) (h : s.b.rdy = r) : s.c[14]? = some (.bool r) := by rw [← h]; rfl
theorem beq_ne {x : Nat} {m : Nat} (h : ¬ x = m) : (((x : Int)) == (m : Int)) = false := by simp only [beq_eq_false_iff_ne, ne_eq]; omega
theorem bne_ne0 {x : Nat} (h : ¬ x = 0) : (((x : Int)) != 0) = true := by simp only [bne_iff_ne, ne_eq]; omega

theorem vs_ready (s : VS) (v : Nat) (hs : s.wf) (hk : s.se < 2) (w : World) :
    Calls Tryd.prog 148 #[s.v, .int .u32 v] w fun e w' => e = .returned (s.ready v).v ∧ Below w.heap.size w w' := by
  by_cases hse : s.se = 0
  · have eR : s.ready v = (if v = 0 then { s with a := { s.a with rdy := false } } else if v = 1 then (if s.a.ring then { s with a := { s.a with rdy := true, la := 0, pu := 0 } } else s.fail) else s) := if_pos hse
    have h3 := c3_of s 0 hse
    rw [eR]
    clear eR
    by_cases h0 : v = 0
    · rw [if_pos h0]; subst h0
      exact vs_ready_0_0 s.c _ w h3 rfl (VS.c_one _) rfl rfl
    · rw [if_neg h0]
      by_cases h1 : v = 1
      · rw [if_pos h1]; subst h1
        have HR := Lib.hid (vring_Check s.a)
        by_cases hr : s.a.ring
        · rw [if_pos hr] at HR ⊢
          exact vs_ready_0_1g s.c _ _ _ _ _ _ _ s.a.rdy w h3 rfl (VS.c_one _) rfl rfl rfl (range_a_of s) HR
        · rw [if_neg hr] at HR ⊢
          exact vs_ready_0_1b s.c _ _ _ _ _ _ _ w h3 rfl (VS.c_one _) rfl trivial (range_a_of s) HR (Lib.hid (vs_Fail s hs.hst hs.hirq))
      · rw [if_neg h1]
        exact vs_ready_0_e s.c _ v w h3 rfl (VS.c_one _) rfl rfl (beq_ne h0) (beq_ne h1)
  · have eR : s.ready v = (if v = 0 then { s with b := { s.b with rdy := false } } else if v = 1 then (if s.b.ring then { s with b := { s.b with rdy := true, la := 0, pu := 0 } } else s.fail) else s) := if_neg hse
    have h3 := c3_of s 1 (by omega)
    rw [eR]
    clear eR
    by_cases h0 : v = 0
    · rw [if_pos h0]; subst h0
      exact vs_ready_1_0 s.c _ w h3 rfl (VS.c_one _) rfl rfl
    · rw [if_neg h0]
      by_cases h1 : v = 1
      · rw [if_pos h1]; subst h1
        have HR := Lib.hid (vring_Check s.b)
        by_cases hr : s.b.ring
        · rw [if_pos hr] at HR ⊢
          exact vs_ready_1_1g s.c _ _ _ _ _ _ _ s.b.rdy w h3 rfl (VS.c_one _) rfl rfl rfl (range_b_of s) HR
        · rw [if_neg hr] at HR ⊢
          exact vs_ready_1_1b s.c _ _ _ _ _ _ _ w h3 rfl (VS.c_one _) rfl trivial (range_b_of s) HR (Lib.hid (vs_Fail s hs.hst hs.hirq))
      · rw [if_neg h1]
        exact vs_ready_1_e s.c _ v w h3 rfl (VS.c_one _) rfl rfl (beq_ne h0) (beq_ne h1)
theorem vs_queue (s : VS) (at_ v : Nat) (hs : s.wf) (w : World) :
    Calls Tryd.prog 124 #[s.v, .int .u32 at_, .int .u32 v] w fun e w' => e = .returned (s.queue at_ v).v ∧ Below w.heap.size w w' := by
  by_cases h2 : 2 ≤ s.se
  · rw [show s.queue at_ v = s from if_pos h2]
    exact vs_queue_big s.c _ s.se at_ v w rfl rfl (VS.c_one _) rfl rfl (by omega)
  · by_cases h68 : at_ = 68
    · rw [show s.queue at_ v = s.ready v by unfold VS.queue; rw [if_neg h2, if_pos h68]]
      subst h68
      exact vs_queue_r68 s.c _ s.se v w rfl rfl (VS.c_one _) rfl trivial (by omega) (Lib.hid (vs_ready s v hs (by omega)))
    · by_cases hse : s.se = 0
      · have eR : s.queue at_ v = (if s.a.rdy = true then s else if at_ = 56 then (if v ≤ 256 then { s with a := { s.a with size := (v : Int) } } else s) else if at_ = 128 then { s with a := { s.a with de := v } } else if at_ = 144 then { s with a := { s.a with av := v } } else if at_ = 160 then { s with a := { s.a with us := v } } else if (at_ = 132 ∨ at_ = 148 ∨ at_ = 164) ∧ v ≠ 0 then s.fail else s) := by unfold VS.queue; rw [if_neg h2, if_neg h68, if_pos hse]
        have h3 := c3_of s 0 (by omega)
        rw [eR]
        clear eR
        cases hr : s.a.rdy with
        | true =>
          rw [if_pos rfl]
          exact vs_queue_0_rdy s.c _ at_ v w h3 rfl (VS.c_one _) rfl rfl (ca_of s true hr) (beq_ne h68)
        | false =>
          rw [if_neg (by simp)]
          have hcr := ca_of s false hr
          by_cases h56 : at_ = 56
          · rw [if_pos h56]; subst h56
            by_cases hv : v ≤ 256
            · rw [if_pos hv]; exact vs_queue_0_56s s.c _ v w h3 rfl (VS.c_one _) rfl rfl hcr (by omega)
            · rw [if_neg hv]; exact vs_queue_0_56n s.c _ v w h3 rfl (VS.c_one _) rfl rfl hcr (by omega)
          rw [if_neg h56]
          by_cases h128 : at_ = 128
          · rw [if_pos h128]; subst h128; exact vs_queue_0_128 s.c _ v w h3 rfl (VS.c_one _) rfl rfl hcr
          rw [if_neg h128]
          by_cases h144 : at_ = 144
          · rw [if_pos h144]; subst h144; exact vs_queue_0_144 s.c _ v w h3 rfl (VS.c_one _) rfl rfl hcr
          rw [if_neg h144]
          by_cases h160 : at_ = 160
          · rw [if_pos h160]; subst h160; exact vs_queue_0_160 s.c _ v w h3 rfl (VS.c_one _) rfl rfl hcr
          rw [if_neg h160]
          by_cases h132 : at_ = 132
          · subst h132
            by_cases hv : v = 0
            · rw [if_neg (by omega)]; subst hv; exact vs_queue_0_132z s.c _ w h3 rfl (VS.c_one _) rfl rfl hcr
            · rw [if_pos (by omega)]; exact vs_queue_0_132n s.c _ v w h3 rfl (VS.c_one _) rfl trivial hcr (bne_ne0 hv) (Lib.hid (vs_Fail s hs.hst hs.hirq))
          by_cases h148 : at_ = 148
          · subst h148
            by_cases hv : v = 0
            · rw [if_neg (by omega)]; subst hv; exact vs_queue_0_148z s.c _ w h3 rfl (VS.c_one _) rfl rfl hcr
            · rw [if_pos (by omega)]; exact vs_queue_0_148n s.c _ v w h3 rfl (VS.c_one _) rfl trivial hcr (bne_ne0 hv) (Lib.hid (vs_Fail s hs.hst hs.hirq))
          by_cases h164 : at_ = 164
          · subst h164
            by_cases hv : v = 0
            · rw [if_neg (by omega)]; subst hv; exact vs_queue_0_164z s.c _ w h3 rfl (VS.c_one _) rfl rfl hcr
            · rw [if_pos (by omega)]; exact vs_queue_0_164n s.c _ v w h3 rfl (VS.c_one _) rfl trivial hcr (bne_ne0 hv) (Lib.hid (vs_Fail s hs.hst hs.hirq))
          rw [if_neg (by omega)]
          exact vs_queue_0_else s.c _ at_ v w h3 rfl (VS.c_one _) rfl rfl hcr (beq_ne h68) (beq_ne h56) (beq_ne h128) (beq_ne h144) (beq_ne h160) (beq_ne h132) (beq_ne h148) (beq_ne h164)
      · have eR : s.queue at_ v = (if s.b.rdy = true then s else if at_ = 56 then (if v ≤ 256 then { s with b := { s.b with size := (v : Int) } } else s) else if at_ = 128 then { s with b := { s.b with de := v } } else if at_ = 144 then { s with b := { s.b with av := v } } else if at_ = 160 then { s with b := { s.b with us := v } } else if (at_ = 132 ∨ at_ = 148 ∨ at_ = 164) ∧ v ≠ 0 then s.fail else s) := by unfold VS.queue; rw [if_neg h2, if_neg h68, if_neg hse]
        have h3 := c3_of s 1 (by omega)
        rw [eR]
        clear eR
        cases hr : s.b.rdy with
        | true =>
          rw [if_pos rfl]
          exact vs_queue_1_rdy s.c _ at_ v w h3 rfl (VS.c_one _) rfl rfl (cb_of s true hr) (beq_ne h68)
        | false =>
          rw [if_neg (by simp)]
          have hcr := cb_of s false hr
          by_cases h56 : at_ = 56
          · rw [if_pos h56]; subst h56
            by_cases hv : v ≤ 256
            · rw [if_pos hv]; exact vs_queue_1_56s s.c _ v w h3 rfl (VS.c_one _) rfl rfl hcr (by omega)
            · rw [if_neg hv]; exact vs_queue_1_56n s.c _ v w h3 rfl (VS.c_one _) rfl rfl hcr (by omega)
          rw [if_neg h56]
          by_cases h128 : at_ = 128
          · rw [if_pos h128]; subst h128; exact vs_queue_1_128 s.c _ v w h3 rfl (VS.c_one _) rfl rfl hcr
          rw [if_neg h128]
          by_cases h144 : at_ = 144
          · rw [if_pos h144]; subst h144; exact vs_queue_1_144 s.c _ v w h3 rfl (VS.c_one _) rfl rfl hcr
          rw [if_neg h144]
          by_cases h160 : at_ = 160
          · rw [if_pos h160]; subst h160; exact vs_queue_1_160 s.c _ v w h3 rfl (VS.c_one _) rfl rfl hcr
          rw [if_neg h160]
          by_cases h132 : at_ = 132
          · subst h132
            by_cases hv : v = 0
            · rw [if_neg (by omega)]; subst hv; exact vs_queue_1_132z s.c _ w h3 rfl (VS.c_one _) rfl rfl hcr
            · rw [if_pos (by omega)]; exact vs_queue_1_132n s.c _ v w h3 rfl (VS.c_one _) rfl trivial hcr (bne_ne0 hv) (Lib.hid (vs_Fail s hs.hst hs.hirq))
          by_cases h148 : at_ = 148
          · subst h148
            by_cases hv : v = 0
            · rw [if_neg (by omega)]; subst hv; exact vs_queue_1_148z s.c _ w h3 rfl (VS.c_one _) rfl rfl hcr
            · rw [if_pos (by omega)]; exact vs_queue_1_148n s.c _ v w h3 rfl (VS.c_one _) rfl trivial hcr (bne_ne0 hv) (Lib.hid (vs_Fail s hs.hst hs.hirq))
          by_cases h164 : at_ = 164
          · subst h164
            by_cases hv : v = 0
            · rw [if_neg (by omega)]; subst hv; exact vs_queue_1_164z s.c _ w h3 rfl (VS.c_one _) rfl rfl hcr
            · rw [if_pos (by omega)]; exact vs_queue_1_164n s.c _ v w h3 rfl (VS.c_one _) rfl trivial hcr (bne_ne0 hv) (Lib.hid (vs_Fail s hs.hst hs.hirq))
          rw [if_neg (by omega)]
          exact vs_queue_1_else s.c _ at_ v w h3 rfl (VS.c_one _) rfl rfl hcr (beq_ne h68) (beq_ne h56) (beq_ne h128) (beq_ne h144) (beq_ne h160) (beq_ne h132) (beq_ne h148) (beq_ne h164)
end Go.Proofs.YtcbjlpkkebcmjaaDoor
