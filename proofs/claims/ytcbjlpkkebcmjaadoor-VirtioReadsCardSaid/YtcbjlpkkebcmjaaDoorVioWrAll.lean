/-
virtio.Write, walked: a plain function of the state, the place and the value.
No condition.
-/
import Derived.Test.YtcbjlpkkebcmjaaDoorVioAll
import Derived.Test.YtcbjlpkkebcmjaaDoorVioErr
namespace Go.Proofs.YtcbjlpkkebcmjaaDoor
open Go.RowKit

theorem c2_of (s : VS) (k : Nat) (h : s.ds = k) : s.c[2]? = some (.int .u32 (k : Nat)) := by rw [← h]; rfl
def VS.notify (s : VS) (v : Nat) : Int := if v = 0 then (if s.a.rdy = true ∧ s.live then 0 else -1) else if v = 1 then (if s.b.rdy = true ∧ s.live then 1 else -1) else -1
/-- What Write makes of a state that may be, at a place that is one. -/
def VS.write (s : VS) (at_ v : Nat) : VS :=
  if at_ = 20 then { s with fs := v } else if at_ = 36 then { s with ds := v }
  else if at_ = 32 then (if s.st &&& 8 = 0 then (if s.ds = 0 then { s with d0 := v } else if s.ds = 1 then { s with d1 := v } else s) else s)
  else if at_ = 48 then { s with se := v } else if at_ = 80 then s
  else if at_ = 100 then { s with irq := s.irq &&& (4294967295 - v) } else if at_ = 112 then s.status v else s.queue at_ v
def VS.told (s : VS) (at_ v : Nat) : Int := if at_ = 80 then s.notify v else -1
def vioV (s : VS) (at_ v : Nat) : Value := if badN s at_ = 0 then .tuple #[(s.write at_ v).v, .int .i64 (s.told at_ v), .nilIface] else .tuple #[VS.zero.v, .int .i64 (-1), errV (badN s at_)]

theorem vs_Write (s : VS) (at_ v : Nat) (hs : s.wf) (hv : v < 4294967296) (w : World) :
    Calls Tryd.prog 77 #[s.v, .int .u32 at_, .int .u32 v] w fun e w' => e = .returned (vioV s at_ v) ∧ Below w.heap.size w w' := by
  have HB := Lib.hid (vs_bad s at_ hs.hst)
  by_cases hb : badN s at_ = 0
  · have eV : vioV s at_ v = .tuple #[(s.write at_ v).v, .int .i64 (s.told at_ v), .nilIface] := if_pos hb
    rw [eV]
    rw [hb] at HB
    have HBAD : Hid (∀ W, Calls Tryd.prog 70 #[.agg s.c, .int .u32 at_] W fun e w' => e = .returned .nilIface ∧ Below W.heap.size W w') := HB
    clear eV hb HB
    by_cases h20 : at_ = 20
    · subst h20; exact vs_write_20 s.c _ v s.fs w rfl (VS.c_one _) rfl HBAD rfl rfl
    by_cases h36 : at_ = 36
    · subst h36; exact vs_write_36 s.c _ v s.ds w rfl (VS.c_one _) rfl HBAD rfl rfl
    by_cases h32 : at_ = 32
    · subst h32
      by_cases hy : s.st &&& 8 = 0
      · by_cases h0 : s.ds = 0
        · rw [show s.write 32 v = { s with d0 := v } by unfold VS.write; rw [if_neg (by omega), if_neg (by omega), if_pos rfl, if_pos hy, if_pos h0]]
          exact vs_write_32_0 s.c _ v s.st _ s.d0 w rfl (VS.c_one _) rfl HBAD rfl rfl (c2_of s 0 h0) rfl (u32_and_lit s.st 8 hs.hst (by omega) _ rfl) (beq0_true hy)
        by_cases h1 : s.ds = 1
        · rw [show s.write 32 v = { s with d1 := v } by unfold VS.write; rw [if_neg (by omega), if_neg (by omega), if_pos rfl, if_pos hy, if_neg h0, if_pos h1]]
          exact vs_write_32_1 s.c _ v s.st _ s.d1 w rfl (VS.c_one _) rfl HBAD rfl rfl (c2_of s 1 h1) rfl (u32_and_lit s.st 8 hs.hst (by omega) _ rfl) (beq0_true hy)
        · rw [show s.write 32 v = s by unfold VS.write; rw [if_neg (by omega), if_neg (by omega), if_pos rfl, if_pos hy, if_neg h0, if_neg h1]]
          exact vs_write_32b s.c _ v s.st _ s.ds w rfl (VS.c_one _) rfl HBAD rfl rfl rfl (u32_and_lit s.st 8 hs.hst (by omega) _ rfl) (beq0_true hy) (by omega)
      · rw [show s.write 32 v = s by unfold VS.write; rw [if_neg (by omega), if_neg (by omega), if_pos rfl, if_neg hy]]
        exact vs_write_32a s.c _ v s.st _ w rfl (VS.c_one _) rfl HBAD rfl rfl (u32_and_lit s.st 8 hs.hst (by omega) _ rfl) (beq0_false hy)
    by_cases h48 : at_ = 48
    · subst h48; exact vs_write_48 s.c _ v s.se w rfl (VS.c_one _) rfl HBAD rfl rfl
    by_cases h80 : at_ = 80
    · subst h80
      rw [show s.write 80 v = s from rfl, show s.told 80 v = s.notify v from rfl]
      have HL := Lib.hid (vs_Live s hs.hst)
      by_cases h0 : v = 0
      · subst h0
        cases hr : s.a.rdy with
        | false =>
          rw [show s.notify 0 = -1 by unfold VS.notify; rw [if_pos rfl, if_neg (by simp [hr])]]
          exact vs_write_80_0f s.c _ w rfl (VS.c_one _) rfl HBAD rfl (ca_of s false hr)
        | true =>
          by_cases hl : s.live
          · rw [decide_eq_true hl] at HL
            rw [show s.notify 0 = 0 by unfold VS.notify; rw [if_pos rfl, if_pos ⟨hr, hl⟩]]
            exact vs_write_80_0l s.c _ w rfl (VS.c_one _) rfl HBAD rfl (ca_of s true hr) HL
          · rw [decide_eq_false hl] at HL
            rw [show s.notify 0 = -1 by unfold VS.notify; rw [if_pos rfl, if_neg (fun h => hl h.2)]]
            exact vs_write_80_0n s.c _ w rfl (VS.c_one _) rfl HBAD rfl (ca_of s true hr) HL
      by_cases h1 : v = 1
      · subst h1
        cases hr : s.b.rdy with
        | false =>
          rw [show s.notify 1 = -1 by unfold VS.notify; rw [if_neg (by omega), if_pos rfl, if_neg (by simp [hr])]]
          exact vs_write_80_1f s.c _ w rfl (VS.c_one _) rfl HBAD rfl (cb_of s false hr)
        | true =>
          by_cases hl : s.live
          · rw [decide_eq_true hl] at HL
            rw [show s.notify 1 = 1 by unfold VS.notify; rw [if_neg (by omega), if_pos rfl, if_pos ⟨hr, hl⟩]]
            exact vs_write_80_1l s.c _ w rfl (VS.c_one _) rfl HBAD rfl (cb_of s true hr) HL
          · rw [decide_eq_false hl] at HL
            rw [show s.notify 1 = -1 by unfold VS.notify; rw [if_neg (by omega), if_pos rfl, if_neg (fun h => hl h.2)]]
            exact vs_write_80_1n s.c _ w rfl (VS.c_one _) rfl HBAD rfl (cb_of s true hr) HL
      · rw [show s.notify v = -1 by unfold VS.notify; rw [if_neg h0, if_neg h1]]
        exact vs_write_80a s.c _ v w rfl (VS.c_one _) rfl HBAD rfl (by omega)
    have eT : s.told at_ v = -1 := if_neg h80
    rw [eT]
    by_cases h100 : at_ = 100
    · subst h100; exact vs_write_100 s.c _ v s.irq (s.irq &&& (4294967295 - v)) w rfl (VS.c_one _) rfl HBAD rfl rfl (u32_andNot_nat _ _ hs.hirq hv)
    by_cases h112 : at_ = 112
    · subst h112; exact vs_write_112 s.c _ v w rfl (VS.c_one _) rfl HBAD trivial (Lib.hid (vs_status s v hs.hst hv))
    · rw [show s.write at_ v = s.queue at_ v by unfold VS.write; rw [if_neg h20, if_neg h36, if_neg h32, if_neg h48, if_neg h80, if_neg h100, if_neg h112]]
      exact vs_write_else s.c _ at_ v w rfl (VS.c_one _) rfl HBAD trivial (beq_ne h20) (beq_ne h36) (beq_ne h32) (beq_ne h48) (beq_ne h80) (beq_ne h100) (beq_ne h112) (Lib.hid (vs_queue s at_ v hs))
  · have eV : vioV s at_ v = .tuple #[VS.zero.v, .int .i64 (-1), errV (badN s at_)] := if_neg hb
    have eE : errV (badN s at_) = .iface 140 (.int .i64 (badN s at_ : Nat)) := if_neg hb
    rw [eV, eE]
    rw [eE] at HB
    exact vs_write_err s.c at_ v _ w rfl HB
end Go.Proofs.YtcbjlpkkebcmjaaDoor
