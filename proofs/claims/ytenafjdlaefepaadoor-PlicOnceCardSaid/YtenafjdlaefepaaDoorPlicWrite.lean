/-
plic.Write and the reference's Write, walked: both answer the same plain function of the state, the place and the value.
No condition.
-/
import Derived.Test.YtenafjdlaefepaaDoorPlicRead
import Derived.Test.YtenafjdlaefepaaDoorErrV
namespace Go.Proofs.YtenafjdlaefepaaDoor
open Go.RowKit

def PS.setP (s : PS) (n x : Nat) : PS :=
  if n = 1 then { s with p1 := x } else if n = 2 then { s with p2 := x } else if n = 3 then { s with p3 := x } else if n = 4 then { s with p4 := x } else if n = 5 then { s with p5 := x } else if n = 6 then { s with p6 := x } else if n = 7 then { s with p7 := x } else s
def writeN (s : PS) (at_ v : Nat) : PS × Nat :=
  if at_ % 4 = 0 ∧ at_ / 4 ≤ 7 then (s.setP (at_ / 4) (v % 8), 0)
  else if at_ = 4096 then (s, 0)
  else if at_ = 8192 then ({ s with en := v &&& 254 }, 0)
  else if at_ = 2097152 then ({ s with th := v % 8 }, 0)
  else if at_ = 2097156 then (if 1 ≤ v ∧ v ≤ 7 then ({ s with bu := s.bu &&& (4294967295 - 2 ^ v) }, 0) else (s, 0))
  else (PS.zero, 20)
theorem setP_c (s : PS) (n x : Nat) (h1 : 1 ≤ n) (h7 : n ≤ 7) : s.c.setIfInBounds n (.int .u32 x) = (s.setP n x).c := by
  have : n = 1 ∨ n = 2 ∨ n = 3 ∨ n = 4 ∨ n = 5 ∨ n = 6 ∨ n = 7 := by omega
  rcases this with rfl | rfl | rfl | rfl | rfl | rfl | rfl <;> rfl
theorem PS.c_pri (s : PS) (n : Nat) (h7 : n ≤ 7) : s.c[n]? = some (.int .u32 (s.pri n : Nat)) := by
  have : n = 0 ∨ n = 1 ∨ n = 2 ∨ n = 3 ∨ n = 4 ∨ n = 5 ∨ n = 6 ∨ n = 7 := by omega
  rcases this with rfl | rfl | rfl | rfl | rfl | rfl | rfl | rfl <;> rfl
theorem setP_zero (s : PS) (x : Nat) : s.setP 0 x = s := rfl
theorem and_254 (v : Nat) : v &&& 254 = v % 256 / 2 * 2 := by
  have e : v &&& 254 = (v % 256) &&& 254 := by
    have : v % 256 = v &&& 255 := (Nat.and_two_pow_sub_one_eq_mod v 8).symm
    rw [this, Nat.and_assoc]; rfl
  rw [e]
  have h : v % 256 < 256 := Nat.mod_lt _ (by omega)
  generalize v % 256 = x at h ⊢
  have key : ((List.range 256).all fun x => (x &&& 254) == x / 2 * 2) = true := by decide +kernel
  have := List.all_eq_true.1 key x (by simpa using h)
  simpa using this
theorem and_7 (v : Nat) : v &&& 7 = v % 8 := Nat.and_two_pow_sub_one_eq_mod v 3
theorem shl_254 (v : Nat) (h1 : 1 ≤ v) (h7 : v ≤ 7) : 2 ^ v &&& 254 = 2 ^ v := by
  have : v = 1 ∨ v = 2 ∨ v = 3 ∨ v = 4 ∨ v = 5 ∨ v = 6 ∨ v = 7 := by omega
  rcases this with rfl | rfl | rfl | rfl | rfl | rfl | rfl <;> rfl
theorem writeN_out (s : PS) (at_ v : Nat) (h : ¬ (at_ % 4 = 0 ∧ at_ / 4 ≤ 7)) : writeN s at_ v = (if at_ = 4096 then (s, 0) else if at_ = 8192 then ({ s with en := v &&& 254 }, 0)
  else if at_ = 2097152 then ({ s with th := v % 8 }, 0)
  else if at_ = 2097156 then (if 1 ≤ v ∧ v ≤ 7 then ({ s with bu := s.bu &&& (4294967295 - 2 ^ v) }, 0) else (s, 0))
  else (PS.zero, 20)) := by unfold writeN; rw [if_neg h]


set_option maxRecDepth 100000 in
set_option maxHeartbeats 2000000 in
theorem plic_Write (s : PS) (at_ v : Nat) (hs : s.wf) (ha : at_ < 4294967296) (hv : v < 4294967296) (w : World) :
    Calls Tryd.prog 19 #[s.v, .int .u32 at_, .int .u32 v] w fun e w' => e = .returned (.tuple #[(writeN s at_ v).1.v, errV (writeN s at_ v).2]) ∧ Below w.heap.size w w' := by
  have HSO := Lib.hid (fun W => plic_source at_ W ha)
  have HBU := Lib.hid hs.hbu
  clear hs
  have ha7 : bits BinOp.and IntKind.u32 (v : Int) 7 = ((v % 8 : Nat) : Int) := by rw [show (7 : Int) = ((7 : Nat) : Int) from rfl, u32_and_nat _ _ hv (by omega), and_7]
  have ha254 : bits BinOp.and IntKind.u32 (v : Int) 254 = ((v &&& 254 : Nat) : Int) := by rw [show (254 : Int) = ((254 : Nat) : Int) from rfl, u32_and_nat _ _ hv (by omega)]
  have H7 := Lib.hid ha7
  have H254 := Lib.hid ha254
  clear ha7 ha254
  by_cases hsrc : at_ % 4 = 0 ∧ at_ / 4 ≤ 7
  · have hq : writeN s at_ v = (s.setP (at_ / 4) (v % 8), 0) := by unfold writeN; rw [if_pos hsrc]
    rw [hq]
    have hb : (decide (at_ % 4 = 0) && decide (at_ / 4 ≤ 7)) = true := by simp [hsrc]
    rw [hb] at HSO
    have hn7 := hsrc.2
    clear hq hb hsrc
    obtain ⟨n, hn⟩ : ∃ n, n = at_ / 4 := ⟨_, rfl⟩
    rw [← hn] at HSO hn7 ⊢
    clear hn
    by_cases hn0 : n = 0
    · subst hn0
      rw [setP_zero]
      simp only [PS.v]
      go_enter Tryd.func19, Tryd.ntmps19
      go_wp2_with fail
      refine (HSO.out _).mono ?_
      rintro e w' ⟨rfl, hw⟩
      have HB : Hid (w'.heap[w.heap.size]? = some (.cells s.c 26 (0, 0))) := Lib.hid (by rw [← hw]; exact heap_alloc2_old _ _ _)
      have HZ : Hid (w'.heap[w.heap.size + 1]? = some (.cells PS.zero.c 26 (0, 0))) := Lib.hid (by rw [← hw]; exact heap_alloc2_new _ _ _)
      have HBL : Hid (Below w.heap.size w w') := Lib.hid (by rw [← hw]; exact ((Below.refl _ _).alloc (Nat.le_refl _) _).alloc (by simp) _)
      clear hw
      have hfr8 := frozen_of_row w' w.heap.size 8 _ _ HB.out
      have hfr9 := frozen_of_row w' w.heap.size 9 _ _ HB.out
      have hfr11 := frozen_of_row w' w.heap.size 11 _ _ HB.out
      have hc8 : w'.cell? ⟨w.heap.size, 8, none⟩ = some (.int .u32 s.en) := (cell_of_row w' w.heap.size 8 _ _ _ HB.out).trans rfl
      have hc9 : w'.cell? ⟨w.heap.size, 9, none⟩ = some (.int .u32 s.th) := (cell_of_row w' w.heap.size 9 _ _ _ HB.out).trans rfl
      have hc11 : w'.cell? ⟨w.heap.size, 11, none⟩ = some (.int .u32 s.bu) := (cell_of_row w' w.heap.size 11 _ _ _ HB.out).trans rfl
      go_wp2_with (first | (refine wpList_load_row rfl 26 _ rfl w.heap.size rfl 26 s.c (0, 0) _ HB.out Tryd.underlying26 rfl (by kernel_rfl) ?_) | (refine wpList_store_row rfl 26 _ _ rfl (w.heap.size + 1) s.c rfl rfl 26 PS.zero.c HZ.out (by kernel_rfl) rfl (PS.c_one _) ?_))
      exact bodyPost_ret (v := .tuple #[s.v, .nilIface]) (results_cell_tmp Tryd.results19 _ _ (w.heap.size + 1) 26 s.c (0, 0) _ rfl (setRow_heap _ _ _ _ _ _ HZ.out) Tryd.underlying26 rfl (by kernel_rfl)) rfl ⟨rfl, below_setRow (HBL.out) (by simp) _⟩
    · have hn1 : 0 < n := by omega
      have HTC := Lib.hid (setP_c s n (v % 8) (by omega) hn7)
      obtain ⟨t, ht⟩ : ∃ t, t = s.setP n (v % 8) := ⟨_, rfl⟩
      rw [← ht] at HTC ⊢
      clear ht
      simp only [PS.v]
      go_enter Tryd.func19, Tryd.ntmps19
      go_wp2_with fail
      refine (HSO.out _).mono ?_
      rintro e w' ⟨rfl, hw⟩
      have HB : Hid (w'.heap[w.heap.size]? = some (.cells s.c 26 (0, 0))) := Lib.hid (by rw [← hw]; exact heap_alloc2_old _ _ _)
      have HZ : Hid (w'.heap[w.heap.size + 1]? = some (.cells PS.zero.c 26 (0, 0))) := Lib.hid (by rw [← hw]; exact heap_alloc2_new _ _ _)
      have HBL : Hid (Below w.heap.size w w') := Lib.hid (by rw [← hw]; exact ((Below.refl _ _).alloc (Nat.le_refl _) _).alloc (by simp) _)
      clear hw
      have hfr8 := frozen_of_row w' w.heap.size 8 _ _ HB.out
      have hfr9 := frozen_of_row w' w.heap.size 9 _ _ HB.out
      have hfr11 := frozen_of_row w' w.heap.size 11 _ _ HB.out
      have hc8 : w'.cell? ⟨w.heap.size, 8, none⟩ = some (.int .u32 s.en) := (cell_of_row w' w.heap.size 8 _ _ _ HB.out).trans rfl
      have hc9 : w'.cell? ⟨w.heap.size, 9, none⟩ = some (.int .u32 s.th) := (cell_of_row w' w.heap.size 9 _ _ _ HB.out).trans rfl
      have hc11 : w'.cell? ⟨w.heap.size, 11, none⟩ = some (.int .u32 s.bu) := (cell_of_row w' w.heap.size 11 _ _ _ HB.out).trans rfl
      have hfrn := frozen_of_row w' w.heap.size n _ _ HB.out
      have hcn : w'.cell? ⟨w.heap.size, n, none⟩ = some (.int .u32 (s.pri n : Nat)) := (cell_of_row w' w.heap.size n _ _ _ HB.out).trans (PS.c_pri s n hn7)
      have HB2 : Hid ((w'.setCell ⟨w.heap.size, n, none⟩ (.int .u32 (v % 8 : Nat))).heap[w.heap.size]? = some (.cells t.c 26 (0, 0))) := Lib.hid (by rw [heap_setCell_same _ _ _ _ _ _ HB.out]; rw [HTC.out])
      have HZ2 : Hid ((w'.setCell ⟨w.heap.size, n, none⟩ (.int .u32 (v % 8 : Nat))).heap[w.heap.size + 1]? = some (.cells PS.zero.c 26 (0, 0))) := Lib.hid (by rw [heap_setCell_other _ _ _ _ (by simp)]; exact HZ.out)
      rw [← H7.out] at HB2 HZ2
      go_wp2_with (first | (refine wpList_load_row rfl 26 _ rfl w.heap.size rfl 26 t.c (0, 0) _ HB2.out Tryd.underlying26 rfl (by kernel_rfl) ?_) | (refine wpList_store_row rfl 26 _ _ rfl (w.heap.size + 1) t.c rfl rfl 26 PS.zero.c HZ2.out (by kernel_rfl) rfl (PS.c_one _) ?_))
      exact bodyPost_ret (v := .tuple #[t.v, .nilIface]) (results_cell_tmp Tryd.results19 _ _ (w.heap.size + 1) 26 t.c (0, 0) _ rfl (setRow_heap _ _ _ _ _ _ HZ2.out) Tryd.underlying26 rfl (by kernel_rfl)) rfl ⟨rfl, below_setRow (HBL.out.setCell (Nat.le_refl _) _) (by simp) _⟩
  · have hq := writeN_out s at_ v hsrc
    rw [hq]
    have hb : (decide (at_ % 4 = 0) && decide (at_ / 4 ≤ 7)) = false := by simpa using hsrc
    rw [hb] at HSO
    clear hq hb hsrc
    by_cases h1 : at_ = 4096
    · rw [if_pos h1]
      subst h1
      simp only [PS.v]
      go_enter Tryd.func19, Tryd.ntmps19
      go_wp2_with fail
      refine (HSO.out _).mono ?_
      rintro e w' ⟨rfl, hw⟩
      have HB : Hid (w'.heap[w.heap.size]? = some (.cells s.c 26 (0, 0))) := Lib.hid (by rw [← hw]; exact heap_alloc2_old _ _ _)
      have HZ : Hid (w'.heap[w.heap.size + 1]? = some (.cells PS.zero.c 26 (0, 0))) := Lib.hid (by rw [← hw]; exact heap_alloc2_new _ _ _)
      have HBL : Hid (Below w.heap.size w w') := Lib.hid (by rw [← hw]; exact ((Below.refl _ _).alloc (Nat.le_refl _) _).alloc (by simp) _)
      clear hw
      have hfr8 := frozen_of_row w' w.heap.size 8 _ _ HB.out
      have hfr9 := frozen_of_row w' w.heap.size 9 _ _ HB.out
      have hfr11 := frozen_of_row w' w.heap.size 11 _ _ HB.out
      have hc8 : w'.cell? ⟨w.heap.size, 8, none⟩ = some (.int .u32 s.en) := (cell_of_row w' w.heap.size 8 _ _ _ HB.out).trans rfl
      have hc9 : w'.cell? ⟨w.heap.size, 9, none⟩ = some (.int .u32 s.th) := (cell_of_row w' w.heap.size 9 _ _ _ HB.out).trans rfl
      have hc11 : w'.cell? ⟨w.heap.size, 11, none⟩ = some (.int .u32 s.bu) := (cell_of_row w' w.heap.size 11 _ _ _ HB.out).trans rfl
      go_wp2_with (first | (refine wpList_load_row rfl 26 _ rfl w.heap.size rfl 26 s.c (0, 0) _ HB.out Tryd.underlying26 rfl (by kernel_rfl) ?_) | (refine wpList_store_row rfl 26 _ _ rfl (w.heap.size + 1) s.c rfl rfl 26 PS.zero.c HZ.out (by kernel_rfl) rfl (PS.c_one _) ?_))
      exact bodyPost_ret (v := .tuple #[s.v, .nilIface]) (results_cell_tmp Tryd.results19 _ _ (w.heap.size + 1) 26 s.c (0, 0) _ rfl (setRow_heap _ _ _ _ _ _ HZ.out) Tryd.underlying26 rfl (by kernel_rfl)) rfl ⟨rfl, below_setRow (HBL.out) (by simp) _⟩
    · rw [if_neg h1]
      have b1 : ((at_ : Int) == 4096) = false := by simp; omega
      by_cases h2 : at_ = 8192
      · rw [if_pos h2]
        subst h2
        obtain ⟨t, ht⟩ : ∃ t : PS, t = { s with en := v &&& 254 } := ⟨_, rfl⟩
        rw [← ht]
        have HTC : Hid (s.c.setIfInBounds 8 (.int .u32 (v &&& 254 : Nat)) = t.c) := Lib.hid (by rw [ht]; rfl)
        clear ht
        simp only [PS.v]
        go_enter Tryd.func19, Tryd.ntmps19
        go_wp2_with fail
        refine (HSO.out _).mono ?_
        rintro e w' ⟨rfl, hw⟩
        have HB : Hid (w'.heap[w.heap.size]? = some (.cells s.c 26 (0, 0))) := Lib.hid (by rw [← hw]; exact heap_alloc2_old _ _ _)
        have HZ : Hid (w'.heap[w.heap.size + 1]? = some (.cells PS.zero.c 26 (0, 0))) := Lib.hid (by rw [← hw]; exact heap_alloc2_new _ _ _)
        have HBL : Hid (Below w.heap.size w w') := Lib.hid (by rw [← hw]; exact ((Below.refl _ _).alloc (Nat.le_refl _) _).alloc (by simp) _)
        clear hw
        have hfr8 := frozen_of_row w' w.heap.size 8 _ _ HB.out
        have hfr9 := frozen_of_row w' w.heap.size 9 _ _ HB.out
        have hfr11 := frozen_of_row w' w.heap.size 11 _ _ HB.out
        have hc8 : w'.cell? ⟨w.heap.size, 8, none⟩ = some (.int .u32 s.en) := (cell_of_row w' w.heap.size 8 _ _ _ HB.out).trans rfl
        have hc9 : w'.cell? ⟨w.heap.size, 9, none⟩ = some (.int .u32 s.th) := (cell_of_row w' w.heap.size 9 _ _ _ HB.out).trans rfl
        have hc11 : w'.cell? ⟨w.heap.size, 11, none⟩ = some (.int .u32 s.bu) := (cell_of_row w' w.heap.size 11 _ _ _ HB.out).trans rfl
        have HB2 : Hid ((w'.setCell ⟨w.heap.size, 8, none⟩ (.int .u32 (v &&& 254 : Nat))).heap[w.heap.size]? = some (.cells t.c 26 (0, 0))) := Lib.hid (by rw [heap_setCell_same _ _ _ _ _ _ HB.out]; rw [HTC.out])
        have HZ2 : Hid ((w'.setCell ⟨w.heap.size, 8, none⟩ (.int .u32 (v &&& 254 : Nat))).heap[w.heap.size + 1]? = some (.cells PS.zero.c 26 (0, 0))) := Lib.hid (by rw [heap_setCell_other _ _ _ _ (by simp)]; exact HZ.out)
        rw [← H254.out] at HB2 HZ2
        go_wp2_with (first | (refine wpList_load_row rfl 26 _ rfl w.heap.size rfl 26 t.c (0, 0) _ HB2.out Tryd.underlying26 rfl (by kernel_rfl) ?_) | (refine wpList_store_row rfl 26 _ _ rfl (w.heap.size + 1) t.c rfl rfl 26 PS.zero.c HZ2.out (by kernel_rfl) rfl (PS.c_one _) ?_))
        exact bodyPost_ret (v := .tuple #[t.v, .nilIface]) (results_cell_tmp Tryd.results19 _ _ (w.heap.size + 1) 26 t.c (0, 0) _ rfl (setRow_heap _ _ _ _ _ _ HZ2.out) Tryd.underlying26 rfl (by kernel_rfl)) rfl ⟨rfl, below_setRow (HBL.out.setCell (Nat.le_refl _) _) (by simp) _⟩
      · rw [if_neg h2]
        have b2 : ((at_ : Int) == 8192) = false := by simp; omega
        by_cases h3 : at_ = 2097152
        · rw [if_pos h3]
          subst h3
          obtain ⟨t, ht⟩ : ∃ t : PS, t = { s with th := v % 8 } := ⟨_, rfl⟩
          rw [← ht]
          have HTC : Hid (s.c.setIfInBounds 9 (.int .u32 (v % 8 : Nat)) = t.c) := Lib.hid (by rw [ht]; rfl)
          clear ht
          simp only [PS.v]
          go_enter Tryd.func19, Tryd.ntmps19
          go_wp2_with fail
          refine (HSO.out _).mono ?_
          rintro e w' ⟨rfl, hw⟩
          have HB : Hid (w'.heap[w.heap.size]? = some (.cells s.c 26 (0, 0))) := Lib.hid (by rw [← hw]; exact heap_alloc2_old _ _ _)
          have HZ : Hid (w'.heap[w.heap.size + 1]? = some (.cells PS.zero.c 26 (0, 0))) := Lib.hid (by rw [← hw]; exact heap_alloc2_new _ _ _)
          have HBL : Hid (Below w.heap.size w w') := Lib.hid (by rw [← hw]; exact ((Below.refl _ _).alloc (Nat.le_refl _) _).alloc (by simp) _)
          clear hw
          have hfr8 := frozen_of_row w' w.heap.size 8 _ _ HB.out
          have hfr9 := frozen_of_row w' w.heap.size 9 _ _ HB.out
          have hfr11 := frozen_of_row w' w.heap.size 11 _ _ HB.out
          have hc8 : w'.cell? ⟨w.heap.size, 8, none⟩ = some (.int .u32 s.en) := (cell_of_row w' w.heap.size 8 _ _ _ HB.out).trans rfl
          have hc9 : w'.cell? ⟨w.heap.size, 9, none⟩ = some (.int .u32 s.th) := (cell_of_row w' w.heap.size 9 _ _ _ HB.out).trans rfl
          have hc11 : w'.cell? ⟨w.heap.size, 11, none⟩ = some (.int .u32 s.bu) := (cell_of_row w' w.heap.size 11 _ _ _ HB.out).trans rfl
          have HB2 : Hid ((w'.setCell ⟨w.heap.size, 9, none⟩ (.int .u32 (v % 8 : Nat))).heap[w.heap.size]? = some (.cells t.c 26 (0, 0))) := Lib.hid (by rw [heap_setCell_same _ _ _ _ _ _ HB.out]; rw [HTC.out])
          have HZ2 : Hid ((w'.setCell ⟨w.heap.size, 9, none⟩ (.int .u32 (v % 8 : Nat))).heap[w.heap.size + 1]? = some (.cells PS.zero.c 26 (0, 0))) := Lib.hid (by rw [heap_setCell_other _ _ _ _ (by simp)]; exact HZ.out)
          rw [← H7.out] at HB2 HZ2
          go_wp2_with (first | (refine wpList_load_row rfl 26 _ rfl w.heap.size rfl 26 t.c (0, 0) _ HB2.out Tryd.underlying26 rfl (by kernel_rfl) ?_) | (refine wpList_store_row rfl 26 _ _ rfl (w.heap.size + 1) t.c rfl rfl 26 PS.zero.c HZ2.out (by kernel_rfl) rfl (PS.c_one _) ?_))
          exact bodyPost_ret (v := .tuple #[t.v, .nilIface]) (results_cell_tmp Tryd.results19 _ _ (w.heap.size + 1) 26 t.c (0, 0) _ rfl (setRow_heap _ _ _ _ _ _ HZ2.out) Tryd.underlying26 rfl (by kernel_rfl)) rfl ⟨rfl, below_setRow (HBL.out.setCell (Nat.le_refl _) _) (by simp) _⟩
        · rw [if_neg h3]
          have b3 : ((at_ : Int) == 2097152) = false := by simp; omega
          by_cases h4 : at_ = 2097156
          · rw [if_pos h4]
            subst h4
            by_cases h7 : v ≤ 7
            · have e2 : (2 : Int) ^ v % 4294967296 = ((2 ^ v : Nat) : Int) := by
                have : 2 ^ v ≤ 2 ^ 7 := Nat.pow_le_pow_right (by omega) h7
                have e : (2 : Int) ^ v = ((2 ^ v : Nat) : Int) := by simp
                rw [e]; generalize 2 ^ v = q at this ⊢; omega
              have h2n : 2 ^ v < 4294967296 := two_pow_lt (by omega)
              have HX : Hid (bits BinOp.andNot IntKind.u32 (s.bu : Int) (bits BinOp.and IntKind.u32 ((2 : Int) ^ v % 4294967296) 254) = ((s.bu &&& (4294967295 - (2 ^ v &&& 254)) : Nat) : Int)) := Lib.hid (by rw [e2, show (254 : Int) = ((254 : Nat) : Int) from rfl, u32_and_nat _ _ h2n (by omega), u32_andNot_nat _ _ HBU.out (Nat.lt_of_le_of_lt Nat.and_le_left h2n)])
              clear e2 h2n
              obtain ⟨t, ht, ht2⟩ : ∃ t : PS, t = (if 1 ≤ v ∧ v ≤ 7 then (({ s with bu := s.bu &&& (4294967295 - 2 ^ v) } : PS), 0) else (s, 0)).1 ∧ (if 1 ≤ v ∧ v ≤ 7 then (({ s with bu := s.bu &&& (4294967295 - 2 ^ v) } : PS), 0) else (s, 0)) = (t, 0) := by
                by_cases h1 : 1 ≤ v ∧ v ≤ 7
                · exact ⟨_, rfl, by rw [if_pos h1]⟩
                · exact ⟨_, rfl, by rw [if_neg h1]⟩
              rw [ht2]
              have HTC : Hid (s.c.setIfInBounds 11 (.int .u32 (s.bu &&& (4294967295 - (2 ^ v &&& 254)) : Nat)) = t.c) := Lib.hid (by
                rw [ht]
                by_cases h1 : 1 ≤ v
                · rw [if_pos ⟨h1, h7⟩, shl_254 v h1 h7]; rfl
                · rw [if_neg (by omega)]
                  obtain rfl : v = 0 := by omega
                  have e0 : s.bu &&& (4294967295 - (2 ^ 0 &&& 254)) = s.bu := by
                    show s.bu &&& (2 ^ 32 - 1) = s.bu
                    rw [Nat.and_two_pow_sub_one_eq_mod, Nat.mod_eq_of_lt HBU.out]
                  rw [e0]; rfl)
              clear ht ht2
              simp only [PS.v]
              go_enter Tryd.func19, Tryd.ntmps19
              go_wp2_with fail
              refine (HSO.out _).mono ?_
              rintro e w' ⟨rfl, hw⟩
              have HB : Hid (w'.heap[w.heap.size]? = some (.cells s.c 26 (0, 0))) := Lib.hid (by rw [← hw]; exact heap_alloc2_old _ _ _)
              have HZ : Hid (w'.heap[w.heap.size + 1]? = some (.cells PS.zero.c 26 (0, 0))) := Lib.hid (by rw [← hw]; exact heap_alloc2_new _ _ _)
              have HBL : Hid (Below w.heap.size w w') := Lib.hid (by rw [← hw]; exact ((Below.refl _ _).alloc (Nat.le_refl _) _).alloc (by simp) _)
              clear hw
              have hfr8 := frozen_of_row w' w.heap.size 8 _ _ HB.out
              have hfr9 := frozen_of_row w' w.heap.size 9 _ _ HB.out
              have hfr11 := frozen_of_row w' w.heap.size 11 _ _ HB.out
              have hc8 : w'.cell? ⟨w.heap.size, 8, none⟩ = some (.int .u32 s.en) := (cell_of_row w' w.heap.size 8 _ _ _ HB.out).trans rfl
              have hc9 : w'.cell? ⟨w.heap.size, 9, none⟩ = some (.int .u32 s.th) := (cell_of_row w' w.heap.size 9 _ _ _ HB.out).trans rfl
              have hc11 : w'.cell? ⟨w.heap.size, 11, none⟩ = some (.int .u32 s.bu) := (cell_of_row w' w.heap.size 11 _ _ _ HB.out).trans rfl
              have HB2 : Hid ((w'.setCell ⟨w.heap.size, 11, none⟩ (.int .u32 (s.bu &&& (4294967295 - (2 ^ v &&& 254)) : Nat))).heap[w.heap.size]? = some (.cells t.c 26 (0, 0))) := Lib.hid (by rw [heap_setCell_same _ _ _ _ _ _ HB.out]; rw [HTC.out])
              have HZ2 : Hid ((w'.setCell ⟨w.heap.size, 11, none⟩ (.int .u32 (s.bu &&& (4294967295 - (2 ^ v &&& 254)) : Nat))).heap[w.heap.size + 1]? = some (.cells PS.zero.c 26 (0, 0))) := Lib.hid (by rw [heap_setCell_other _ _ _ _ (by simp)]; exact HZ.out)
              rw [← HX.out] at HB2 HZ2
              go_wp2_with (first | (refine wpList_load_row rfl 26 _ rfl w.heap.size rfl 26 t.c (0, 0) _ HB2.out Tryd.underlying26 rfl (by kernel_rfl) ?_) | (refine wpList_store_row rfl 26 _ _ rfl (w.heap.size + 1) t.c rfl rfl 26 PS.zero.c HZ2.out (by kernel_rfl) rfl (PS.c_one _) ?_))
              exact bodyPost_ret (v := .tuple #[t.v, .nilIface]) (results_cell_tmp Tryd.results19 _ _ (w.heap.size + 1) 26 t.c (0, 0) _ rfl (setRow_heap _ _ _ _ _ _ HZ2.out) Tryd.underlying26 rfl (by kernel_rfl)) rfl ⟨rfl, below_setRow (HBL.out.setCell (Nat.le_refl _) _) (by simp) _⟩
            · rw [if_neg (by omega)]
              simp only [PS.v]
              go_enter Tryd.func19, Tryd.ntmps19
              go_wp2_with fail
              refine (HSO.out _).mono ?_
              rintro e w' ⟨rfl, hw⟩
              have HB : Hid (w'.heap[w.heap.size]? = some (.cells s.c 26 (0, 0))) := Lib.hid (by rw [← hw]; exact heap_alloc2_old _ _ _)
              have HZ : Hid (w'.heap[w.heap.size + 1]? = some (.cells PS.zero.c 26 (0, 0))) := Lib.hid (by rw [← hw]; exact heap_alloc2_new _ _ _)
              have HBL : Hid (Below w.heap.size w w') := Lib.hid (by rw [← hw]; exact ((Below.refl _ _).alloc (Nat.le_refl _) _).alloc (by simp) _)
              clear hw
              have hfr8 := frozen_of_row w' w.heap.size 8 _ _ HB.out
              have hfr9 := frozen_of_row w' w.heap.size 9 _ _ HB.out
              have hfr11 := frozen_of_row w' w.heap.size 11 _ _ HB.out
              have hc8 : w'.cell? ⟨w.heap.size, 8, none⟩ = some (.int .u32 s.en) := (cell_of_row w' w.heap.size 8 _ _ _ HB.out).trans rfl
              have hc9 : w'.cell? ⟨w.heap.size, 9, none⟩ = some (.int .u32 s.th) := (cell_of_row w' w.heap.size 9 _ _ _ HB.out).trans rfl
              have hc11 : w'.cell? ⟨w.heap.size, 11, none⟩ = some (.int .u32 s.bu) := (cell_of_row w' w.heap.size 11 _ _ _ HB.out).trans rfl
              go_wp2_with (first | (refine wpList_load_row rfl 26 _ rfl w.heap.size rfl 26 s.c (0, 0) _ HB.out Tryd.underlying26 rfl (by kernel_rfl) ?_) | (refine wpList_store_row rfl 26 _ _ rfl (w.heap.size + 1) s.c rfl rfl 26 PS.zero.c HZ.out (by kernel_rfl) rfl (PS.c_one _) ?_))
              exact bodyPost_ret (v := .tuple #[s.v, .nilIface]) (results_cell_tmp Tryd.results19 _ _ (w.heap.size + 1) 26 s.c (0, 0) _ rfl (setRow_heap _ _ _ _ _ _ HZ.out) Tryd.underlying26 rfl (by kernel_rfl)) rfl ⟨rfl, below_setRow (HBL.out) (by simp) _⟩
          · rw [if_neg h4]
            have b4 : ((at_ : Int) == 2097156) = false := by simp; omega
            simp only [PS.v]
            go_enter Tryd.func19, Tryd.ntmps19
            go_wp2_with fail
            refine (HSO.out _).mono ?_
            rintro e w' ⟨rfl, hw⟩
            have HB : Hid (w'.heap[w.heap.size]? = some (.cells s.c 26 (0, 0))) := Lib.hid (by rw [← hw]; exact heap_alloc2_old _ _ _)
            have HZ : Hid (w'.heap[w.heap.size + 1]? = some (.cells PS.zero.c 26 (0, 0))) := Lib.hid (by rw [← hw]; exact heap_alloc2_new _ _ _)
            have HBL : Hid (Below w.heap.size w w') := Lib.hid (by rw [← hw]; exact ((Below.refl _ _).alloc (Nat.le_refl _) _).alloc (by simp) _)
            clear hw
            have hfr8 := frozen_of_row w' w.heap.size 8 _ _ HB.out
            have hfr9 := frozen_of_row w' w.heap.size 9 _ _ HB.out
            have hfr11 := frozen_of_row w' w.heap.size 11 _ _ HB.out
            have hc8 : w'.cell? ⟨w.heap.size, 8, none⟩ = some (.int .u32 s.en) := (cell_of_row w' w.heap.size 8 _ _ _ HB.out).trans rfl
            have hc9 : w'.cell? ⟨w.heap.size, 9, none⟩ = some (.int .u32 s.th) := (cell_of_row w' w.heap.size 9 _ _ _ HB.out).trans rfl
            have hc11 : w'.cell? ⟨w.heap.size, 11, none⟩ = some (.int .u32 s.bu) := (cell_of_row w' w.heap.size 11 _ _ _ HB.out).trans rfl
            go_wp2_with (refine wpList_store_row rfl 26 _ _ rfl (w.heap.size + 1) PS.zero.c rfl rfl 26 PS.zero.c HZ.out (by kernel_rfl) rfl (PS.c_one _) ?_)
            exact bodyPost_ret (v := .tuple #[PS.zero.v, errV 20]) (results_cell_tmp Tryd.results19 _ _ (w.heap.size + 1) 26 PS.zero.c (0, 0) _ rfl (setRow_heap _ _ _ _ _ _ HZ.out) Tryd.underlying26 rfl (by kernel_rfl)) rfl ⟨rfl, below_setRow HBL.out (by simp) _⟩
end Go.Proofs.YtenafjdlaefepaaDoor
