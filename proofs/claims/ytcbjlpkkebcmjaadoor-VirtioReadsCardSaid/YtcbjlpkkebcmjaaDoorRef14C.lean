/-
pinnaceref14.Check, walked.
No condition.
-/
import Derived.Test.YtcbjlpkkebcmjaaDoorRef14F
import Derived.Test.YtcbjlpkkebcmjaaDoorRef13C
import Derived.Test.YtcbjlpkkebcmjaaDoorNic
import Derived.Deep.CutRange
namespace Go.Proofs.YtcbjlpkkebcmjaaDoor
open Go.RowKit
set_option linter.unusedVariables false

def okBit (i : Nat) : Prop := i = 0 ∨ i = 1 ∨ i = 2 ∨ i = 3 ∨ i = 6 ∨ i = 7
theorem bitv_tb (x i : Nat) : (bitv x i = 1) ↔ x.testBit i = true := by rw [bitv_eq]; cases x.testBit i <;> simp
theorem known_bits (x : Nat) (hx : x < 4294967296) : (x &&& (4294967295 - 207) = 0) ↔ ∀ i, i < 32 → bitv x i = 1 → okBit i := by
  have key : ∀ i : Fin 32, (4294967295 - 207 : Nat).testBit i.val = !decide (i.val = 0 ∨ i.val = 1 ∨ i.val = 2 ∨ i.val = 3 ∨ i.val = 6 ∨ i.val = 7) := by decide +kernel
  constructor
  · intro h i hi hb
    have e : (x &&& (4294967295 - 207)).testBit i = (x.testBit i && (4294967295 - 207 : Nat).testBit i) := Nat.testBit_and _ _ i
    rw [h, Nat.zero_testBit, (bitv_tb x i).1 hb, key ⟨i, hi⟩, Bool.true_and] at e
    have e2 : decide (i = 0 ∨ i = 1 ∨ i = 2 ∨ i = 3 ∨ i = 6 ∨ i = 7) = true := by
      cases hd : decide (i = 0 ∨ i = 1 ∨ i = 2 ∨ i = 3 ∨ i = 6 ∨ i = 7) with
      | true => rfl
      | false => simp only [hd] at e; exact absurd e (by simp)
    exact (of_decide_eq_true e2 : i = 0 ∨ i = 1 ∨ i = 2 ∨ i = 3 ∨ i = 6 ∨ i = 7)
  · intro h
    apply Nat.eq_of_testBit_eq
    intro i
    rw [Nat.testBit_and, Nat.zero_testBit]
    by_cases hi : i < 32
    · rw [key ⟨i, hi⟩]
      cases hb : x.testBit i with
      | false => rfl
      | true =>
        have := h i hi ((bitv_tb x i).2 hb)
        rw [Bool.true_and, Bool.not_eq_false', decide_eq_true_eq]
        exact this
    · rw [Nat.testBit_lt_two_pow (Nat.lt_of_lt_of_le hx (by rw [show 4294967296 = 2 ^ 32 from rfl]; exact Nat.pow_le_pow_right (by omega) (by omega))), Bool.false_and]
theorem bit_three (x : Nat) : (x &&& 8 ≠ 0) ↔ bitv x 3 = 1 := by
  rw [bitv_tb]
  constructor
  · intro h
    cases hb : x.testBit 3 with
    | true => rfl
    | false =>
      exfalso
      apply h
      apply Nat.eq_of_testBit_eq
      intro i
      rw [Nat.testBit_and, Nat.zero_testBit]
      by_cases hi : i = 3
      · subst hi; rw [hb]; rfl
      · have : (8 : Nat).testBit i = false := by
          rw [show (8 : Nat) = 2 ^ 3 from rfl, Nat.testBit_two_pow]
          simp; omega
        rw [this, Bool.and_false]
  · intro h he
    have e : (x &&& 8).testBit 3 = (x.testBit 3 && (8 : Nat).testBit 3) := Nat.testBit_and x 8 3
    rw [he, h, Nat.zero_testBit] at e
    exact absurd e (by decide)
theorem VS.range_qa {w : World} {b : Nat} {s : VS} {t : TypeId} {fr : Nat × Nat} (h : w.heap[b]? = some (.cells s.c t fr)) : w.rangeAt b 7 s.a.l :=
  range_of_row h 7 _ fun j v hv => by
    rw [← hv]
    have hj : j < 7 := (List.getElem?_eq_some_iff.1 hv).1
    match j, hj with
    | 0, _ => rfl
    | 1, _ => rfl
    | 2, _ => rfl
    | 3, _ => rfl
    | 4, _ => rfl
    | 5, _ => rfl
    | 6, _ => rfl
    | j + 7, h => omega
theorem VS.range_qb {w : World} {b : Nat} {s : VS} {t : TypeId} {fr : Nat × Nat} (h : w.heap[b]? = some (.cells s.c t fr)) : w.rangeAt b 14 s.b.l :=
  range_of_row h 14 _ fun j v hv => by
    rw [← hv]
    have hj : j < 7 := (List.getElem?_eq_some_iff.1 hv).1
    match j, hj with
    | 0, _ => rfl
    | 1, _ => rfl
    | 2, _ => rfl
    | 3, _ => rfl
    | 4, _ => rfl
    | 5, _ => rfl
    | 6, _ => rfl
    | j + 7, h => omega
theorem VQ.range_r {w : World} {b : Nat} {q : VQ} {t : TypeId} {fr : Nat × Nat} (h : w.heap[b]? = some (.cells q.l.toArray t fr)) : w.rangeAt b 1 q.rg.c.toList :=
  range_of_row h 1 _ fun j v hv => by
    rw [← hv]
    have hj : j < 6 := (List.getElem?_eq_some_iff.1 hv).1
    match j, hj with
    | 0, _ => rfl
    | 1, _ => rfl
    | 2, _ => rfl
    | 3, _ => rfl
    | 4, _ => rfl
    | 5, _ => rfl
    | j + 6, h => omega
def Check14Post (w : World) (s : VS) (e : Ending) (w' : World) : Prop := e = .returned (.int .i64 ((if s.ok then 0 else 1 : Nat) : Int)) ∧ Below w.heap.size w w'
theorem check14_no {w w' : World} {s : VS} (h : ¬ s.ok) (hb : Below w.heap.size w w') : Check14Post w s (.returned (.int .i64 1)) w' := ⟨by rw [if_neg h]; rfl, hb⟩
theorem check14_yes {w w' : World} {s : VS} (h : s.ok) (hb : Below w.heap.size w w') : Check14Post w s (.returned (.int .i64 0)) w' := ⟨by rw [if_pos h]; rfl, hb⟩
set_option maxRecDepth 100000 in
set_option maxHeartbeats 16000000 in
theorem ref14_Check (s : VS) (hst : s.st < 4294967296) (w : World) : Calls Tryd.prog 27 #[.agg s.c] w (Check14Post w s) := by
  have K0 := Lib.hid (heap_alloc_new w (.cells s.c 57))
  have HB0 := Lib.hid ((Below.refl w.heap.size w).alloc (Nat.le_refl _) (.cells s.c 57))
  have HH := Lib.hid (fun W (i : Nat) (hi : i < 32) => ref14_has s.st i W hst hi)
  have HCK := Lib.hid (fun (q : Rg) W => ref13_Check q W)
  have HKN := Lib.hid (known_bits s.st hst)
  have HOK : Hid (s.ok ↔ (s.st &&& (4294967295 - 207) = 0 ∧ s.irq ≤ 3 ∧ s.a.may ∧ s.b.may ∧ (bitv s.st 3 = 1 → s.right))) := Lib.hid (by unfold VS.ok; rw [bit_three])
  clear hst
  go_enter Tryd.func27, Tryd.ntmps27
  go_wp2_with fail
  change Code.wp _ _ _ _ (w.alloc (.cells s.c 57))
  generalize w.alloc (.cells s.c 57) = w1 at K0 HB0 ⊢
  go_loop [3] (fun i => ∃ k : Nat, k ≤ 32 ∧ i = .int .i64 k ∧ Hid (∀ j, j < k → bitv s.st j = 1 → okBit j)) (fun i => 32 - (intOf i).toNat)
  case atStart => exact ⟨0, by omega, rfl, Lib.hid (fun j hj => absurd hj (by omega))⟩
  case round =>
    obtain ⟨k, hk, rfl, hall⟩ := hrel
    have hk0 : (0 : Int) ≤ (k : Int) := by omega
    by_cases hlt : k < 32
    · have hlt' : (k : Int) < 32 := by omega
      have HHK := Lib.hid (fun W => HH.out W k hlt)
      have HBK : Hid (decide (bitv s.st k = 1) = true ↔ bitv s.st k = 1) := Lib.hid (by simp)
      generalize decide (bitv s.st k = 1) = b at HHK HBK
      have c0 := (cell_of_row _ _ 0 _ _ _ K0.out).trans (rfl : _ = some (.int .u32 s.st : Value))
      have HK32 := Lib.hid hlt
      clear hlt
      cases b with
      | false =>
        go_wp2_with fail
        refine (HHK.out _).mono ?_
        rintro e w' ⟨rfl, rfl⟩
        go_wp2_with fail
        go_round
        case rel => exact ⟨k + 1, by omega, by go_num, Lib.hid (fun j hj hb => by
          by_cases h : j = k
          · subst h; exact absurd (HBK.out.2 hb) (by simp)
          · exact hall.out j (by omega) hb)⟩
        case measure => simp [intOf]; omega
      | true =>
        by_cases hin : okBit k
        · have HALL2 : Hid (∀ j, j < k + 1 → bitv s.st j = 1 → okBit j) := Lib.hid (fun j hj hb => by
            by_cases h : j = k
            · subst h; exact hin
            · exact hall.out j (by omega) hb)
          clear hall HBK HK32
          go_wp2_with fail
          refine (HHK.out _).mono ?_
          rintro e w' ⟨rfl, rfl⟩
          clear HHK
          rcases hin with rfl | rfl | rfl | rfl | rfl | rfl
          all_goals
            go_wp2_with fail
            go_round
            case rel => exact ⟨_, by omega, by first | rfl | go_num, HALL2⟩
            case measure => simp [intOf]
        · have HNO : Hid (¬ s.ok) := Lib.hid (fun h => hin (HKN.out.1 (HOK.out.1 h).1 k HK32.out (HBK.out.1 rfl)))
          have n0 : ((k : Int) != 0) = true := by unfold okBit at hin; simp; omega
          have n1 : ((k : Int) != 1) = true := by unfold okBit at hin; simp; omega
          have n2 : ((k : Int) != 2) = true := by unfold okBit at hin; simp; omega
          have n3 : ((k : Int) != 3) = true := by unfold okBit at hin; simp; omega
          have n6 : ((k : Int) != 6) = true := by unfold okBit at hin; simp; omega
          have n7 : ((k : Int) != 7) = true := by unfold okBit at hin; simp; omega
          clear hin hall
          go_wp2_with fail
          refine (HHK.out _).mono ?_
          rintro e w' ⟨rfl, rfl⟩
          go_wp2_with fail
          go_ret
          exact check14_no HNO.out HB0.out
    · obtain rfl : k = 32 := by omega
      have HST : Hid (s.st &&& (4294967295 - 207) = 0) := Lib.hid (HKN.out.2 (fun i hi hb => hall.out i hi hb))
      clear hall HKN
      go_wp2_with fail
      go_loopw [4] (fun i wr => ∃ k : Nat, k ≤ 2 ∧ i = .int .i64 k ∧ Hid ((0 < k → s.a.may) ∧ (1 < k → s.b.may)) ∧ wr.heap[w.heap.size]? = some (.cells s.c 57 (0, 0)) ∧ Below w.heap.size w wr) (fun i _ => 2 - (intOf i).toNat)
      case atStart => exact ⟨0, by omega, rfl, Lib.hid ⟨fun h => absurd h (by omega), fun h => absurd h (by omega)⟩, K0.out, HB0.out⟩
      case round =>
        obtain ⟨k, hk2, rfl, hm, k0, hb0⟩ := hrel
        have K := Lib.hid k0
        have HB := Lib.hid hb0
        clear k0 hb0 K0 HB0
        obtain rfl | rfl | rfl : k = 0 ∨ k = 1 ∨ k = 2 := by omega
        · have HRG := Lib.hid (VS.range_qa K.out)
          have HI := Lib.hid (show (Tryd.prog.info? 54).map (·.size) = some s.a.l.length by kernel_rfl)
          have HMQ : Hid (s.a.may ↔ if s.a.rdy = true then s.a.ring else 0 ≤ s.a.size ∧ s.a.size ≤ 256) := Lib.hid Iff.rfl
          have HOKQ : Hid (s.ok → s.a.may) := Lib.hid (fun h => (HOK.out.1 h).2.2.1)
          have HC := Lib.hid (fun W => HCK.out s.a.rg W)
          obtain ⟨q, hq⟩ : ∃ q, q = s.a := ⟨_, rfl⟩
          rw [← hq] at HRG HI HMQ HOKQ HC
          have HQ := Lib.hid hq
          clear hq
          obtain ⟨ql, hql⟩ : ∃ ql, ql = q.l.toArray := ⟨_, rfl⟩
          have HQL := Lib.hid hql
          have HI2 : Hid ((Tryd.prog.info? 54).map (·.size) = some ql.size) := Lib.hid (by rw [hql]; exact HI.out)
          have HO : Hid (ql.all (·.oneCell') = true) := Lib.hid (by rw [hql]; simp [VQ.l, Value.oneCell'])
          have KN := Lib.hid (heap_alloc_new wr (.cells #[.bool false, .int .i64 0, .int .u32 0, .int .u32 0, .int .u32 0, .int .u16 0, .int .u16 0] 54))
          have HBA := Lib.hid ((Below.refl wr.heap.size wr).alloc (Nat.le_refl _) (.cells #[.bool false, .int .i64 0, .int .u32 0, .int .u32 0, .int .u32 0, .int .u16 0, .int .u16 0] 54))
          have HZQ : Hid ((#[.bool false, .int .i64 0, .int .u32 0, .int .u32 0, .int .u32 0, .int .u16 0, .int .u16 0] : Array Value).size = ql.size) := Lib.hid (by rw [hql]; rfl)
          have hlt0 := lt_heap K.out
          have HLT := Lib.hid hlt0
          have HSZ := Lib.hid HB.out.size
          clear hlt0
          clear hql
          go_wp2_with (first | go_skip | (refine wpList_load_mid rfl 54 _ rfl w.heap.size 7 rfl q.l _ HRG.out Tryd.underlying54 rfl HI.out ?_; rw [← HQL.out]) | (refine wpList_store_to rfl 54 _ _ rfl wr.heap.size ql rfl rfl 54 #[.bool false, .int .i64 0, .int .u32 0, .int .u32 0, .int .u32 0, .int .u16 0, .int .u16 0] KN.out HI2.out HZQ.out HO.out ?_))
          intro w3 hx hk3
          have K3 := Lib.hid (hx.out.heap (keepB K.out HBA.out) (by have := HLT.out; omega))
          have HB3 := Lib.hid ((HB.out.trans (HBA.out.mono HSZ.out)).trans (hx.out.below (B := w.heap.size) (fun k hk e => by have := HSZ.out; omega) (Nat.le_trans HSZ.out HBA.out.size)))
          have KQ := Lib.hid hk3
          rw [HQL.out] at KQ
          clear hx hk3 KN HBA HRG HO HZQ HI HI2
          generalize wr.heap.size = bq at KQ ⊢
          have s0 := (cell_of_row _ _ 0 _ _ _ KQ.out).trans (rfl : _ = some (.bool q.rdy : Value))
          have s1 := (cell_of_row _ _ 1 _ _ _ KQ.out).trans (rfl : _ = some (.int .i64 q.size : Value))
          have HRR := Lib.hid (VQ.range_r KQ.out)
          have HI3 := Lib.hid (show (Tryd.prog.info? 52).map (·.size) = some q.rg.c.toList.length by kernel_rfl)
          cases hr : q.rdy with
          | true =>
            rw [hr] at s0
            rw [if_pos hr] at HMQ
            clear hr
            by_cases hok : q.ring
            · have HMAY := Lib.hid (HMQ.out.2 hok)
              have HC2 := Lib.hid (fun W => HC.out W)
              rw [if_pos (show q.rg.okP from hok), ← Array.toArray_toList (xs := q.rg.c)] at HC2
              clear hok HC
              go_wp2_with (first | go_skip | (refine load_midW ?hw 52 _ rfl bq 1 rfl q.rg.c.toList _ HRR.out Tryd.underlying52 rfl HI3.out ?_; case hw => kernel_rfl))
              refine (HC2.out _).mono ?_
              rintro e w4 ⟨rfl, hb⟩
              have K4 := Lib.hid (keepB K3.out hb)
              have HB4 := Lib.hid (HB3.out.trans (hb.mono HB3.out.size))
              have t0 := (hb.cell (p := ⟨bq, 0, none⟩) (lt_heap KQ.out)).trans s0
              clear hb
              go_wp2_with fail
              go_roundw
              case rel => exact ⟨1, by omega, by first | rfl | go_num, Lib.hid ⟨fun _ => by rw [← HQ.out]; exact HMAY.out, fun h => absurd h (by omega)⟩, K4.out, HB4.out⟩
              case measure => simp [intOf]
            · have HNO : Hid (¬ s.ok) := Lib.hid (fun h => hok (HMQ.out.1 (HOKQ.out h)))
              have HC2 := Lib.hid (fun W => HC.out W)
              rw [if_neg (show ¬ q.rg.okP from hok), ← Array.toArray_toList (xs := q.rg.c)] at HC2
              clear hok HC
              go_wp2_with (first | go_skip | (refine load_midW ?hw 52 _ rfl bq 1 rfl q.rg.c.toList _ HRR.out Tryd.underlying52 rfl HI3.out ?_; case hw => kernel_rfl))
              refine (HC2.out _).mono ?_
              rintro e w4 ⟨rfl, hb⟩
              have HB4 := Lib.hid (HB3.out.trans (hb.mono HB3.out.size))
              clear hb
              go_wp2_with fail
              go_ret
              exact check14_no HNO.out HB4.out
          | false =>
            rw [hr] at s0
            rw [if_neg (by rw [hr]; simp)] at HMQ
            clear hr HC HCK
            by_cases h1 : q.size < 0
            · have HNO : Hid (¬ s.ok) := Lib.hid (fun h => absurd (HMQ.out.1 (HOKQ.out h)).1 (by omega))
              go_wp2_with fail
              go_ret
              exact check14_no HNO.out HB3.out
            · by_cases h2 : 256 < q.size
              · have HNO : Hid (¬ s.ok) := Lib.hid (fun h => absurd (HMQ.out.1 (HOKQ.out h)).2 (by omega))
                go_wp2_with fail
                go_ret
                exact check14_no HNO.out HB3.out
              · have HMAY := Lib.hid (HMQ.out.2 ⟨by omega, by omega⟩)
                go_wp2_with fail
                go_roundw
                case rel => exact ⟨1, by omega, by first | rfl | go_num, Lib.hid ⟨fun _ => by rw [← HQ.out]; exact HMAY.out, fun h => absurd h (by omega)⟩, K3.out, HB3.out⟩
                case measure => simp [intOf]
        · have HRG := Lib.hid (VS.range_qb K.out)
          have HI := Lib.hid (show (Tryd.prog.info? 54).map (·.size) = some s.b.l.length by kernel_rfl)
          have HMQ : Hid (s.b.may ↔ if s.b.rdy = true then s.b.ring else 0 ≤ s.b.size ∧ s.b.size ≤ 256) := Lib.hid Iff.rfl
          have HOKQ : Hid (s.ok → s.b.may) := Lib.hid (fun h => (HOK.out.1 h).2.2.2.1)
          have HC := Lib.hid (fun W => HCK.out s.b.rg W)
          obtain ⟨q, hq⟩ : ∃ q, q = s.b := ⟨_, rfl⟩
          rw [← hq] at HRG HI HMQ HOKQ HC
          have HQ := Lib.hid hq
          clear hq
          obtain ⟨ql, hql⟩ : ∃ ql, ql = q.l.toArray := ⟨_, rfl⟩
          have HQL := Lib.hid hql
          have HI2 : Hid ((Tryd.prog.info? 54).map (·.size) = some ql.size) := Lib.hid (by rw [hql]; exact HI.out)
          have HO : Hid (ql.all (·.oneCell') = true) := Lib.hid (by rw [hql]; simp [VQ.l, Value.oneCell'])
          have KN := Lib.hid (heap_alloc_new wr (.cells #[.bool false, .int .i64 0, .int .u32 0, .int .u32 0, .int .u32 0, .int .u16 0, .int .u16 0] 54))
          have HBA := Lib.hid ((Below.refl wr.heap.size wr).alloc (Nat.le_refl _) (.cells #[.bool false, .int .i64 0, .int .u32 0, .int .u32 0, .int .u32 0, .int .u16 0, .int .u16 0] 54))
          have HZQ : Hid ((#[.bool false, .int .i64 0, .int .u32 0, .int .u32 0, .int .u32 0, .int .u16 0, .int .u16 0] : Array Value).size = ql.size) := Lib.hid (by rw [hql]; rfl)
          have hlt0 := lt_heap K.out
          have HLT := Lib.hid hlt0
          have HSZ := Lib.hid HB.out.size
          clear hlt0
          clear hql
          go_wp2_with (first | go_skip | (refine wpList_load_mid rfl 54 _ rfl w.heap.size 14 rfl q.l _ HRG.out Tryd.underlying54 rfl HI.out ?_; rw [← HQL.out]) | (refine wpList_store_to rfl 54 _ _ rfl wr.heap.size ql rfl rfl 54 #[.bool false, .int .i64 0, .int .u32 0, .int .u32 0, .int .u32 0, .int .u16 0, .int .u16 0] KN.out HI2.out HZQ.out HO.out ?_))
          intro w3 hx hk3
          have K3 := Lib.hid (hx.out.heap (keepB K.out HBA.out) (by have := HLT.out; omega))
          have HB3 := Lib.hid ((HB.out.trans (HBA.out.mono HSZ.out)).trans (hx.out.below (B := w.heap.size) (fun k hk e => by have := HSZ.out; omega) (Nat.le_trans HSZ.out HBA.out.size)))
          have KQ := Lib.hid hk3
          rw [HQL.out] at KQ
          clear hx hk3 KN HBA HRG HO HZQ HI HI2
          generalize wr.heap.size = bq at KQ ⊢
          have s0 := (cell_of_row _ _ 0 _ _ _ KQ.out).trans (rfl : _ = some (.bool q.rdy : Value))
          have s1 := (cell_of_row _ _ 1 _ _ _ KQ.out).trans (rfl : _ = some (.int .i64 q.size : Value))
          have HRR := Lib.hid (VQ.range_r KQ.out)
          have HI3 := Lib.hid (show (Tryd.prog.info? 52).map (·.size) = some q.rg.c.toList.length by kernel_rfl)
          cases hr : q.rdy with
          | true =>
            rw [hr] at s0
            rw [if_pos hr] at HMQ
            clear hr
            by_cases hok : q.ring
            · have HMAY := Lib.hid (HMQ.out.2 hok)
              have HC2 := Lib.hid (fun W => HC.out W)
              rw [if_pos (show q.rg.okP from hok), ← Array.toArray_toList (xs := q.rg.c)] at HC2
              clear hok HC
              go_wp2_with (first | go_skip | (refine load_midW ?hw 52 _ rfl bq 1 rfl q.rg.c.toList _ HRR.out Tryd.underlying52 rfl HI3.out ?_; case hw => kernel_rfl))
              refine (HC2.out _).mono ?_
              rintro e w4 ⟨rfl, hb⟩
              have K4 := Lib.hid (keepB K3.out hb)
              have HB4 := Lib.hid (HB3.out.trans (hb.mono HB3.out.size))
              have t0 := (hb.cell (p := ⟨bq, 0, none⟩) (lt_heap KQ.out)).trans s0
              clear hb
              go_wp2_with fail
              go_roundw
              case rel => exact ⟨2, by omega, by first | rfl | go_num, Lib.hid ⟨fun _ => hm.out.1 (by omega), fun _ => by rw [← HQ.out]; exact HMAY.out⟩, K4.out, HB4.out⟩
              case measure => simp [intOf]
            · have HNO : Hid (¬ s.ok) := Lib.hid (fun h => hok (HMQ.out.1 (HOKQ.out h)))
              have HC2 := Lib.hid (fun W => HC.out W)
              rw [if_neg (show ¬ q.rg.okP from hok), ← Array.toArray_toList (xs := q.rg.c)] at HC2
              clear hok HC
              go_wp2_with (first | go_skip | (refine load_midW ?hw 52 _ rfl bq 1 rfl q.rg.c.toList _ HRR.out Tryd.underlying52 rfl HI3.out ?_; case hw => kernel_rfl))
              refine (HC2.out _).mono ?_
              rintro e w4 ⟨rfl, hb⟩
              have HB4 := Lib.hid (HB3.out.trans (hb.mono HB3.out.size))
              clear hb
              go_wp2_with fail
              go_ret
              exact check14_no HNO.out HB4.out
          | false =>
            rw [hr] at s0
            rw [if_neg (by rw [hr]; simp)] at HMQ
            clear hr HC HCK
            by_cases h1 : q.size < 0
            · have HNO : Hid (¬ s.ok) := Lib.hid (fun h => absurd (HMQ.out.1 (HOKQ.out h)).1 (by omega))
              go_wp2_with fail
              go_ret
              exact check14_no HNO.out HB3.out
            · by_cases h2 : 256 < q.size
              · have HNO : Hid (¬ s.ok) := Lib.hid (fun h => absurd (HMQ.out.1 (HOKQ.out h)).2 (by omega))
                go_wp2_with fail
                go_ret
                exact check14_no HNO.out HB3.out
              · have HMAY := Lib.hid (HMQ.out.2 ⟨by omega, by omega⟩)
                go_wp2_with fail
                go_roundw
                case rel => exact ⟨2, by omega, by first | rfl | go_num, Lib.hid ⟨fun _ => hm.out.1 (by omega), fun _ => by rw [← HQ.out]; exact HMAY.out⟩, K3.out, HB3.out⟩
                case measure => simp [intOf]
        · have HA := Lib.hid (hm.out.1 (by omega))
          have HBM := Lib.hid (hm.out.2 (by omega))
          have c0 := (cell_of_row _ _ 0 _ _ _ K.out).trans (rfl : _ = some (.int .u32 s.st : Value))
          have c4 := (cell_of_row _ _ 4 _ _ _ K.out).trans (rfl : _ = some (.int .u32 s.irq : Value))
          have c5 := (cell_of_row _ _ 5 _ _ _ K.out).trans (rfl : _ = some (.int .u32 s.d0 : Value))
          have c6 := (cell_of_row _ _ 6 _ _ _ K.out).trans (rfl : _ = some (.int .u32 s.d1 : Value))
          have HH3 := Lib.hid (fun W => HH.out W 3 (by omega))
          rw [show ((3 : Nat) : Int) = 3 from rfl] at HH3
          by_cases hi : s.irq ≤ 3
          · have hi' : ¬ (3 : Int) < (s.irq : Int) := by omega
            by_cases h3 : bitv s.st 3 = 1
            · rw [decide_eq_true h3] at HH3
              by_cases hd0 : s.d0 = 0
              · have e0 : ((s.d0 : Int) != 0) = false := by simp; omega
                by_cases hd1 : s.d1 = 1
                · have e1 : ((s.d1 : Int) != 1) = false := by simp; omega
                  have HY : Hid s.ok := Lib.hid (HOK.out.2 ⟨HST.out, hi, HA.out, HBM.out, fun _ => ⟨hd0, hd1⟩⟩)
                  clear hd0 hd1 hi h3
                  go_wp2_with fail
                  refine (HH3.out _).mono ?_
                  rintro e w' ⟨rfl, rfl⟩
                  go_wp2_with fail
                  go_ret
                  exact check14_yes HY.out HB.out
                · have e1 : ((s.d1 : Int) != 1) = true := by simp; omega
                  have HNO : Hid (¬ s.ok) := Lib.hid (fun h => hd1 ((HOK.out.1 h).2.2.2.2 h3).2)
                  clear hd0 hd1 hi h3
                  go_wp2_with fail
                  refine (HH3.out _).mono ?_
                  rintro e w' ⟨rfl, rfl⟩
                  go_wp2_with fail
                  go_ret
                  exact check14_no HNO.out HB.out
              · have e0 : ((s.d0 : Int) != 0) = true := by simp; omega
                have HNO : Hid (¬ s.ok) := Lib.hid (fun h => hd0 ((HOK.out.1 h).2.2.2.2 h3).1)
                clear hd0 hi h3
                go_wp2_with fail
                refine (HH3.out _).mono ?_
                rintro e w' ⟨rfl, rfl⟩
                go_wp2_with fail
                go_ret
                exact check14_no HNO.out HB.out
            · rw [decide_eq_false h3] at HH3
              have HY : Hid s.ok := Lib.hid (HOK.out.2 ⟨HST.out, hi, HA.out, HBM.out, fun h => absurd h h3⟩)
              clear hi h3
              go_wp2_with fail
              refine (HH3.out _).mono ?_
              rintro e w' ⟨rfl, rfl⟩
              go_wp2_with fail
              go_ret
              exact check14_yes HY.out HB.out
          · have hi' : (3 : Int) < (s.irq : Int) := by omega
            have HNO : Hid (¬ s.ok) := Lib.hid (fun h => hi (HOK.out.1 h).2.1)
            clear hi
            go_wp2_with fail
            go_ret
            exact check14_no HNO.out HB.out
end Go.Proofs.YtcbjlpkkebcmjaaDoor
