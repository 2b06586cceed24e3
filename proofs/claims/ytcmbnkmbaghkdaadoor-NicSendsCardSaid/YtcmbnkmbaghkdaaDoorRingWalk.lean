/-
ring.Walk, walked: the parts of a chain.
Condition: the table of regions of package bus reads as its text lays it.
-/
import Derived.Test.YtcmbnkmbaghkdaaDoorRingDesc2
import Derived.Maps.AppendAt
import Derived.Deep.Onto
namespace Go.Proofs.YtcmbnkmbaghkdaaDoor
open Go.RowKit
set_option linter.unusedVariables false

def flatS (l : List Sg) : List Value := l.flatMap fun s => s.c.toList
theorem flatS_length (l : List Sg) : (flatS l).length = l.length * 3 := by
  induction l with
  | nil => rfl
  | cons s t ih => simp only [flatS, List.flatMap_cons, List.length_append] at ih ⊢; rw [ih]; simp [Sg.c]; omega
theorem flatS_snoc (l : List Sg) (s : Sg) : flatS (l ++ [s]) = flatS l ++ s.c.toList := by simp [flatS]
theorem flatS_get (l : List Sg) (k : Nat) (s : Sg) (r : Nat) (hk : l[k]? = some s) (hr : r < 3) : (flatS l)[k * 3 + r]? = s.c[r]? := by
  induction l generalizing k with
  | nil => simp at hk
  | cons x t ih =>
    have e : flatS (x :: t) = x.c.toList ++ flatS t := by simp [flatS]
    rw [e]
    cases k with
    | zero =>
      obtain rfl : x = s := by simpa using hk
      rw [List.getElem?_append_left (by simp [Sg.c]; omega), Nat.zero_mul, Nat.zero_add, Array.getElem?_toList]
    | succ k =>
      rw [List.getElem?_append_right (by simp [Sg.c]; omega), show (k + 1) * 3 + r - x.c.toList.length = k * 3 + r by simp [Sg.c]; omega]
      exact ih k (by simpa using hk)
/-- The parts of a chain. -/
def rwalkF (de size : Nat) (m : Mm) : Nat → Int → Nat → Bool → List Sg → Option (List Sg)
  | 0, _, _, _, _ => none
  | k + 1, a, sum, wr, acc =>
    if 0 ≤ a ∧ a < size then
      match rdesc m ((de + 16 * a.toNat) % 4294967296) with
      | none => none
      | some (s, nx) => if sum + s.n ≤ 1048576 ∧ (wr = true → s.wr = true) then (if nx < 0 then some (acc ++ [s]) else rwalkF de size m k nx (sum + s.n) s.wr (acc ++ [s])) else none
    else none
def rwalk (de size : Nat) (m : Mm) (head : Int) : Option (List Sg) := rwalkF de size m size head 0 false []
def rrest (de size : Nat) (m : Mm) (a : Int) (sum : Nat) (wr : Bool) (acc : List Sg) : Option (List Sg) := if a < 0 ∧ acc ≠ [] then some acc else rwalkF de size m (size - acc.length) a sum wr acc
def lastW (acc : List Sg) : Bool := match acc.getLast? with | some s => s.wr | none => false
theorem lastW_snoc (acc : List Sg) (s : Sg) : lastW (acc ++ [s]) = s.wr := by simp [lastW]
theorem rrest_done {de size : Nat} {m : Mm} {a : Int} {sum : Nat} {wr : Bool} {acc : List Sg} (h1 : a < 0) (h2 : acc ≠ []) : rrest de size m a sum wr acc = some acc := if_pos ⟨h1, h2⟩
theorem rrest_out {de size : Nat} {m : Mm} {a : Int} {sum : Nat} {wr : Bool} {acc : List Sg} (h1 : ¬ (a < 0 ∧ acc ≠ [])) (h2 : ¬ (0 ≤ a ∧ a < size) ∨ size ≤ acc.length) : rrest de size m a sum wr acc = none := by
  unfold rrest
  rw [if_neg h1]
  rcases h2 with h2 | h2
  · cases size - acc.length with
    | zero => rfl
    | succ k => unfold rwalkF; rw [if_neg h2]
  · rw [Nat.sub_eq_zero_of_le h2]; rfl
theorem rrest_none {de size : Nat} {m : Mm} {a : Int} {sum : Nat} {wr : Bool} {acc : List Sg} (h1 : 0 ≤ a) (hd : rdesc m ((de + 16 * a.toNat) % 4294967296) = none) : rrest de size m a sum wr acc = none := by
  unfold rrest
  rw [if_neg (fun h => absurd h.1 (by omega))]
  cases size - acc.length with
  | zero => rfl
  | succ k =>
    unfold rwalkF
    rw [hd]
    split <;> rfl
theorem rrest_bad {de size : Nat} {m : Mm} {a : Int} {sum : Nat} {wr : Bool} {acc : List Sg} {s : Sg} {nx : Int} (h1 : 0 ≤ a) (hd : rdesc m ((de + 16 * a.toNat) % 4294967296) = some (s, nx)) (hb : ¬ (sum + s.n ≤ 1048576 ∧ (wr = true → s.wr = true))) : rrest de size m a sum wr acc = none := by
  unfold rrest
  rw [if_neg (fun h => absurd h.1 (by omega))]
  cases size - acc.length with
  | zero => rfl
  | succ k =>
    unfold rwalkF
    rw [hd]
    split
    · simp only; rw [if_neg hb]
    · rfl
theorem rrest_step {de size : Nat} {m : Mm} {a : Int} {sum : Nat} {wr : Bool} {acc : List Sg} {s : Sg} {nx : Int} (h1 : 0 ≤ a) (h2 : a < size) (h3 : acc.length < size) (hd : rdesc m ((de + 16 * a.toNat) % 4294967296) = some (s, nx)) (hb : sum + s.n ≤ 1048576 ∧ (wr = true → s.wr = true)) :
    rrest de size m a sum wr acc = rrest de size m nx (sum + s.n) s.wr (acc ++ [s]) := by
  unfold rrest
  rw [if_neg (fun h => absurd h.1 (by omega))]
  obtain ⟨k, hk⟩ : ∃ k, size - acc.length = k + 1 := ⟨size - acc.length - 1, by omega⟩
  rw [hk]
  have hk2 : size - (acc ++ [s]).length = k := by rw [List.length_append]; simp; omega
  rw [hk2]
  conv => lhs; unfold rwalkF
  rw [if_pos ⟨h1, h2⟩, hd]
  simp only
  rw [if_pos hb]
  by_cases hn : nx < 0
  · rw [if_pos hn, if_pos ⟨hn, by simp⟩]
  · rw [if_neg hn, if_neg (fun h => hn h.1)]
theorem rdesc_small {m : Mm} {a : Nat} {s : Sg} {nx : Int} (h : rdesc m a = some (s, nx)) : s.n ≤ 1048576 ∧ -1 ≤ nx ∧ nx < 65536 ∧ s.at_ < 4294967296 ∧ lies m s.at_ s.n := by
  unfold rdesc at h
  split at h
  · rename_i x0 x1 x2 x3 e0 e1 e2 e3
    split at h
    · rename_i hc
      have g (j : Nat) (x : Nat) (he : rload m (a + 4 * j) 4 = some x) : x < 4294967296 := by
        unfold rload at he
        split at he
        · have := gp_lt4 m.f (a + 4 * j - 2147483648)
          simp only [Option.some.injEq] at he
          omega
        · simp at he
      have g3 := g 3 x3 e3
      have g0 := g 0 x0 e0
      simp only [Option.some.injEq, Prod.mk.injEq] at h
      obtain ⟨rfl, rfl⟩ := h
      refine ⟨hc.2.2.1, ?_, ?_, g0, hc.2.2.2⟩ <;> split <;> omega
    · simp at h
  · simp at h
theorem info_seg : ∃ i, Tryd.prog.info? 196 = some i ∧ i.zero = some (.agg #[.int .u32 0, .int .i64 0, .bool false]) ∧ i.size = 3 ∧ i.bytes = 24 := by
  have h : (Tryd.prog.info? 196).map (fun i => (i.zero, i.size, i.bytes)) = some (some (.agg #[.int .u32 0, .int .i64 0, .bool false]), 3, 24) := by kernel_rfl
  cases hq : Tryd.prog.info? 196 with
  | none => rw [hq] at h; cases h
  | some i =>
    rw [hq] at h
    simp only [Option.map_some, Option.some.injEq, Prod.mk.injEq] at h
    exact ⟨i, rfl, h.1, h.2.1, h.2.2⟩
def WalkPost (w : World) (g : Nat) (m : Mm) (F : Nat → Prop) (R : Option (List Sg)) (e : Ending) (w' : World) : Prop :=
  ∃ v F2, e = .returned (.tuple #[v, errV (if R.isSome then 0 else 22)]) ∧ RamIs w' g m F2 ∧ MemStep F F2 w w' ∧ w'.ownsRow w.heap.size 196 3 v (R.getD []).length (flatS (R.getD [])) ∧ ∀ b, v.ownBlock = some b → ¬ F2 b

set_option maxRecDepth 100000 in
set_option maxHeartbeats 8000000 in
theorem ring_Walk_in {g : Nat} {m : Mm} {F : Nat → Prop} {w : World} (size de av us la pu : Nat) (head : Int) (R : Option (List Sg)) (h : RamIs w g m F) (hs1 : 1 ≤ size) (hs2 : size ≤ 256) (hR : rwalk de size m head = R)
    (HC : Hid (∀ W, Calls Tryd.prog 110 #[.agg #[.int .i64 size, .int .u32 de, .int .u32 av, .int .u32 us, .int .u16 la, .int .u16 pu], .pointer (some ⟨g, 0, none⟩)] W fun e w' => e = .returned .nilIface ∧ Below W.heap.size W w'))
    (HD : Hid (∀ W F' (i : Nat), RamIs W g m F' → MemStep F F' w W → i < size → Calls Tryd.prog 112 #[.agg #[.int .i64 size, .int .u32 de, .int .u32 av, .int .u32 us, .int .u16 la, .int .u16 pu], .pointer (some ⟨g, 0, none⟩), .int .i64 i] W fun e w' => ∃ F2, e = .returned (descV (rdesc m ((de + 16 * i) % 4294967296))) ∧ RamIs w' g m F2 ∧ MemStep F' F2 W w')) :
    Calls Tryd.prog 79 #[.agg #[.int .i64 size, .int .u32 de, .int .u32 av, .int .u32 us, .int .u16 la, .int .u16 pu], .pointer (some ⟨g, 0, none⟩), .int .i64 head] w (WalkPost w g m F R) := by
  have k0 := heap_alloc_new w (.cells #[.int .i64 size, .int .u32 de, .int .u32 av, .int .u32 us, .int .u16 la, .int .u16 pu] 68)
  have hb0 : Below w.heap.size w (w.alloc (.cells #[.int .i64 size, .int .u32 de, .int .u32 av, .int .u32 us, .int .u16 la, .int .u16 pu] 68)) := (Below.refl _ _).alloc (Nat.le_refl _) _
  have K0 := Lib.hid k0
  have HR0 := Lib.hid (And.intro (h.below hb0) (MemStep.of_below (F := F) hb0))
  have hn0 : ¬ F w.heap.size := fun hf => absurd (h.lt _ hf) (Nat.lt_irrefl _)
  have HN := Lib.hid hn0
  have HRR : Hid (rrest de size m head 0 (lastW []) [] = R) := Lib.hid (by rw [← hR]; unfold rrest rwalk; rw [if_neg (fun h => h.2 rfl)]; rfl)
  have hsz1 : (1 : Int) ≤ (size : Int) := by omega
  have hsz2 : (size : Int) ≤ 256 := by omega
  clear k0 hb0 h hn0 hR
  go_enter Tryd.func79, Tryd.ntmps79
  go_wp2_with (first | go_skip | (refine wpList_load_row rfl 68 _ rfl w.heap.size rfl 68 #[.int .i64 size, .int .u32 de, .int .u32 av, .int .u32 us, .int .u16 la, .int .u16 pu] (0, 0) _ K0.out Tryd.underlying68 rfl (by kernel_rfl) ?_))
  refine (HC.out _).mono ?_
  rintro e w1 ⟨rfl, hb⟩
  have K1 := Lib.hid (keepB K0.out hb)
  have HR1 := Lib.hid (And.intro (HR0.out.1.below hb) (HR0.out.2.below hb))
  clear hb K0 HR0 HC
  go_wp2_with fail
  go_loopw [9, 10, 11] (fun v sm at_ wr => ∃ (acc : List Sg) (sum : Nat) (a : Int) (F' : Nat → Prop), at_ = .int .i64 a ∧ sm = .int .i64 sum ∧ acc.length ≤ size ∧ sum ≤ 1048576 ∧ rrest de size m a sum (lastW acc) acc = R ∧ RamIs wr g m F' ∧ MemStep F F' w wr ∧ ¬ F' w.heap.size ∧ wr.heap[w.heap.size]? = some (.cells #[.int .i64 size, .int .u32 de, .int .u32 av, .int .u32 us, .int .u16 la, .int .u16 pu] 68 (0, 0)) ∧
      wr.ownsRow (w.heap.size + 1) 196 3 v acc.length (flatS acc) ∧ (∀ b, v.ownBlock = some b → ¬ F' b) ∧ ∃ av cv, v = .slice av acc.length cv) (fun v _ _ _ => size - lenV v)
  case atStart => exact ⟨[], 0, head, F, rfl, rfl, by simp, by omega, HRR.out, HR1.out.1, HR1.out.2, HN.out, K1.out, World.ownsRow_nil _ _ _ _, fun b hb => by simp [Value.ownBlock] at hb, none, 0, rfl⟩
  case round =>
    clear K1 HR1 HN HRR
    obtain ⟨acc, sum, a, F1, rfl, rfl, hal, hsm, hrr, hri, hst, hn0, k0, hown, hnf, av0, cv, rfl⟩ := hrel
    have HRR := Lib.hid hrr
    have HR1 := Lib.hid (And.intro hri hst)
    have HN := Lib.hid hn0
    have K1 := Lib.hid k0
    have HOW := Lib.hid hown
    have HNF := Lib.hid hnf
    have hal0 : (0 : Int) ≤ (acc.length : Int) := by omega
    have hsm0 : (0 : Int) ≤ (sum : Int) := by omega
    have cs := (cell_of_row _ _ 0 _ _ _ K1.out).trans (rfl : _ = some (.int .i64 size : Value))
    clear hrr hri hst hn0 k0 hown hnf
    obtain ⟨n, hn⟩ : ∃ n, n = acc.length := ⟨_, rfl⟩
    have HNL := Lib.hid hn
    rw [← hn] at hal hal0 HOW HNF ⊢
    clear hn
    by_cases ha0 : a < 0
    · have hd0 : decide (0 ≤ a) = false := by simp; omega
      by_cases hn0 : n = 0
      · have hR : R = none := HRR.out.symm.trans (rrest_out (fun h => h.2 (List.eq_nil_of_length_eq_zero (by rw [← HNL.out]; exact hn0))) (.inl (fun h => absurd h.1 (by omega))))
        have HRN := Lib.hid hR
        have c1 : ((n : Int) == 0) = true := by simp [hn0]
        clear hR hn0
        go_wp2_with fail
        go_ret2
        exact ⟨_, F1, by rw [HRN.out]; rfl, HR1.out.1, HR1.out.2, by rw [HRN.out]; exact World.ownsRow_nil _ _ _ _, fun b hb => by simp [Value.ownBlock] at hb⟩
      · have hR : R = some acc := HRR.out.symm.trans (rrest_done ha0 (fun h => hn0 (by rw [HNL.out, h]; rfl)))
        have HRN := Lib.hid hR
        have c1 : ((n : Int) == 0) = false := by simp; omega
        have HFIN := Lib.hid (HOW.out)
        clear hR hn0
        go_wp2_with fail
        go_ret2
        exact ⟨_, F1, by rw [HRN.out]; rfl, HR1.out.1, HR1.out.2, by rw [HRN.out]; show wr.ownsRow _ _ 3 _ acc.length (flatS acc); rw [← HNL.out]; exact HFIN.out.mono (Nat.le_succ _), HNF.out⟩
    · obtain ⟨i, rfl⟩ : ∃ i : Nat, a = (i : Int) := ⟨a.toNat, by omega⟩
      have hd0 : decide ((0 : Int) ≤ (i : Int)) = true := by simp
      clear ha0
      by_cases his : i < size
      · have hd1 : ¬ (size : Int) ≤ (i : Int) := by omega
        by_cases hns : n = size
        · have hR : R = none := HRR.out.symm.trans (rrest_out (fun h => absurd h.1 (by omega)) (.inr (by rw [← HNL.out]; omega)))
          have HRN := Lib.hid hR
          have c1 : ((n : Int) == (size : Int)) = true := by simp [hns]
          clear hR hns
          go_wp2_with fail
          go_ret2
          exact ⟨_, F1, by rw [HRN.out]; rfl, HR1.out.1, HR1.out.2, by rw [HRN.out]; exact World.ownsRow_nil _ _ _ _, fun b hb => by simp [Value.ownBlock] at hb⟩
        · have c1 : ((n : Int) == (size : Int)) = false := by simp; omega
          have HD1 := Lib.hid (HD.out wr F1 i HR1.out.1 HR1.out.2 his)
          cases hdr : rdesc m ((de + 16 * i) % 4294967296) with
          | none =>
            have hR : R = none := HRR.out.symm.trans (rrest_none (by omega) (by rw [Int.toNat_natCast]; exact hdr))
            have HRN := Lib.hid hR
            clear hR hns
            rw [hdr] at HD1
            go_wp2_with (first | go_skip | (refine wpList_load_row rfl 68 _ rfl w.heap.size rfl 68 #[.int .i64 size, .int .u32 de, .int .u32 av, .int .u32 us, .int .u16 la, .int .u16 pu] (0, 0) _ K1.out Tryd.underlying68 rfl (by kernel_rfl) ?_))
            refine (HD1.out).mono ?_
            rintro e w2 ⟨F2, rfl, h1, h2⟩
            unfold descV
            have HNb := Lib.hid (And.intro (h2.off (lt_heap K1.out) HN.out) (fun b hb => h2.off (ownsRow_lt HOW.out hb).2 (HNF.out b hb)))
            have K2 := Lib.hid (h2.heap K1.out HN.out)
            have HOW2 := Lib.hid (ownsRow_keep HOW.out (fun q hq => h2.kx.block q (ownsRow_lt HOW.out hq).2 (HNF.out q hq)))
            have HR2 := Lib.hid (And.intro h1 (HR1.out.2.trans h2))
            clear h1 h2 HD1 cs K1 HR1 HN HNF HOW hdr
            have HBA := Lib.hid ((Below.refl w2.heap.size w2).alloc (Nat.le_refl _) (.cells #[.int .u32 0, .int .i64 0, .bool false] 196))
            have KN := Lib.hid (heap_alloc_new w2 (.cells #[.int .u32 0, .int .i64 0, .bool false] 196))
            have K2a := Lib.hid (keepB K2.out HBA.out)
            have HRa := Lib.hid (And.intro (HR2.out.1.below HBA.out) (HR2.out.2.below HBA.out))
            have HOWa := Lib.hid (ownsRow_keep HOW2.out (fun q hq => HBA.out.block q (ownsRow_lt HOW2.out hq).2))
            have HNs := Lib.hid (show ¬ F2 w2.heap.size from fun hf => absurd (HR2.out.1.lt _ hf) (Nat.lt_irrefl _))
            have HLW := Lib.hid (And.intro (lt_heap K2.out) HR2.out.2.kx.size)
            have HQW := Lib.hid (fun q hq => (ownsRow_lt HOW2.out (b := q) hq).2)
            have HO := Lib.hid (show (#[.int .u32 0, .int .i64 0, .bool false] : Array Value).all (·.oneCell') = true by simp [Value.oneCell'])
            clear HR2 HOW2 K2 HBA
            go_upto_region 11 with (first | go_skip | (refine wpList_store_to rfl 196 _ _ rfl w2.heap.size #[.int .u32 0, .int .i64 0, .bool false] rfl rfl 196 #[.int .u32 0, .int .i64 0, .bool false] KN.out (by kernel_rfl) rfl HO.out ?_))
            intro w3 hx hk
            have KS := Lib.hid hk
            have K3 := Lib.hid (hx.out.heap K2a.out (by have := HLW.out.1; omega))
            have HR3 := Lib.hid (And.intro (HRa.out.1.kx hx.out (fun k _ hf e => by subst e; exact HNs.out hf)) (HRa.out.2.own hx.out HLW.out.2))
            have HOW3 := Lib.hid (ownsRow_keep HOWa.out (fun q hq => hx.out.block q (ownsRow_lt HOWa.out hq).2 (by have := HQW.out q hq; omega)))
            clear hx hk KN K2a HRa HOWa
            generalize w2.heap.size = bs at KS HNs HLW HQW ⊢
            go_upto_region 11 with fail

            have s1 := (cell_of_row _ _ 1 _ _ _ KS.out).trans (rfl : _ = some (.int .i64 0 : Value))
            go_wp2_with fail
            go_ret2
            exact ⟨_, F2, by rw [HRN.out]; rfl, HR3.out.1, HR3.out.2, by rw [HRN.out]; exact World.ownsRow_nil _ _ _ _, fun b hb => by simp [Value.ownBlock] at hb⟩
          | some sn =>
            obtain ⟨s, nx⟩ := sn
            obtain ⟨hsn, hnx1, hnx2, hsa, hsl⟩ := rdesc_small hdr
            have HDR := Lib.hid hdr
            have hss0 : (0 : Int) ≤ (s.n : Int) := by omega
            have HO2 := Lib.hid (show (#[.int .u32 s.at_, .int .i64 s.n, .bool s.wr] : Array Value).all (·.oneCell') = true by simp [Value.oneCell'])
            unfold Sg.c at *
            by_cases hsum : sum + s.n ≤ 1048576
            · have hb1 : ¬ (1048576 : Int) < (sum : Int) + (s.n : Int) := by omega
              by_cases hn0 : n = 0
              · have c0 : ¬ (0 : Int) < (n : Int) := by omega
                have hst := (rrest_step (acc := acc) (sum := sum) (wr := lastW acc) (by omega) (by omega) (by rw [← HNL.out]; omega) (by rw [Int.toNat_natCast]; exact hdr) ⟨hsum, fun h => by have hacc : acc = [] := List.eq_nil_of_length_eq_zero (by rw [← HNL.out]; exact hn0); rw [hacc] at h; simp [lastW] at h⟩).symm.trans HRR.out
                rw [← lastW_snoc acc s] at hst
                have HST := Lib.hid hst
                clear hst HRR hn0
                rw [hdr] at HD1
                go_wp2_with (first | go_skip | (refine wpList_load_row rfl 68 _ rfl w.heap.size rfl 68 #[.int .i64 size, .int .u32 de, .int .u32 av, .int .u32 us, .int .u16 la, .int .u16 pu] (0, 0) _ K1.out Tryd.underlying68 rfl (by kernel_rfl) ?_))
                refine (HD1.out).mono ?_
                rintro e w2 ⟨F2, rfl, h1, h2⟩
                unfold descV
                have HNb := Lib.hid (And.intro (h2.off (lt_heap K1.out) HN.out) (fun b hb => h2.off (ownsRow_lt HOW.out hb).2 (HNF.out b hb)))
                have K2 := Lib.hid (h2.heap K1.out HN.out)
                have HOW2 := Lib.hid (ownsRow_keep HOW.out (fun q hq => h2.kx.block q (ownsRow_lt HOW.out hq).2 (HNF.out q hq)))
                have HR2 := Lib.hid (And.intro h1 (HR1.out.2.trans h2))
                clear h1 h2 HD1 cs K1 HR1 HN HNF HOW hdr
                have HBA := Lib.hid ((Below.refl w2.heap.size w2).alloc (Nat.le_refl _) (.cells #[.int .u32 0, .int .i64 0, .bool false] 196))
                have KN := Lib.hid (heap_alloc_new w2 (.cells #[.int .u32 0, .int .i64 0, .bool false] 196))
                have K2a := Lib.hid (keepB K2.out HBA.out)
                have HRa := Lib.hid (And.intro (HR2.out.1.below HBA.out) (HR2.out.2.below HBA.out))
                have HOWa := Lib.hid (ownsRow_keep HOW2.out (fun q hq => HBA.out.block q (ownsRow_lt HOW2.out hq).2))
                have HNs := Lib.hid (show ¬ F2 w2.heap.size from fun hf => absurd (HR2.out.1.lt _ hf) (Nat.lt_irrefl _))
                have HLW := Lib.hid (And.intro (lt_heap K2.out) HR2.out.2.kx.size)
                have HQW := Lib.hid (fun q hq => (ownsRow_lt HOW2.out (b := q) hq).2)
                have HO := Lib.hid (show (#[.int .u32 s.at_, .int .i64 s.n, .bool s.wr] : Array Value).all (·.oneCell') = true by simp [Value.oneCell'])
                clear HR2 HOW2 K2 HBA
                go_upto_region 11 with (first | go_skip | (refine wpList_store_to rfl 196 _ _ rfl w2.heap.size #[.int .u32 s.at_, .int .i64 s.n, .bool s.wr] rfl rfl 196 #[.int .u32 0, .int .i64 0, .bool false] KN.out (by kernel_rfl) rfl HO.out ?_))
                intro w3 hx hk
                have KS := Lib.hid hk
                have K3 := Lib.hid (hx.out.heap K2a.out (by have := HLW.out.1; omega))
                have HR3 := Lib.hid (And.intro (HRa.out.1.kx hx.out (fun k _ hf e => by subst e; exact HNs.out hf)) (HRa.out.2.own hx.out HLW.out.2))
                have HOW3 := Lib.hid (ownsRow_keep HOWa.out (fun q hq => hx.out.block q (ownsRow_lt HOWa.out hq).2 (by have := HQW.out q hq; omega)))
                clear hx hk KN K2a HRa HOWa
                generalize w2.heap.size = bs at KS HNs HLW HQW ⊢
                go_upto_region 11 with fail

                have s1 := (cell_of_row _ _ 1 _ _ _ KS.out).trans (rfl : _ = some (.int .i64 s.n : Value))
                have s2 := (cell_of_row _ _ 2 _ _ _ KS.out).trans (rfl : _ = some (.bool s.wr : Value))
                have cs2 := True.intro
                go_upto_region 14 with fail
                clear s1 s2 cs2
                obtain ⟨ii, hi1, hi2, hi3, hi4⟩ := info_seg
                have HBL := Lib.hid ((Below.refl w3.heap.size w3).alloc (Nat.le_refl _) (.cells #[.int .u32 s.at_, .int .i64 s.n, .bool s.wr] 196))
                have hnew := Lib.hid (heap_alloc_new w3 (.cells #[.int .u32 s.at_, .int .i64 s.n, .bool s.wr] 196))
                have K4 := Lib.hid (keepB K3.out HBL.out)
                have HOW4 := Lib.hid (ownsRow_keep HOW3.out (fun q hq => HBL.out.block q (ownsRow_lt HOW3.out hq).2))
                have HR4 := Lib.hid (And.intro (HR3.out.1.below HBL.out) (HR3.out.2.below HBL.out))
                have HX4 := Lib.hid (And.intro (show ¬ F2 w3.heap.size from fun hf => absurd (HR3.out.1.lt _ hf) (Nat.lt_irrefl _)) (show w.heap.size ≤ w3.heap.size ∧ w.heap.size < w3.heap.size from ⟨HR3.out.2.kx.size, lt_heap K3.out⟩))
                have HXO := Lib.hid (show ∀ u ∈ (#[.int .u32 s.at_, .int .i64 s.n, .bool s.wr] : Array Value).toList, u.oneCell' = true by simp [Value.oneCell'])
                have HLT := Lib.hid (fun q hq => ownsRow_lt HOW4.out (b := q) hq)
                go_wp2_with (first | go_skip | (refine wpList_load_row rfl 196 _ rfl bs rfl 196 #[.int .u32 s.at_, .int .i64 s.n, .bool s.wr] (0, 0) _ KS.out Tryd.underlying196 rfl (by kernel_rfl) ?_) | (refine wpList_append_own_at (w := w3.alloc (.cells #[.int .u32 s.at_, .int .i64 s.n, .bool s.wr] 196)) rfl _ _ 117 rfl (w.heap.size + 1) 196 ii _ 3 24 Tryd.underlying117 hi1 hi2 hi3 hi4 rfl (by omega) (.slice av0 n cv) n (flatS acc) rfl HOW4.out ⟨w3.heap.size, 0, none⟩ 1 1 (#[.int .u32 s.at_, .int .i64 s.n, .bool s.wr] : Array Value).toList rfl rfl ?hc0 HXO.out (by simp only [maxLen]; omega) (by omega) ?hb0 ?hK0))
                case hb0 => have := HX4.out.2.2; simp; omega
                intro v' w5 hown hgr _ hvb
                obtain ⟨av', cv', rfl⟩ := ownsRow_form hown
                have HOW5 := Lib.hid hown
                have K5 := Lib.hid ((hgr.block w.heap.size (lt_heap K4.out) (fun e => by have := HLT.out _ e.symm; omega)).trans K4.out)
                have HR5 := Lib.hid (And.intro (HR4.out.1.grown hgr HNb.out.2) (HR4.out.2.grown hgr (fun b hb => by have := HLT.out b hb; omega)))
                have HNF5 := Lib.hid (show ∀ b, (Value.slice av' (n + 1) cv').ownBlock = some b → ¬ F2 b from fun b hb hf => by
                  rcases hvb with e | e
                  · exact HNb.out.2 b (by rw [← e]; exact hb) hf
                  · have e3 : b = _ := Option.some.inj (hb.symm.trans e)
                    have hz := HR4.out.1.lt b hf
                    simp at hz
                    omega)
                clear hown hgr hvb hi1 hi2 hi3 hi4
                go_wp2_with fail
                go_roundw
                case rel => exact ⟨acc ++ [s], sum + s.n, nx, F2, rfl, (by go_num), (by rw [List.length_append, ← HNL.out]; simp; omega), hsum, HST.out, HR5.out.1, HR5.out.2, HNb.out.1, K5.out, (by rw [List.length_append, ← HNL.out, flatS_snoc]; exact HOW5.out), HNF5.out, av', cv', (by rw [List.length_append, ← HNL.out]; rfl)⟩
                case measure => simp [lenV]; omega

              · have c0 : (0 : Int) < (n : Int) := by omega
                obtain ⟨k, hk⟩ : ∃ k, n = k + 1 := ⟨n - 1, by omega⟩
                have hnk : (n : Int) - 1 = (k : Int) := by omega
                have hk0 : (0 : Int) ≤ (k : Int) := by omega
                have hkn : (k : Int) < (n : Int) := by omega
                have hkl : k < acc.length := by rw [← HNL.out]; omega
                obtain ⟨sl, hsl1⟩ : ∃ sl, acc[k]? = some sl := ⟨acc[k], List.getElem?_eq_getElem hkl⟩
                have hlw : lastW acc = sl.wr := by
                  unfold lastW
                  rw [List.getLast?_eq_getElem?, ← HNL.out, show n - 1 = k by omega, hsl1]
                have HSL := Lib.hid (And.intro hsl1 hk)
                obtain ⟨gv, rfl⟩ : ∃ gv, av0 = some ⟨gv, 0, none⟩ := by
                  rcases HOW.out.2 with ⟨hv, hx⟩ | ⟨gv, cap, cur, hv, _⟩
                  · have h := HOW.out.1
                    rw [hx] at h
                    simp at h
                    omega
                  · exact ⟨gv, by injection hv⟩
                have HKC := Lib.hid (fun W (h : World.ownsRow W (w.heap.size + 1) 196 3 (.slice (some ⟨gv, 0, none⟩) n cv) n (flatS acc)) => (h.cellAt (k * 3 + 2) (by omega)).trans (flatS_get acc k sl 2 HSL.out.1 (by omega)))
                clear hn0 hk hkl hsl1
                by_cases hbw : lastW acc = true → s.wr = true
                · have hst := (rrest_step (acc := acc) (sum := sum) (wr := lastW acc) (by omega) (by omega) (by rw [← HNL.out]; omega) (by rw [Int.toNat_natCast]; exact hdr) ⟨hsum, hbw⟩).symm.trans HRR.out
                  rw [← lastW_snoc acc s] at hst
                  have HST := Lib.hid hst
                  clear hst HRR
                  cases hw1 : sl.wr with
                  | false =>
                    have HW1 := Lib.hid hw1
                    clear hbw hlw hw1
                    rw [hdr] at HD1
                    go_wp2_with (first | go_skip | (refine wpList_load_row rfl 68 _ rfl w.heap.size rfl 68 #[.int .i64 size, .int .u32 de, .int .u32 av, .int .u32 us, .int .u16 la, .int .u16 pu] (0, 0) _ K1.out Tryd.underlying68 rfl (by kernel_rfl) ?_))
                    refine (HD1.out).mono ?_
                    rintro e w2 ⟨F2, rfl, h1, h2⟩
                    unfold descV
                    have HNb := Lib.hid (And.intro (h2.off (lt_heap K1.out) HN.out) (fun b hb => h2.off (ownsRow_lt HOW.out hb).2 (HNF.out b hb)))
                    have K2 := Lib.hid (h2.heap K1.out HN.out)
                    have HOW2 := Lib.hid (ownsRow_keep HOW.out (fun q hq => h2.kx.block q (ownsRow_lt HOW.out hq).2 (HNF.out q hq)))
                    have HR2 := Lib.hid (And.intro h1 (HR1.out.2.trans h2))
                    clear h1 h2 HD1 cs K1 HR1 HN HNF HOW hdr
                    have HBA := Lib.hid ((Below.refl w2.heap.size w2).alloc (Nat.le_refl _) (.cells #[.int .u32 0, .int .i64 0, .bool false] 196))
                    have KN := Lib.hid (heap_alloc_new w2 (.cells #[.int .u32 0, .int .i64 0, .bool false] 196))
                    have K2a := Lib.hid (keepB K2.out HBA.out)
                    have HRa := Lib.hid (And.intro (HR2.out.1.below HBA.out) (HR2.out.2.below HBA.out))
                    have HOWa := Lib.hid (ownsRow_keep HOW2.out (fun q hq => HBA.out.block q (ownsRow_lt HOW2.out hq).2))
                    have HNs := Lib.hid (show ¬ F2 w2.heap.size from fun hf => absurd (HR2.out.1.lt _ hf) (Nat.lt_irrefl _))
                    have HLW := Lib.hid (And.intro (lt_heap K2.out) HR2.out.2.kx.size)
                    have HQW := Lib.hid (fun q hq => (ownsRow_lt HOW2.out (b := q) hq).2)
                    have HO := Lib.hid (show (#[.int .u32 s.at_, .int .i64 s.n, .bool s.wr] : Array Value).all (·.oneCell') = true by simp [Value.oneCell'])
                    clear HR2 HOW2 K2 HBA
                    go_upto_region 11 with (first | go_skip | (refine wpList_store_to rfl 196 _ _ rfl w2.heap.size #[.int .u32 s.at_, .int .i64 s.n, .bool s.wr] rfl rfl 196 #[.int .u32 0, .int .i64 0, .bool false] KN.out (by kernel_rfl) rfl HO.out ?_))
                    intro w3 hx hk
                    have KS := Lib.hid hk
                    have K3 := Lib.hid (hx.out.heap K2a.out (by have := HLW.out.1; omega))
                    have HR3 := Lib.hid (And.intro (HRa.out.1.kx hx.out (fun k _ hf e => by subst e; exact HNs.out hf)) (HRa.out.2.own hx.out HLW.out.2))
                    have HOW3 := Lib.hid (ownsRow_keep HOWa.out (fun q hq => hx.out.block q (ownsRow_lt HOWa.out hq).2 (by have := HQW.out q hq; omega)))
                    clear hx hk KN K2a HRa HOWa
                    generalize w2.heap.size = bs at KS HNs HLW HQW ⊢
                    go_upto_region 11 with fail


                    have s1 := (cell_of_row _ _ 1 _ _ _ KS.out).trans (rfl : _ = some (.int .i64 s.n : Value))
                    have s2 := (cell_of_row _ _ 2 _ _ _ KS.out).trans (rfl : _ = some (.bool s.wr : Value))
                    have cs2 := (HKC.out _ HOW3.out).trans (show _ = some (Value.bool false) by rw [← HW1.out]; rfl)
                    go_upto_region 14 with fail
                    clear s1 s2 cs2
                    obtain ⟨ii, hi1, hi2, hi3, hi4⟩ := info_seg
                    have HBL := Lib.hid ((Below.refl w3.heap.size w3).alloc (Nat.le_refl _) (.cells #[.int .u32 s.at_, .int .i64 s.n, .bool s.wr] 196))
                    have hnew := Lib.hid (heap_alloc_new w3 (.cells #[.int .u32 s.at_, .int .i64 s.n, .bool s.wr] 196))
                    have K4 := Lib.hid (keepB K3.out HBL.out)
                    have HOW4 := Lib.hid (ownsRow_keep HOW3.out (fun q hq => HBL.out.block q (ownsRow_lt HOW3.out hq).2))
                    have HR4 := Lib.hid (And.intro (HR3.out.1.below HBL.out) (HR3.out.2.below HBL.out))
                    have HX4 := Lib.hid (And.intro (show ¬ F2 w3.heap.size from fun hf => absurd (HR3.out.1.lt _ hf) (Nat.lt_irrefl _)) (show w.heap.size ≤ w3.heap.size ∧ w.heap.size < w3.heap.size from ⟨HR3.out.2.kx.size, lt_heap K3.out⟩))
                    have HXO := Lib.hid (show ∀ u ∈ (#[.int .u32 s.at_, .int .i64 s.n, .bool s.wr] : Array Value).toList, u.oneCell' = true by simp [Value.oneCell'])
                    have HLT := Lib.hid (fun q hq => ownsRow_lt HOW4.out (b := q) hq)
                    go_wp2_with (first | go_skip | (refine wpList_load_row rfl 196 _ rfl bs rfl 196 #[.int .u32 s.at_, .int .i64 s.n, .bool s.wr] (0, 0) _ KS.out Tryd.underlying196 rfl (by kernel_rfl) ?_) | (refine wpList_append_own_at (w := w3.alloc (.cells #[.int .u32 s.at_, .int .i64 s.n, .bool s.wr] 196)) rfl _ _ 117 rfl (w.heap.size + 1) 196 ii _ 3 24 Tryd.underlying117 hi1 hi2 hi3 hi4 rfl (by omega) (.slice (some ⟨gv, 0, none⟩) n cv) n (flatS acc) rfl HOW4.out ⟨w3.heap.size, 0, none⟩ 1 1 (#[.int .u32 s.at_, .int .i64 s.n, .bool s.wr] : Array Value).toList rfl rfl ?hc1 HXO.out (by simp only [maxLen]; omega) (by omega) ?hb1 ?hK1))
                    case hb1 => have := HX4.out.2.2; simp; omega
                    intro v' w5 hown hgr _ hvb
                    obtain ⟨av', cv', rfl⟩ := ownsRow_form hown
                    have HOW5 := Lib.hid hown
                    have K5 := Lib.hid ((hgr.block w.heap.size (lt_heap K4.out) (fun e => by have := HLT.out _ e.symm; omega)).trans K4.out)
                    have HR5 := Lib.hid (And.intro (HR4.out.1.grown hgr HNb.out.2) (HR4.out.2.grown hgr (fun b hb => by have := HLT.out b hb; omega)))
                    have HNF5 := Lib.hid (show ∀ b, (Value.slice av' (n + 1) cv').ownBlock = some b → ¬ F2 b from fun b hb hf => by
                      rcases hvb with e | e
                      · exact HNb.out.2 b (by rw [← e]; exact hb) hf
                      · have e3 : b = _ := Option.some.inj (hb.symm.trans e)
                        have hz := HR4.out.1.lt b hf
                        simp at hz
                        omega)
                    clear hown hgr hvb hi1 hi2 hi3 hi4
                    go_wp2_with fail
                    go_roundw
                    case rel => exact ⟨acc ++ [s], sum + s.n, nx, F2, rfl, (by go_num), (by rw [List.length_append, ← HNL.out]; simp; omega), hsum, HST.out, HR5.out.1, HR5.out.2, HNb.out.1, K5.out, (by rw [List.length_append, ← HNL.out, flatS_snoc]; exact HOW5.out), HNF5.out, av', cv', (by rw [List.length_append, ← HNL.out]; rfl)⟩
                    case measure => simp [lenV]; omega


                  | true =>
                    have HW2 := Lib.hid (show s.wr = true from hbw (by rw [hlw, hw1]))
                    have HW1 := Lib.hid hw1
                    clear hbw hlw hw1
                    rw [hdr] at HD1
                    go_wp2_with (first | go_skip | (refine wpList_load_row rfl 68 _ rfl w.heap.size rfl 68 #[.int .i64 size, .int .u32 de, .int .u32 av, .int .u32 us, .int .u16 la, .int .u16 pu] (0, 0) _ K1.out Tryd.underlying68 rfl (by kernel_rfl) ?_))
                    refine (HD1.out).mono ?_
                    rintro e w2 ⟨F2, rfl, h1, h2⟩
                    unfold descV
                    have HNb := Lib.hid (And.intro (h2.off (lt_heap K1.out) HN.out) (fun b hb => h2.off (ownsRow_lt HOW.out hb).2 (HNF.out b hb)))
                    have K2 := Lib.hid (h2.heap K1.out HN.out)
                    have HOW2 := Lib.hid (ownsRow_keep HOW.out (fun q hq => h2.kx.block q (ownsRow_lt HOW.out hq).2 (HNF.out q hq)))
                    have HR2 := Lib.hid (And.intro h1 (HR1.out.2.trans h2))
                    clear h1 h2 HD1 cs K1 HR1 HN HNF HOW hdr
                    have HBA := Lib.hid ((Below.refl w2.heap.size w2).alloc (Nat.le_refl _) (.cells #[.int .u32 0, .int .i64 0, .bool false] 196))
                    have KN := Lib.hid (heap_alloc_new w2 (.cells #[.int .u32 0, .int .i64 0, .bool false] 196))
                    have K2a := Lib.hid (keepB K2.out HBA.out)
                    have HRa := Lib.hid (And.intro (HR2.out.1.below HBA.out) (HR2.out.2.below HBA.out))
                    have HOWa := Lib.hid (ownsRow_keep HOW2.out (fun q hq => HBA.out.block q (ownsRow_lt HOW2.out hq).2))
                    have HNs := Lib.hid (show ¬ F2 w2.heap.size from fun hf => absurd (HR2.out.1.lt _ hf) (Nat.lt_irrefl _))
                    have HLW := Lib.hid (And.intro (lt_heap K2.out) HR2.out.2.kx.size)
                    have HQW := Lib.hid (fun q hq => (ownsRow_lt HOW2.out (b := q) hq).2)
                    have HO := Lib.hid (show (#[.int .u32 s.at_, .int .i64 s.n, .bool s.wr] : Array Value).all (·.oneCell') = true by simp [Value.oneCell'])
                    clear HR2 HOW2 K2 HBA
                    go_upto_region 11 with (first | go_skip | (refine wpList_store_to rfl 196 _ _ rfl w2.heap.size #[.int .u32 s.at_, .int .i64 s.n, .bool s.wr] rfl rfl 196 #[.int .u32 0, .int .i64 0, .bool false] KN.out (by kernel_rfl) rfl HO.out ?_))
                    intro w3 hx hk
                    have KS := Lib.hid hk
                    have K3 := Lib.hid (hx.out.heap K2a.out (by have := HLW.out.1; omega))
                    have HR3 := Lib.hid (And.intro (HRa.out.1.kx hx.out (fun k _ hf e => by subst e; exact HNs.out hf)) (HRa.out.2.own hx.out HLW.out.2))
                    have HOW3 := Lib.hid (ownsRow_keep HOWa.out (fun q hq => hx.out.block q (ownsRow_lt HOWa.out hq).2 (by have := HQW.out q hq; omega)))
                    clear hx hk KN K2a HRa HOWa
                    generalize w2.heap.size = bs at KS HNs HLW HQW ⊢
                    go_upto_region 11 with fail


                    have s1 := (cell_of_row _ _ 1 _ _ _ KS.out).trans (rfl : _ = some (.int .i64 s.n : Value))
                    have s2 := (cell_of_row _ _ 2 _ _ _ KS.out).trans (show _ = some (.bool true : Value) by rw [← HW2.out]; rfl)
                    have cs2 := (HKC.out _ HOW3.out).trans (show _ = some (Value.bool true) by rw [← HW1.out]; rfl)
                    go_upto_region 14 with fail
                    clear s1 s2 cs2
                    obtain ⟨ii, hi1, hi2, hi3, hi4⟩ := info_seg
                    have HBL := Lib.hid ((Below.refl w3.heap.size w3).alloc (Nat.le_refl _) (.cells #[.int .u32 s.at_, .int .i64 s.n, .bool s.wr] 196))
                    have hnew := Lib.hid (heap_alloc_new w3 (.cells #[.int .u32 s.at_, .int .i64 s.n, .bool s.wr] 196))
                    have K4 := Lib.hid (keepB K3.out HBL.out)
                    have HOW4 := Lib.hid (ownsRow_keep HOW3.out (fun q hq => HBL.out.block q (ownsRow_lt HOW3.out hq).2))
                    have HR4 := Lib.hid (And.intro (HR3.out.1.below HBL.out) (HR3.out.2.below HBL.out))
                    have HX4 := Lib.hid (And.intro (show ¬ F2 w3.heap.size from fun hf => absurd (HR3.out.1.lt _ hf) (Nat.lt_irrefl _)) (show w.heap.size ≤ w3.heap.size ∧ w.heap.size < w3.heap.size from ⟨HR3.out.2.kx.size, lt_heap K3.out⟩))
                    have HXO := Lib.hid (show ∀ u ∈ (#[.int .u32 s.at_, .int .i64 s.n, .bool s.wr] : Array Value).toList, u.oneCell' = true by simp [Value.oneCell'])
                    have HLT := Lib.hid (fun q hq => ownsRow_lt HOW4.out (b := q) hq)
                    go_wp2_with (first | go_skip | (refine wpList_load_row rfl 196 _ rfl bs rfl 196 #[.int .u32 s.at_, .int .i64 s.n, .bool s.wr] (0, 0) _ KS.out Tryd.underlying196 rfl (by kernel_rfl) ?_) | (refine wpList_append_own_at (w := w3.alloc (.cells #[.int .u32 s.at_, .int .i64 s.n, .bool s.wr] 196)) rfl _ _ 117 rfl (w.heap.size + 1) 196 ii _ 3 24 Tryd.underlying117 hi1 hi2 hi3 hi4 rfl (by omega) (.slice (some ⟨gv, 0, none⟩) n cv) n (flatS acc) rfl HOW4.out ⟨w3.heap.size, 0, none⟩ 1 1 (#[.int .u32 s.at_, .int .i64 s.n, .bool s.wr] : Array Value).toList rfl rfl ?hc2 HXO.out (by simp only [maxLen]; omega) (by omega) ?hb2 ?hK2))
                    case hb2 => have := HX4.out.2.2; simp; omega
                    intro v' w5 hown hgr _ hvb
                    obtain ⟨av', cv', rfl⟩ := ownsRow_form hown
                    have HOW5 := Lib.hid hown
                    have K5 := Lib.hid ((hgr.block w.heap.size (lt_heap K4.out) (fun e => by have := HLT.out _ e.symm; omega)).trans K4.out)
                    have HR5 := Lib.hid (And.intro (HR4.out.1.grown hgr HNb.out.2) (HR4.out.2.grown hgr (fun b hb => by have := HLT.out b hb; omega)))
                    have HNF5 := Lib.hid (show ∀ b, (Value.slice av' (n + 1) cv').ownBlock = some b → ¬ F2 b from fun b hb hf => by
                      rcases hvb with e | e
                      · exact HNb.out.2 b (by rw [← e]; exact hb) hf
                      · have e3 : b = _ := Option.some.inj (hb.symm.trans e)
                        have hz := HR4.out.1.lt b hf
                        simp at hz
                        omega)
                    clear hown hgr hvb hi1 hi2 hi3 hi4
                    go_wp2_with fail
                    go_roundw
                    case rel => exact ⟨acc ++ [s], sum + s.n, nx, F2, rfl, (by go_num), (by rw [List.length_append, ← HNL.out]; simp; omega), hsum, HST.out, HR5.out.1, HR5.out.2, HNb.out.1, K5.out, (by rw [List.length_append, ← HNL.out, flatS_snoc]; exact HOW5.out), HNF5.out, av', cv', (by rw [List.length_append, ← HNL.out]; rfl)⟩
                    case measure => simp [lenV]; omega


                · have hR : R = none := HRR.out.symm.trans (rrest_bad (by omega) (by rw [Int.toNat_natCast]; exact hdr) (fun h => hbw h.2))
                  have HRN := Lib.hid hR
                  have hw1 : sl.wr = true := by
                    rw [← hlw]
                    cases h : lastW acc with
                    | true => rfl
                    | false => exact absurd (fun h2 => absurd (h ▸ h2) (by simp)) hbw
                  have hw2 : s.wr = false := by
                    cases h : s.wr with
                    | false => rfl
                    | true => exact absurd (fun _ => h) hbw
                  have HW1 := Lib.hid hw1
                  clear hbw hlw hw1 hR
                  rw [hdr] at HD1
                  go_wp2_with (first | go_skip | (refine wpList_load_row rfl 68 _ rfl w.heap.size rfl 68 #[.int .i64 size, .int .u32 de, .int .u32 av, .int .u32 us, .int .u16 la, .int .u16 pu] (0, 0) _ K1.out Tryd.underlying68 rfl (by kernel_rfl) ?_))
                  refine (HD1.out).mono ?_
                  rintro e w2 ⟨F2, rfl, h1, h2⟩
                  unfold descV
                  have HNb := Lib.hid (And.intro (h2.off (lt_heap K1.out) HN.out) (fun b hb => h2.off (ownsRow_lt HOW.out hb).2 (HNF.out b hb)))
                  have K2 := Lib.hid (h2.heap K1.out HN.out)
                  have HOW2 := Lib.hid (ownsRow_keep HOW.out (fun q hq => h2.kx.block q (ownsRow_lt HOW.out hq).2 (HNF.out q hq)))
                  have HR2 := Lib.hid (And.intro h1 (HR1.out.2.trans h2))
                  clear h1 h2 HD1 cs K1 HR1 HN HNF HOW hdr
                  have HBA := Lib.hid ((Below.refl w2.heap.size w2).alloc (Nat.le_refl _) (.cells #[.int .u32 0, .int .i64 0, .bool false] 196))
                  have KN := Lib.hid (heap_alloc_new w2 (.cells #[.int .u32 0, .int .i64 0, .bool false] 196))
                  have K2a := Lib.hid (keepB K2.out HBA.out)
                  have HRa := Lib.hid (And.intro (HR2.out.1.below HBA.out) (HR2.out.2.below HBA.out))
                  have HOWa := Lib.hid (ownsRow_keep HOW2.out (fun q hq => HBA.out.block q (ownsRow_lt HOW2.out hq).2))
                  have HNs := Lib.hid (show ¬ F2 w2.heap.size from fun hf => absurd (HR2.out.1.lt _ hf) (Nat.lt_irrefl _))
                  have HLW := Lib.hid (And.intro (lt_heap K2.out) HR2.out.2.kx.size)
                  have HQW := Lib.hid (fun q hq => (ownsRow_lt HOW2.out (b := q) hq).2)
                  have HO := Lib.hid (show (#[.int .u32 s.at_, .int .i64 s.n, .bool s.wr] : Array Value).all (·.oneCell') = true by simp [Value.oneCell'])
                  clear HR2 HOW2 K2 HBA
                  go_upto_region 11 with (first | go_skip | (refine wpList_store_to rfl 196 _ _ rfl w2.heap.size #[.int .u32 s.at_, .int .i64 s.n, .bool s.wr] rfl rfl 196 #[.int .u32 0, .int .i64 0, .bool false] KN.out (by kernel_rfl) rfl HO.out ?_))
                  intro w3 hx hk
                  have KS := Lib.hid hk
                  have K3 := Lib.hid (hx.out.heap K2a.out (by have := HLW.out.1; omega))
                  have HR3 := Lib.hid (And.intro (HRa.out.1.kx hx.out (fun k _ hf e => by subst e; exact HNs.out hf)) (HRa.out.2.own hx.out HLW.out.2))
                  have HOW3 := Lib.hid (ownsRow_keep HOWa.out (fun q hq => hx.out.block q (ownsRow_lt HOWa.out hq).2 (by have := HQW.out q hq; omega)))
                  clear hx hk KN K2a HRa HOWa
                  generalize w2.heap.size = bs at KS HNs HLW HQW ⊢
                  go_upto_region 11 with fail


                  have s1 := (cell_of_row _ _ 1 _ _ _ KS.out).trans (rfl : _ = some (.int .i64 s.n : Value))
                  have s2 := (cell_of_row _ _ 2 _ _ _ KS.out).trans (show _ = some (.bool false : Value) by rw [← hw2]; rfl)
                  have cs2 := (HKC.out _ HOW3.out).trans (show _ = some (Value.bool true) by rw [← HW1.out]; rfl)
                  go_wp2_with fail
                  go_ret2
                  exact ⟨_, F2, by rw [HRN.out]; rfl, HR3.out.1, HR3.out.2, by rw [HRN.out]; exact World.ownsRow_nil _ _ _ _, fun b hb => by simp [Value.ownBlock] at hb⟩
            · have hR : R = none := HRR.out.symm.trans (rrest_bad (by omega) (by rw [Int.toNat_natCast]; exact hdr) (fun h => hsum h.1))
              have HRN := Lib.hid hR
              have hb1 : (1048576 : Int) < (sum : Int) + (s.n : Int) := by omega
              clear hR hns
              rw [hdr] at HD1
              go_wp2_with (first | go_skip | (refine wpList_load_row rfl 68 _ rfl w.heap.size rfl 68 #[.int .i64 size, .int .u32 de, .int .u32 av, .int .u32 us, .int .u16 la, .int .u16 pu] (0, 0) _ K1.out Tryd.underlying68 rfl (by kernel_rfl) ?_))
              refine (HD1.out).mono ?_
              rintro e w2 ⟨F2, rfl, h1, h2⟩
              unfold descV
              have HNb := Lib.hid (And.intro (h2.off (lt_heap K1.out) HN.out) (fun b hb => h2.off (ownsRow_lt HOW.out hb).2 (HNF.out b hb)))
              have K2 := Lib.hid (h2.heap K1.out HN.out)
              have HOW2 := Lib.hid (ownsRow_keep HOW.out (fun q hq => h2.kx.block q (ownsRow_lt HOW.out hq).2 (HNF.out q hq)))
              have HR2 := Lib.hid (And.intro h1 (HR1.out.2.trans h2))
              clear h1 h2 HD1 cs K1 HR1 HN HNF HOW hdr
              have HBA := Lib.hid ((Below.refl w2.heap.size w2).alloc (Nat.le_refl _) (.cells #[.int .u32 0, .int .i64 0, .bool false] 196))
              have KN := Lib.hid (heap_alloc_new w2 (.cells #[.int .u32 0, .int .i64 0, .bool false] 196))
              have K2a := Lib.hid (keepB K2.out HBA.out)
              have HRa := Lib.hid (And.intro (HR2.out.1.below HBA.out) (HR2.out.2.below HBA.out))
              have HOWa := Lib.hid (ownsRow_keep HOW2.out (fun q hq => HBA.out.block q (ownsRow_lt HOW2.out hq).2))
              have HNs := Lib.hid (show ¬ F2 w2.heap.size from fun hf => absurd (HR2.out.1.lt _ hf) (Nat.lt_irrefl _))
              have HLW := Lib.hid (And.intro (lt_heap K2.out) HR2.out.2.kx.size)
              have HQW := Lib.hid (fun q hq => (ownsRow_lt HOW2.out (b := q) hq).2)
              have HO := Lib.hid (show (#[.int .u32 s.at_, .int .i64 s.n, .bool s.wr] : Array Value).all (·.oneCell') = true by simp [Value.oneCell'])
              clear HR2 HOW2 K2 HBA
              go_upto_region 11 with (first | go_skip | (refine wpList_store_to rfl 196 _ _ rfl w2.heap.size #[.int .u32 s.at_, .int .i64 s.n, .bool s.wr] rfl rfl 196 #[.int .u32 0, .int .i64 0, .bool false] KN.out (by kernel_rfl) rfl HO.out ?_))
              intro w3 hx hk
              have KS := Lib.hid hk
              have K3 := Lib.hid (hx.out.heap K2a.out (by have := HLW.out.1; omega))
              have HR3 := Lib.hid (And.intro (HRa.out.1.kx hx.out (fun k _ hf e => by subst e; exact HNs.out hf)) (HRa.out.2.own hx.out HLW.out.2))
              have HOW3 := Lib.hid (ownsRow_keep HOWa.out (fun q hq => hx.out.block q (ownsRow_lt HOWa.out hq).2 (by have := HQW.out q hq; omega)))
              clear hx hk KN K2a HRa HOWa
              generalize w2.heap.size = bs at KS HNs HLW HQW ⊢
              go_upto_region 11 with fail

              have s1 := (cell_of_row _ _ 1 _ _ _ KS.out).trans (rfl : _ = some (.int .i64 s.n : Value))
              go_wp2_with fail
              go_ret2
              exact ⟨_, F2, by rw [HRN.out]; rfl, HR3.out.1, HR3.out.2, by rw [HRN.out]; exact World.ownsRow_nil _ _ _ _, fun b hb => by simp [Value.ownBlock] at hb⟩
      · have hR : R = none := HRR.out.symm.trans (rrest_out (fun h => absurd h.1 (by omega)) (.inl (fun h => by omega)))
        have HRN := Lib.hid hR
        have hd1 : (size : Int) ≤ (i : Int) := by omega
        clear hR his
        go_wp2_with fail
        go_ret2
        exact ⟨_, F1, by rw [HRN.out]; rfl, HR1.out.1, HR1.out.2, by rw [HRN.out]; exact World.ownsRow_nil _ _ _ _, fun b hb => by simp [Value.ownBlock] at hb⟩
end Go.Proofs.YtcmbnkmbaghkdaaDoor
