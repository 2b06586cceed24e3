/-
The ring of the laws of packages pinnacelaw13 and others: its state over the memory that it stands in; Next and Give of it.
Condition: the table of regions of package bus reads as its text lays it.
-/
import Derived.Test.YtcakcfeipfjmpaaDoorRingGath
import Derived.Test.YtcakcfeipfjmpaaDoorRingNext
import Derived.Test.YtcakcfeipfjmpaaDoorRingGive
namespace Go.Proofs.YtcakcfeipfjmpaaDoor
open Go.RowKit
set_option linter.unusedVariables false

theorem i64_and3 (n : Int) : bits .and .i64 n 3 = n % 4 := by
  have h3 : (BitVec.ofInt 64 3).toNat = 2 ^ 2 - 1 := by decide
  have key : (BitVec.ofInt 64 n &&& BitVec.ofInt 64 3).toNat = (n % ((2 ^ 64 : Nat) : Int)).toNat % 2 ^ 2 := by
    rw [BitVec.toNat_and, BitVec.toNat_ofInt, h3, Nat.and_two_pow_sub_one_eq_mod]
  show IntKind.i64.wrap ((BitVec.ofInt 64 n &&& BitVec.ofInt 64 3).toNat : Nat) = n % 4
  rw [key, IntKind.wrap_i64]
  omega
theorem putR_get (f : Nat → UInt8) (a : Nat) (l : List UInt8) (i : Nat) (h : i < l.length) : putL f a l (a + i) = l[i] := by
  unfold putL
  rw [if_pos (by omega), show a + i - a = i by omega, List.getElem?_eq_getElem h]
  rfl
theorem putR_out (f : Nat → UInt8) (a : Nat) (l : List UInt8) (x : Nat) (h : x < a ∨ a + l.length ≤ x) : putL f a l x = f x := by
  unfold putL
  by_cases h1 : a ≤ x
  · rw [if_pos h1, List.getElem?_eq_none (by omega)]
    rfl
  · rw [if_neg h1]
theorem gp_congr {f h : Nat → UInt8} {a : Nat} : ∀ k, (∀ i, i < k → f (a + i) = h (a + i)) → gp f a k = gp h a k
  | 0, _ => rfl
  | k + 1, hh => by simp only [gp]; rw [gp_congr k (fun i hi => hh i (by omega)), hh k (by omega)]
theorem gp_out (f : Nat → UInt8) (a : Nat) (l : List UInt8) (b k : Nat) (h : b + k ≤ a ∨ a + l.length ≤ b) : gp (putL f a l) b k = gp f b k :=
  gp_congr k (fun i hi => putR_out f a l (b + i) (by omega))
theorem leB_get (k v i : Nat) (hi : i < k) : ((leB k v)[i]'(by rw [leB_length]; exact hi)).toNat = v / 256 ^ i % 256 := by simp [leB]
theorem gp_put2 (f : Nat → UInt8) (a v : Nat) (hv : v < 65536) : gp (putL f a (leB 2 v)) a 2 = v := by
  have g : ∀ i, (hi : i < 2) → (putL f a (leB 2 v) (a + i)).toNat = v / 256 ^ i % 256 := fun i hi => by
    rw [putR_get _ _ _ _ (by rw [leB_length]; exact hi)]
    exact leB_get 2 v i hi
  have g0 := g 0 (by omega)
  have g1 := g 1 (by omega)
  simp only [gp]
  rw [g0, g1]
  rw [show (256 : Nat) ^ 0 = 1 from rfl, show (256 : Nat) ^ 1 = 256 from rfl]
  omega
theorem gp_put4 (f : Nat → UInt8) (a v : Nat) (hv : v < 4294967296) : gp (putL f a (leB 4 v)) a 4 = v := by
  have g : ∀ i, (hi : i < 4) → (putL f a (leB 4 v) (a + i)).toNat = v / 256 ^ i % 256 := fun i hi => by
    rw [putR_get _ _ _ _ (by rw [leB_length]; exact hi)]
    exact leB_get 4 v i hi
  have g0 := g 0 (by omega)
  have g1 := g 1 (by omega)
  have g2 := g 2 (by omega)
  have g3 := g 3 (by omega)
  simp only [gp]
  rw [g0, g1, g2, g3]
  rw [show (256 : Nat) ^ 0 = 1 from rfl, show (256 : Nat) ^ 1 = 256 from rfl, show (256 : Nat) ^ 2 = 65536 from rfl, show (256 : Nat) ^ 3 = 16777216 from rfl]
  omega
theorem store_f (m : Mm) (a k v : Nat) : (m.store a k v).f = putL m.f a (leB k v) := rfl
theorem store_n (m : Mm) (a k v : Nat) : (m.store a k v).n = m.n := rfl
theorem gp_store_out (m : Mm) (a k v b j : Nat) (h : b + j ≤ a ∨ a + k ≤ b) : gp (m.store a k v).f b j = gp m.f b j := by
  rw [store_f]
  exact gp_out _ _ _ _ _ (by rw [leB_length]; exact h)
/-- The row of the laws' ring. -/
def lrow (la pu : Nat) : Array Value := #[.int .i64 4, .int .u32 2147483648, .int .u32 2147483904, .int .u32 2147484160, .int .u16 la, .int .u16 pu]
theorem lrow_one (la pu : Nat) : (lrow la pu).all (·.oneCell') = true := by simp [lrow, Value.oneCell']
def lrg (la pu : Nat) : Rg := ⟨4, 2147483648, 2147483904, 2147484160, la, pu⟩
theorem lrg_ok (la pu : Nat) : (lrg la pu).okP := by
  show 1 ≤ (4 : Int) ∧ (4 : Int) ≤ 256 ∧ ((4 : Int).toNat &&& ((4 : Int).toNat - 1)) = 0 ∧ 2147483648 % 16 = 0 ∧ 2147483904 % 2 = 0 ∧ 2147484160 % 4 = 0
  decide
theorem rload_in (m : Mm) (a b k : Nat) (hab : a = 2147483648 + b) (hb : b + k ≤ 8192) (hn : m.n = 2) : rload m a k = some (gp m.f b k) := by
  subst hab
  have e : 2147483648 + b - 2147483648 = b := by omega
  unfold rload
  rw [if_pos (by omega), e]
theorem laid_bad (la pu g : Nat) (W : World) : Calls Tryd.prog 71 #[.agg (lrow la pu), .pointer (some ⟨g, 0, none⟩)] W fun e w' => e = .returned .nilIface ∧ Below W.heap.size W w' := by
  have h := ring_bad (lrg la pu) g W
  rw [if_pos (lrg_ok la pu)] at h
  exact h
theorem slot_arg (c : Int) (x : Nat) (hx : x < 65536) : (IntKind.i64.wrap (x : Int)).tmod ((4 : Nat) : Int) = ((x % 4 : Nat) : Int) := by
  have e : IntKind.i64.wrap (x : Int) = (x : Int) := by rw [IntKind.wrap_i64]; omega
  rw [e, Int.tmod_eq_emod_of_nonneg (by omega)]
  omega
theorem next_laid_none {g : Nat} {m : Mm} {F : Nat → Prop} {w : World} (la pu : Nat) (h : RamIs w g m F) (hr : RegAt w) (hrf : ¬ F 1) (hn : m.n = 2) (hla : la < 65536) (hc : gp m.f 258 2 = la) :
    Calls Tryd.prog 22 #[.agg (lrow la pu), .pointer (some ⟨g, 0, none⟩)] w fun e w' => ∃ F2, e = .returned (.tuple #[.agg (lrow la pu), .int .i64 0, .bool false, .nilIface]) ∧ RamIs w' g m F2 ∧ MemStep F F2 w w' :=
  ring_Next_none 4 2147483648 2147483904 2147484160 la pu la h (by omega) (by omega) hla hla (Lib.hid (laid_bad la pu g))
    (Lib.hid (fun W F' h1 _ h2 => by
      have hL := ring_load h1 (reg_step hr h2 hrf).1 2147483906 2 ((((2147483904 : Nat) : Int) + 2) % 4294967296) 2 (by decide) rfl (by omega) (.inr (.inl rfl)) (by omega)
      rw [show rload m 2147483906 2 = some la from (rload_in m _ 258 2 (by omega) (by omega) hn).trans (by rw [hc])] at hL
      exact hL)) rfl
theorem next_laid_some {g : Nat} {m : Mm} {F : Nat → Prop} {w : World} (la pu c hd : Nat) (h : RamIs w g m F) (hr : RegAt w) (hrf : ¬ F 1) (hn : m.n = 2) (hla : la < 65000) (hc : gp m.f 258 2 = c) (hlt : la < c) (hc4 : c ≤ la + 4) (hh : gp m.f (260 + 2 * (la % 4)) 2 = hd) (hd4 : hd < 4) :
    Calls Tryd.prog 22 #[.agg (lrow la pu), .pointer (some ⟨g, 0, none⟩)] w fun e w' => ∃ F2, e = .returned (.tuple #[.agg (lrow (la + 1) pu), .int .i64 hd, .bool true, .nilIface]) ∧ RamIs w' g m F2 ∧ MemStep F F2 w w' := by
  have hq := ring_Next_some 4 2147483648 2147483904 2147484160 la pu c h (by omega) (by omega) (by omega) (by omega) (Lib.hid (laid_bad la pu g))
    (Lib.hid (fun W F' h1 _ h2 => by
      have hL := ring_load h1 (reg_step hr h2 hrf).1 2147483906 2 ((((2147483904 : Nat) : Int) + 2) % 4294967296) 2 (by decide) rfl (by omega) (.inr (.inl rfl)) (by omega)
      rw [show rload m 2147483906 2 = some c from (rload_in m _ 258 2 (by omega) (by omega) hn).trans (by rw [hc])] at hL
      exact hL)) hd (by omega) (c - la) (by omega) (by omega) hd4 ((2147483908 + 2 * (la % 4) : Nat) : Int) (Lib.hid (by
        rw [slot_arg 0 la (by omega)]
        simp only [IntKind.wrap_u32]
        omega))
    (Lib.hid (fun W F' h1 h2 => by
      have hL := ring_load h1 (reg_step hr h2 hrf).1 (2147483908 + 2 * (la % 4)) 2 _ 2 rfl rfl (by omega) (.inr (.inl rfl)) (by omega)
      rw [show rload m (2147483908 + 2 * (la % 4)) 2 = some hd from (rload_in m _ (260 + 2 * (la % 4)) 2 (by omega) (by omega) hn).trans (by rw [hh])] at hL
      exact hL))
  rw [show IntKind.u16.wrap ((la : Int) + 1) = ((la + 1 : Nat) : Int) by rw [IntKind.wrap_u16]; omega] at hq
  exact hq
def gaveM (m : Mm) (pu hd n : Nat) : Mm := ((m.store (516 + 8 * (pu % 4)) 4 hd).store (520 + 8 * (pu % 4)) 4 n).store 514 2 (pu + 1)
theorem give_laid {g : Nat} {m : Mm} {F : Nat → Prop} {w : World} (la pu hd n : Nat) (ni : Int) (en : ni = (n : Int)) (h : RamIs w g m F) (hr : RegAt w) (hrf : ¬ F 1) (hn : m.n = 2) (hpu : pu < 65000) (hd4 : hd < 4) :
    Calls Tryd.prog 23 #[.agg (lrow la pu), .pointer (some ⟨g, 0, none⟩), .int .i64 hd, .int .u32 ni] w fun e w' => ∃ F2, e = .returned (.tuple #[.agg (lrow la (pu + 1)), .nilIface]) ∧ RamIs w' g (gaveM m pu hd n) F2 ∧ MemStep F F2 w w' := by
  subst en
  exact ring_Give_ok 4 2147483648 2147483904 2147484160 la pu hd n (pu + 1) ((2147484164 + 8 * (pu % 4) : Nat) : Int) h (by omega) (by omega) hd4 (by rw [IntKind.wrap_u16]; omega) (by omega) (Lib.hid (by
        rw [slot_arg 0 pu (by omega)]
        simp only [IntKind.wrap_u32]
        omega)) (Lib.hid (laid_bad la pu g))
    (Lib.hid (fun W F' h1 h2 => by
      have hL := ring_store_ok h1 (reg_step hr h2 hrf).1 (2147484164 + 8 * (pu % 4)) 4 hd _ 4 _ rfl rfl rfl (by omega) (by omega) (.inr (.inr rfl)) (by omega) (by omega)
      rw [show 2147484164 + 8 * (pu % 4) - 2147483648 = 516 + 8 * (pu % 4) by omega] at hL
      exact hL))
    (Lib.hid (fun W F' h1 h2 => by
      have hL := ring_store_ok h1 (reg_step hr h2 hrf).1 (2147484168 + 8 * (pu % 4)) 4 n ((((2147484164 + 8 * (pu % 4) : Nat) : Int) + 4) % 4294967296) 4 _ (by omega) rfl rfl (by omega) (by omega) (.inr (.inr rfl)) (by rw [store_n]; omega) (by omega)
      rw [show 2147484168 + 8 * (pu % 4) - 2147483648 = 520 + 8 * (pu % 4) by omega] at hL
      exact hL))
    (Lib.hid (fun W F' h1 h2 => by
      have hL := ring_store_ok h1 (reg_step hr h2 hrf).1 2147484162 2 (pu + 1) ((((2147484160 : Nat) : Int) + 2) % 4294967296) 2 _ (by decide) rfl rfl (by omega) (by omega) (.inr (.inl rfl)) (by rw [store_n, store_n]; omega) (by omega)
      rw [show 2147484162 - 2147483648 = 514 by omega] at hL
      exact hL))
/-- The chains that are offered, and not taken: where their heads stand. -/
structure RingSt (m : Mm) (hs : Nat → Nat) (t o : Nat) : Prop where
  n : m.n = 2
  le : t ≤ o
  ub : o ≤ t + 4
  c : gp m.f 258 2 = o
  at_ : ∀ j, t ≤ j → j < o → gp m.f (260 + 2 * (j % 4)) 2 = hs j % 4
theorem RingSt.offer {m : Mm} {hs : Nat → Nat} {t o : Nat} (h : RingSt m hs t o) (ho : o - t < 4) (h60 : o < 60000) : RingSt ((m.store (260 + 2 * (o % 4)) 2 (hs o % 4)).store 258 2 (o + 1)) hs t (o + 1) where
  n := h.n
  le := by have := h.le; omega
  ub := by have := h.le; omega
  c := by rw [store_f]; exact gp_put2 _ _ _ (by omega)
  at_ := fun j h1 h2 => by
    rw [gp_store_out _ _ _ _ _ _ (by omega)]
    by_cases hj : j = o
    · subst hj
      rw [store_f]
      exact gp_put2 _ _ _ (by omega)
    · rw [gp_store_out _ _ _ _ _ _ (by omega)]
      exact h.at_ j h1 (by omega)
theorem RingSt.took {m : Mm} {hs : Nat → Nat} {t o : Nat} (h : RingSt m hs t o) (ht : t < o) (pu hd n : Nat) (h5 : pu < 60000) : RingSt (gaveM m pu hd n) hs (t + 1) o where
  n := h.n
  le := ht
  ub := by have := h.ub; omega
  c := by
    unfold gaveM
    rw [gp_store_out _ _ _ _ _ _ (by omega), gp_store_out _ _ _ _ _ _ (by omega), gp_store_out _ _ _ _ _ _ (by omega)]
    exact h.c
  at_ := fun j h1 h2 => by
    unfold gaveM
    rw [gp_store_out _ _ _ _ _ _ (by omega), gp_store_out _ _ _ _ _ _ (by omega), gp_store_out _ _ _ _ _ _ (by omega)]
    exact h.at_ j (by omega) h2
theorem gave_read (m : Mm) (pu hd n : Nat) (h4 : hd < 4) (hn : n < 65536) (hp : pu < 60000) : gp (gaveM m pu hd n).f (516 + 8 * (pu % 4)) 4 = hd ∧ gp (gaveM m pu hd n).f (520 + 8 * (pu % 4)) 4 = n ∧ gp (gaveM m pu hd n).f 514 2 = pu + 1 := by
  unfold gaveM
  refine ⟨?_, ?_, ?_⟩
  · rw [gp_store_out _ _ _ _ _ _ (by omega), gp_store_out _ _ _ _ _ _ (by omega), store_f]
    exact gp_put4 _ _ _ (by omega)
  · rw [gp_store_out _ _ _ _ _ _ (by omega), store_f]
    exact gp_put4 _ _ _ (by omega)
  · rw [store_f]
    exact gp_put2 _ _ _ (by omega)
end Go.Proofs.YtcakcfeipfjmpaaDoor
