/-
nic's works, chain and give for every state and memory.
Condition: the table of regions of package bus reads as its text lays it.
-/
import Derived.Test.YtcmbnkmbaghkdaaDoorNicGive
namespace Go.Proofs.YtcmbnkmbaghkdaaDoor
open Go.RowKit
set_option linter.unusedVariables false

theorem NS.p_list (s : NS) : ∀ (j : Nat) v, s.p.c.toList[j]? = some v → s.c[0 + j]? = some v := fun j v hv => by
  rw [Nat.zero_add, ← hv]
  have hj : j < 21 := (List.getElem?_eq_some_iff.1 hv).1
  match j, hj with
  | 0, _ => rfl
  | 1, _ => rfl
  | 2, _ => rfl
  | 3, _ => rfl
  | 4, _ => rfl
  | 5, _ => rfl
  | 6, _ => rfl
  | 7, _ => rfl
  | 8, _ => rfl
  | 9, _ => rfl
  | 10, _ => rfl
  | 11, _ => rfl
  | 12, _ => rfl
  | 13, _ => rfl
  | 14, _ => rfl
  | 15, _ => rfl
  | 16, _ => rfl
  | 17, _ => rfl
  | 18, _ => rfl
  | 19, _ => rfl
  | 20, _ => rfl
  | j + 21, h => omega
theorem NS.ra_list (s : NS) : ∀ (j : Nat) v, s.p.a.rg.c.toList[j]? = some v → s.c[8 + j]? = some v := fun j v hv => by
  rw [← hv]
  have hj : j < 6 := (List.getElem?_eq_some_iff.1 hv).1
  match j, hj with
  | 0, _ => rfl
  | 1, _ => rfl
  | 2, _ => rfl
  | 3, _ => rfl
  | 4, _ => rfl
  | 5, _ => rfl
  | j + 6, h => omega
theorem NS.rb_list (s : NS) : ∀ (j : Nat) v, s.p.b.rg.c.toList[j]? = some v → s.c[15 + j]? = some v := fun j v hv => by
  rw [← hv]
  have hj : j < 6 := (List.getElem?_eq_some_iff.1 hv).1
  match j, hj with
  | 0, _ => rfl
  | 1, _ => rfl
  | 2, _ => rfl
  | 3, _ => rfl
  | 4, _ => rfl
  | 5, _ => rfl
  | j + 6, h => omega
theorem nic_works (s : NS) (one : Bool) (hs : s.p.st < 4294967296) (g : Nat) (w : World) :
    Calls Tryd.prog 41 #[.agg s.c, .int .i64 (qN one : Nat), .pointer (some ⟨g, 0, none⟩)] w fun e w' => e = .returned (.bool (decide (s.works one))) ∧ Below w.heap.size w w' := by
  have e : decide (s.works one) = (decide s.p.live && (s.q one).rdy) := by
    apply Bool.eq_iff_iff.2
    rw [decide_eq_true_iff, Bool.and_eq_true, decide_eq_true_iff]
    exact Iff.rfl
  rw [e]
  have HL : ∀ W, Calls Tryd.prog 57 #[.agg s.p.c.toList.toArray] W fun e w' => e = .returned (.bool (decide s.p.live)) ∧ Below W.heap.size W w' := fun W => by
    rw [Array.toArray_toList]
    exact vs_Live s.p hs W
  cases one
  · exact nic_works0 s.c s.p.c.toList (decide s.p.live) s.p.a.rdy g w rfl rfl rfl s.p_list (Lib.hid HL)
  · exact nic_works1 s.c s.p.c.toList (decide s.p.live) s.p.b.rdy g w rfl rfl rfl s.p_list (Lib.hid HL)
def chainR (q : Rg) (m : Mm) : Array Value × Int × List Sg × Bool × Value :=
  match rnext q m with
  | none => (Rg.zero.c, 0, [], false, errV (errR q))
  | some none => (q.c, 0, [], false, .nilIface)
  | some (some h) => (q.took.c, (h : Int), (rwalk q.de q.size.toNat m h).getD [], true, errV (if (rwalk q.de q.size.toNat m h).isSome then 0 else 22))
theorem rnext_ok {q : Rg} {m : Mm} {x : Option Nat} (h : rnext q m = some x) : q.okP := by
  unfold rnext at h
  split at h
  · assumption
  · cases h
theorem rnext_lt {q : Rg} {m : Mm} {hd : Nat} (h : rnext q m = some (some hd)) : (hd : Int) < q.size := by
  have hok := rnext_ok h
  obtain ⟨h1, _⟩ := hok
  unfold rnext at h
  rw [if_pos (rnext_ok (by unfold rnext; exact h))] at h
  split at h
  · cases h
  · split at h
    · cases h
    · split at h
      · cases h
      · split at h
        · cases h
        · split at h
          · rename_i hlt
            obtain rfl : _ = hd := by simpa using h
            omega
          · cases h
theorem took_ok {q : Rg} (h : q.okP) : q.took.okP := h
theorem nic_chain {g : Nat} {m : Mm} {F : Nat → Prop} {w : World} (s : NS) (one : Bool) (hs : (s.q one).wf) (h : RamIs w g m F) (hr : RegAt w) (hrf : ¬ F 0) :
    Calls Tryd.prog 42 #[.agg s.c, .int .i64 (qN one : Nat), .pointer (some ⟨g, 0, none⟩)] w (ChainPost w g m F (chainR (s.q one).rg m).1 (chainR (s.q one).rg m).2.1 (chainR (s.q one).rg m).2.2.1 (chainR (s.q one).rg m).2.2.2.1 (chainR (s.q one).rg m).2.2.2.2) := by
  have hq := VQ.rg_wf hs
  have HN : ∀ W F', RamIs W g m F' → MemStep F F' w W → Calls Tryd.prog 78 #[.agg (s.q one).rg.c.toList.toArray, .pointer (some ⟨g, 0, none⟩)] W fun e w' => ∃ F2, e = .returned (nextV (s.q one).rg (rnext (s.q one).rg m)) ∧ RamIs w' g m F2 ∧ MemStep F' F2 W w' := fun W F' a b => by
    rw [Array.toArray_toList]
    exact ring_Next_all _ hq a (reg_step hr b hrf).1 (reg_step hr b hrf).2
  have hlist : ∀ (j : Nat) v, (s.q one).rg.c.toList[j]? = some v → s.c[(if one then 15 else 8) + j]? = some v := by
    cases one
    · exact s.ra_list
    · exact s.rb_list
  unfold chainR
  cases hx : rnext (s.q one).rg m with
  | none =>
    rw [hx] at HN
    have hv : errV (errR (s.q one).rg) = .iface 104 (.int .i64 (errR (s.q one).rg : Nat)) := errV_val (by unfold errR; split <;> omega)
    simp only
    unfold nextV at HN
    rw [hv] at HN ⊢
    cases one
    · exact chain0_err s.c Rg.zero.c _ 0 _ h rfl hlist rfl (Rg.c_one _) (Lib.hid HN)
    · exact chain1_err s.c Rg.zero.c _ 0 _ h rfl hlist rfl (Rg.c_one _) (Lib.hid HN)
  | some x =>
    cases x with
    | none =>
      rw [hx] at HN
      cases one
      · exact chain0_none s.c _ _ 0 h rfl hlist rfl (Rg.c_one _) (Lib.hid HN)
      · exact chain1_none s.c _ _ 0 h rfl hlist rfl (Rg.c_one _) (Lib.hid HN)
    | some hd =>
      rw [hx] at HN
      have hok := rnext_ok hx
      obtain ⟨k1, k2, k3, k4, k5, k6⟩ := hok
      obtain ⟨n, hn⟩ : ∃ n : Nat, (s.q one).rg.size = (n : Int) := ⟨(s.q one).rg.size.toNat, by omega⟩
      have hnn : (s.q one).rg.size.toNat = n := by omega
      have hc : (s.q one).rg.took.c = #[.int .i64 n, .int .u32 (s.q one).rg.de, .int .u32 (s.q one).rg.av, .int .u32 (s.q one).rg.us, .int .u16 (((s.q one).rg.la + 1) % 65536 : Nat), .int .u16 (s.q one).rg.pu] := by unfold Rg.took Rg.c; rw [hn]
      have HW : ∀ W F', RamIs W g m F' → MemStep F F' w W → Calls Tryd.prog 79 #[.agg (s.q one).rg.took.c, .pointer (some ⟨g, 0, none⟩), .int .i64 (hd : Nat)] W (WalkPost W g m F' (rwalk (s.q one).rg.de (s.q one).rg.size.toNat m hd)) := fun W F' a b => by
        have hb := fun W => ring_bad (s.q one).rg.took g W
        rw [if_pos (show (s.q one).rg.took.okP from ⟨k1, k2, k3, k4, k5, k6⟩)] at hb
        have hb' : ∀ W, Calls Tryd.prog 110 #[.agg (s.q one).rg.took.c, .pointer (some ⟨g, 0, none⟩)] W fun e w' => e = .returned .nilIface ∧ Below W.heap.size W w' := hb
        rw [hc] at hb' ⊢
        rw [hnn]
        exact ring_Walk_ok n _ _ _ _ _ hd a (reg_step hr b hrf).1 (reg_step hr b hrf).2 (by omega) (by omega) hq.hde k4 (Lib.hid hb')
      cases one
      · exact chain0_walk s.c _ _ hd _ _ rfl h rfl hlist rfl (Rg.c_one _) (Lib.hid HN) (Lib.hid HW)
      · exact chain1_walk s.c _ _ hd _ _ rfl h rfl hlist rfl (Rg.c_one _) (Lib.hid HN) (Lib.hid HW)
/-- The state behind a chain given back. -/
def NS.gave (s : NS) (one ok : Bool) : NS := if ok then (let s1 := s.setR one (s.q one).rg.gave; { s1 with p := s1.p.used }) else { s with p := s.p.fail }
theorem rowPut_get (vs : List Value) : ∀ (d : Array Value) (o j : Nat), o + vs.length ≤ d.size → (rowPut d o vs)[j]? = if o ≤ j ∧ j < o + vs.length then vs[j - o]? else d[j]? := by
  induction vs with
  | nil => intro d o j _; rw [if_neg (by simp only [List.length_nil]; omega)]; rfl
  | cons v r ih =>
    intro d o j hs
    rw [List.length_cons] at hs
    rw [rowPut, ih _ _ _ (by simp; omega)]
    by_cases h1 : o + 1 ≤ j ∧ j < o + 1 + r.length
    · rw [if_pos h1, if_pos (by simp; omega)]
      obtain ⟨k, rfl⟩ : ∃ k, j = o + 1 + k := ⟨j - (o + 1), by omega⟩
      rw [show o + 1 + k - (o + 1) = k by omega, show o + 1 + k - o = k + 1 by omega, List.getElem?_cons_succ]
    · rw [if_neg h1, Array.getElem?_setIfInBounds]
      by_cases h2 : o = j
      · subst h2
        rw [if_pos rfl, if_pos (by omega), if_pos (by simp), Nat.sub_self]; rfl
      · rw [if_neg h2, if_neg (by simp; omega)]
theorem row23 {a b : Array Value} (ha : a.size = 23) (hb : b.size = 23) (h : ∀ j, j < 23 → a[j]? = b[j]?) : a = b := by
  apply Array.ext_getElem?
  intro j
  by_cases hj : j < 23
  · exact h j hj
  · rw [Array.getElem?_eq_none (by omega), Array.getElem?_eq_none (by omega)]
theorem put_p (s : NS) (p : VS) : rowPut s.c 0 p.c.toList = ({ s with p := p } : NS).c := row23 (by rw [rowPut_size]; rfl) rfl fun j hj => by
  rw [rowPut_get _ _ _ _ (by show 0 + 21 ≤ 23; omega)]
  match j, hj with
  | 0, _ => rfl
  | 1, _ => rfl
  | 2, _ => rfl
  | 3, _ => rfl
  | 4, _ => rfl
  | 5, _ => rfl
  | 6, _ => rfl
  | 7, _ => rfl
  | 8, _ => rfl
  | 9, _ => rfl
  | 10, _ => rfl
  | 11, _ => rfl
  | 12, _ => rfl
  | 13, _ => rfl
  | 14, _ => rfl
  | 15, _ => rfl
  | 16, _ => rfl
  | 17, _ => rfl
  | 18, _ => rfl
  | 19, _ => rfl
  | 20, _ => rfl
  | 21, _ => rfl
  | 22, _ => rfl
  | j + 23, h => omega
theorem put_ra (s : NS) (r : Rg) : rowPut s.c 8 r.c.toList = (s.setR false r).c := row23 (by rw [rowPut_size]; rfl) rfl fun j hj => by
  rw [rowPut_get _ _ _ _ (by show 8 + 6 ≤ 23; omega)]
  match j, hj with
  | 0, _ => rfl
  | 1, _ => rfl
  | 2, _ => rfl
  | 3, _ => rfl
  | 4, _ => rfl
  | 5, _ => rfl
  | 6, _ => rfl
  | 7, _ => rfl
  | 8, _ => rfl
  | 9, _ => rfl
  | 10, _ => rfl
  | 11, _ => rfl
  | 12, _ => rfl
  | 13, _ => rfl
  | 14, _ => rfl
  | 15, _ => rfl
  | 16, _ => rfl
  | 17, _ => rfl
  | 18, _ => rfl
  | 19, _ => rfl
  | 20, _ => rfl
  | 21, _ => rfl
  | 22, _ => rfl
  | j + 23, h => omega
theorem put_rb (s : NS) (r : Rg) : rowPut s.c 15 r.c.toList = (s.setR true r).c := row23 (by rw [rowPut_size]; rfl) rfl fun j hj => by
  rw [rowPut_get _ _ _ _ (by show 15 + 6 ≤ 23; omega)]
  match j, hj with
  | 0, _ => rfl
  | 1, _ => rfl
  | 2, _ => rfl
  | 3, _ => rfl
  | 4, _ => rfl
  | 5, _ => rfl
  | 6, _ => rfl
  | 7, _ => rfl
  | 8, _ => rfl
  | 9, _ => rfl
  | 10, _ => rfl
  | 11, _ => rfl
  | 12, _ => rfl
  | 13, _ => rfl
  | 14, _ => rfl
  | 15, _ => rfl
  | 16, _ => rfl
  | 17, _ => rfl
  | 18, _ => rfl
  | 19, _ => rfl
  | 20, _ => rfl
  | 21, _ => rfl
  | 22, _ => rfl
  | j + 23, h => omega
theorem nic_give {g b : Nat} {m : Mm} {F : Nat → Prop} {w : World} (s : NS) (one : Bool) (hs : s.p.wf) (hd n : Nat) (hok : (s.q one).rg.okP) (hdl : (hd : Int) < (s.q one).rg.size) (hn : n < 2147483648) (h : RamIs w g m F) (hr : RegAt w) (hrf : ¬ F 0) (hk : w.heap[b]? = some (.cells s.c 75 (0, 0))) (hfb : ¬ F b) :
    Calls Tryd.prog 45 #[.pointer (some ⟨b, 0, none⟩), .int .i64 (qN one : Nat), .pointer (some ⟨g, 0, none⟩), .int .i64 hd, .int .i64 n] w fun e w' => ∃ F2, e = .returned (.bool (rgive (s.q one).rg m hd n).1) ∧ RamIs w' g (rgive (s.q one).rg m hd n).2 F2 ∧ (∀ k, F2 k → F k ∨ w.heap.size ≤ k) ∧ KX (fun k => F k ∨ k = b) w w' ∧ w'.heap[b]? = some (.cells (s.gave one (rgive (s.q one).rg m hd n).1).c 75 (0, 0)) := by
  have hq : (s.q one).wf := by cases one; exact hs.ha; exact hs.hb
  have HG : ∀ W F', RamIs W g m F' → MemStep F F' w W → Calls Tryd.prog 81 #[.agg (s.q one).rg.c.toList.toArray, .pointer (some ⟨g, 0, none⟩), .int .i64 hd, .int .u32 n] W fun e w' => ∃ F2, e = .returned (giveV (s.q one).rg (rgive (s.q one).rg m hd n).1) ∧ RamIs w' g (rgive (s.q one).rg m hd n).2 F2 ∧ MemStep F' F2 W w' := fun W F' x y => by
    rw [Array.toArray_toList]
    exact ring_Give_all _ (VQ.rg_wf hq) hok hd n n rfl hdl x (reg_step hr y hrf).1 (reg_step hr y hrf).2
  cases hg : (rgive (s.q one).rg m hd n).1
  · rw [hg] at HG
    have HU : ∀ W, Calls Tryd.prog 44 #[.agg s.p.c.toList.toArray] W fun e w' => e = .returned (.agg s.p.fail.c) ∧ Below W.heap.size W w' := fun W => by
      rw [Array.toArray_toList]
      exact vs_Fail s.p hs.hst hs.hirq W
    show Calls _ _ _ _ fun e w' => ∃ F2, _ ∧ _ ∧ _ ∧ _ ∧ w'.heap[b]? = some (.cells ({ s with p := s.p.fail } : NS).c _ _)
    rw [← put_p]
    cases one
    · exact give0_no s.c s.p.fail.c _ s.p.c.toList hd n h hk hfb rfl hn rfl s.ra_list rfl s.p_list rfl (VS.c_one _) (Lib.hid HG) (Lib.hid HU)
    · exact give1_no s.c s.p.fail.c _ s.p.c.toList hd n h hk hfb rfl hn rfl s.rb_list rfl s.p_list rfl (VS.c_one _) (Lib.hid HG) (Lib.hid HU)
  · rw [hg] at HG
    have HU : ∀ W, Calls Tryd.prog 82 #[.agg (s.setR one (s.q one).rg.gave).p.c.toList.toArray] W fun e w' => e = .returned (.agg (s.setR one (s.q one).rg.gave).p.used.c) ∧ Below W.heap.size W w' := fun W => by
      rw [Array.toArray_toList]
      refine vs_Used _ ?_ W
      cases one <;> exact hs.hirq
    show Calls _ _ _ _ fun e w' => ∃ F2, _ ∧ _ ∧ _ ∧ _ ∧ w'.heap[b]? = some (.cells ({ s.setR one (s.q one).rg.gave with p := (s.setR one (s.q one).rg.gave).p.used } : NS).c _ _)
    rw [← put_p]
    cases one
    · exact give0_ok s.c _ _ _ hd n _ rfl (Rg.c_one _) _ (put_ra _ _) h hk hfb rfl hn rfl s.ra_list rfl (NS.p_list _) rfl (VS.c_one _) (Lib.hid HG) (Lib.hid HU)
    · exact give1_ok s.c _ _ _ hd n _ rfl (Rg.c_one _) _ (put_rb _ _) h hk hfb rfl hn rfl s.rb_list rfl (NS.p_list _) rfl (VS.c_one _) (Lib.hid HG) (Lib.hid HU)
end Go.Proofs.YtcmbnkmbaghkdaaDoor
