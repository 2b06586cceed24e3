/-
What nic's Send and Take keep, in plain Lean: a state that may be; how many frames, and how long.
No condition.
-/
import Derived.Test.YtcbjlpkkebcmjaaDoorNicTake
namespace Go.Proofs.YtcbjlpkkebcmjaaDoor
open Go.RowKit
set_option linter.unusedVariables false

theorem nor_and (a b c : Nat) : (a ||| b) &&& c = (a &&& c) ||| (b &&& c) := by
  apply Nat.eq_of_testBit_eq; intro i; simp only [Nat.testBit_and, Nat.testBit_or]; cases a.testBit i <;> cases b.testBit i <;> cases c.testBit i <;> rfl
theorem nm64 : 64 &&& (4294967295 - 207) = 0 := by decide +kernel
theorem nm64_8 : 64 &&& 8 = 0 := by decide +kernel
theorem nfail_ok (s : VS) (h : s.ok) : s.fail.ok := by
  obtain ⟨h1, h2, h3, h4, h5⟩ := h
  refine ⟨?_, ?_, h3, h4, fun h => h5 fun e => h ?_⟩
  · show (s.st ||| 64) &&& (4294967295 - 207) = 0
    rw [nor_and, h1, nm64]; rfl
  · show s.irq ||| 2 ≤ 3
    have : s.irq ||| 2 < 2 ^ 2 := Nat.or_lt_two_pow (by omega) (by omega)
    omega
  · show (s.st ||| 64) &&& 8 = 0
    rw [nor_and, e, nm64_8]; rfl
theorem nused_ok (s : VS) (h : s.ok) : s.used.ok := by
  obtain ⟨h1, h2, h3, h4, h5⟩ := h
  refine ⟨h1, ?_, h3, h4, h5⟩
  show s.irq ||| 1 ≤ 3
  have : s.irq ||| 1 < 2 ^ 2 := Nat.or_lt_two_pow (by omega) (by omega)
  omega
theorem took_may (q : VQ) (h : q.may) : (q.setR q.rg.took).may := by
  unfold VQ.may at *
  exact h
theorem gave_may (q : VQ) (h : q.may) : (q.setR q.rg.gave).may := by
  unfold VQ.may at *
  exact h
theorem took_sok (s : NS) (one : Bool) (h : s.p.ok) : (s.setR one (s.q one).rg.took).p.ok := by
  obtain ⟨h1, h2, h3, h4, h5⟩ := h
  cases one
  · exact ⟨h1, h2, took_may _ h3, h4, h5⟩
  · exact ⟨h1, h2, h3, took_may _ h4, h5⟩
theorem gave_sok (s : NS) (one ok : Bool) (h : s.p.ok) : (s.gave one ok).p.ok := by
  cases ok
  · exact nfail_ok _ h
  · obtain ⟨h1, h2, h3, h4, h5⟩ := h
    refine nused_ok _ ?_
    cases one
    · exact ⟨h1, h2, gave_may _ h3, h4, h5⟩
    · exact ⟨h1, h2, h3, gave_may _ h4, h5⟩
/-- What Send keeps, round by round. -/
theorem sendF_keeps : ∀ (k : Nat) (s : NS) (m : Mm) (acc : List (List UInt8)), s.p.ok → s.p.wf → (∀ x ∈ acc, 1 ≤ x.length ∧ x.length ≤ 1514) →
    (sendF k s m acc).1.p.ok ∧ (sendF k s m acc).1.p.wf ∧ (sendF k s m acc).1.lost = s.lost ∧ (sendF k s m acc).2.1.n = m.n ∧ (sendF k s m acc).2.2.length ≤ acc.length + k ∧ ∀ x ∈ (sendF k s m acc).2.2, 1 ≤ x.length ∧ x.length ≤ 1514
  | 0, s, m, acc, h1, h2, h3 => ⟨h1, h2, rfl, rfl, Nat.le_refl _, h3⟩
  | k + 1, s, m, acc, h1, h2, h3 => by
    have hf : (({ s with p := s.p.fail } : NS).p.ok ∧ ({ s with p := s.p.fail } : NS).p.wf ∧ ({ s with p := s.p.fail } : NS).lost = s.lost ∧ m.n = m.n ∧ acc.length ≤ acc.length + (k + 1) ∧ ∀ x ∈ acc, 1 ≤ x.length ∧ x.length ≤ 1514) := ⟨nfail_ok _ h1, VS.fail_wf h2, rfl, rfl, by omega, h3⟩
    cases hx : rnext s.p.b.rg m with
    | none => rw [show sendF (k + 1) s m acc = ({ s with p := s.p.fail }, m, acc) by unfold sendF; rw [hx]]; exact hf
    | some x =>
      cases x with
      | none => rw [show sendF (k + 1) s m acc = ({ s with bell := false }, m, acc) by unfold sendF; rw [hx]]; exact ⟨h1, h2, rfl, rfl, by show acc.length ≤ _; omega, h3⟩
      | some hd =>
        cases hw : rwalk s.p.b.de s.p.b.size.toNat m hd with
        | none => rw [show sendF (k + 1) s m acc = ({ s with p := s.p.fail }, m, acc) by unfold sendF; rw [hx]; simp only; rw [hw]]; exact hf
        | some l =>
          by_cases ho : (gath m l).length ≤ 12 ∨ 1526 < (gath m l).length
          · rw [show sendF (k + 1) s m acc = ({ s with p := s.p.fail }, m, acc) by unfold sendF; rw [hx]; simp only; rw [hw]; simp only; rw [if_pos ho]]; exact hf
          · rw [sendF_step k s m acc hx hw ho]
            have hl : ∀ x ∈ acc ++ [(gath m l).drop 12], 1 ≤ x.length ∧ x.length ≤ 1514 := fun x hm => by
              rcases List.mem_append.1 hm with hm | hm
              · exact h3 x hm
              · obtain rfl := List.mem_singleton.1 hm
                rw [List.length_drop]
                omega
            have hw2 : (s.setR true s.p.b.rg.took).p.wf := NS.setR_wf h2 (Rg.took_wf (VQ.rg_wf h2.hb))
            have hg := gave_sok (s.setR true s.p.b.rg.took) true (rgive s.p.b.rg.took m hd 0).1 (took_sok s true h1)
            have hgw := NS.gave_wf (one := true) (ok := (rgive s.p.b.rg.took m hd 0).1) hw2
            have hgl : ((s.setR true s.p.b.rg.took).gave true (rgive s.p.b.rg.took m hd 0).1).lost = s.lost := by rw [gave_lost, setR_lost]
            have hmn : (rgive s.p.b.rg.took m hd 0).2.n = m.n := rgive_n _ _ _ _
            cases hr : (rgive s.p.b.rg.took m hd 0).1 with
            | true =>
              rw [hr] at hg hgw hgl
              rw [if_pos rfl]
              have := sendF_keeps k _ (rgive s.p.b.rg.took m hd 0).2 _ hg hgw hl
              refine ⟨this.1, this.2.1, this.2.2.1.trans hgl, this.2.2.2.1.trans hmn, ?_, this.2.2.2.2.2⟩
              have h4 := this.2.2.2.2.1
              simp at h4
              omega
            | false =>
              rw [hr] at hg hgw hgl
              rw [if_neg (by simp)]
              exact ⟨hg, hgw, hgl, hmn, by simp, hl⟩
where
  rgive_n (q : Rg) (m : Mm) (hd n : Nat) : (rgive q m hd n).2.n = m.n := by
    unfold rgive
    simp only
    cases e1 : rstore m ((q.us + 4 + 8 * (q.pu % q.size.toNat)) % 4294967296) 4 hd with
    | none => rfl
    | some m1 =>
      simp only
      have f1 := rstore_n e1
      cases e2 : rstore m1 (((q.us + 4 + 8 * (q.pu % q.size.toNat)) % 4294967296 + 4) % 4294967296) 4 n with
      | none => exact f1
      | some m2 =>
        simp only
        have f2 := rstore_n e2
        cases e3 : rstore m2 ((q.us + 2) % 4294967296) 2 ((q.pu + 1) % 65536) with
        | none => exact f2.trans f1
        | some m3 => exact (rstore_n e3).trans (f2.trans f1)
theorem nsend_keeps (s : NS) (m : Mm) (h1 : s.p.ok) (h2 : s.p.wf) : (nsend s m).1.p.ok ∧ (nsend s m).1.p.wf ∧ (nsend s m).1.lost = s.lost ∧ (nsend s m).2.1.n = m.n ∧ (nsend s m).2.2.length ≤ 4 ∧ ∀ x ∈ (nsend s m).2.2, 1 ≤ x.length ∧ x.length ≤ 1514 := by
  unfold nsend
  split
  · have := sendF_keeps 4 s m [] h1 h2 (fun x hx => by simp at hx)
    simpa using this
  · exact ⟨h1, h2, rfl, rfl, by simp, fun x hx => by simp at hx⟩
theorem lose_lost (s : NS) : s.lose.lost = (s.lost + 1) % 4294967296 := rfl
/-- What Take keeps. -/
def TakeKept (s : NS) (R : NS × Mm × Bool × Nat) : Prop := R.2.2.2 = 0 ∧ R.1.p.ok ∧ R.1.p.wf ∧ R.1.lost = (if R.2.2.1 = true then s.lost else (s.lost + 1) % 4294967296)
theorem ntake_keeps (s : NS) (m : Mm) (fr : List UInt8) (h1 : s.p.ok) (h2 : s.p.wf) (hl : 1 ≤ fr.length ∧ fr.length ≤ 1514) : TakeKept s (ntake s m fr) := by
  have hlo : ∀ (z : NS) (mm : Mm), z.p.ok → z.p.wf → z.lost = s.lost → TakeKept s (z.lose, mm, false, 0) := fun z mm a b c => ⟨rfl, a, b, by rw [lose_lost, c]; rfl⟩
  unfold ntake
  rw [if_neg (by omega)]
  by_cases hw : s.works false
  · rw [if_neg (fun h => h hw)]
    cases hx : rnext s.p.a.rg m with
    | none => exact hlo { s with p := s.p.fail } m (nfail_ok _ h1) (VS.fail_wf h2) rfl
    | some x =>
      cases x with
      | none => exact hlo s m h1 h2 rfl
      | some hd =>
        simp only
        cases hw2 : rwalk s.p.a.de s.p.a.size.toNat m hd with
        | none => exact hlo { s with p := s.p.fail } m (nfail_ok _ h1) (VS.fail_wf h2) rfl
        | some l =>
          simp only
          have ht := took_sok s false h1
          have htw : (s.setR false s.p.a.rg.took).p.wf := NS.setR_wf h2 (Rg.took_wf (VQ.rg_wf h2.ha))
          by_cases hrm : roomW l < 12 + fr.length
          · rw [if_pos hrm]
            exact hlo _ _ (gave_sok _ false _ ht) (NS.gave_wf htw) (by rw [gave_lost, setR_lost])
          · rw [if_neg hrm]
            exact ⟨rfl, gave_sok _ false _ ht, NS.gave_wf htw, by rw [gave_lost, setR_lost]; rfl⟩
  · rw [if_pos hw]
    exact hlo s m h1 h2 rfl
end Go.Proofs.YtcbjlpkkebcmjaaDoor
