/-
Push and Pop of every queue, the program's and the document's, in one contract each.
Condition: the package's table of regions reads as its text lays it.
-/
import Derived.Test.YtcmbnkmbaghkdaaDoorBusSame
import Derived.Test.YtcmbnkmbaghkdaaDoorBus7Sure
namespace Go.Proofs.YtcmbnkmbaghkdaaDoor
open Go.RowKit
set_option linter.unusedVariables false

def pushN (l : List Pst) (p : Pst) : Nat := if queueOk l ∧ p.may then (if l.length = 8 then 10 else 0) else 1
def pushL (l : List Pst) (p : Pst) : List Pst := if queueOk l ∧ p.may ∧ l.length ≠ 8 then l ++ [p] else []
def popN (l : List Pst) : Nat := if queueOk l then (if l.length = 0 then 8 else 0) else 1
def popL (l : List Pst) : List Pst := if queueOk l then l.tail else []
def popP (l : List Pst) : Pst := if queueOk l then (l.head?).getD ⟨0, 0, 0, 0⟩ else ⟨0, 0, 0, 0⟩
theorem push_full_e {l : List Pst} {p : Pst} (hq : queueOk l) (hm : p.may) (h8 : l.length = 8) : pushN l p = 10 ∧ pushL l p = [] := ⟨by unfold pushN; rw [if_pos ⟨hq, hm⟩, if_pos h8], by unfold pushL; exact if_neg (fun h => h.2.2 h8)⟩
theorem push_ok_e {l : List Pst} {p : Pst} (hq : queueOk l) (hm : p.may) (h8 : ¬ l.length = 8) : pushN l p = 0 ∧ pushL l p = l ++ [p] := ⟨by unfold pushN; rw [if_pos ⟨hq, hm⟩, if_neg h8], by unfold pushL; exact if_pos ⟨hq, hm, h8⟩⟩
theorem push_bad_e {l : List Pst} {p : Pst} (h : ¬ (queueOk l ∧ p.may)) : pushN l p = 1 ∧ pushL l p = [] := ⟨by unfold pushN; rw [if_neg h], by unfold pushL; exact if_neg (fun hh => h ⟨hh.1, hh.2.1⟩)⟩
theorem pop_bad_e {l : List Pst} (hq : ¬ queueOk l) : popN l = 1 ∧ popL l = [] ∧ popP l = ⟨0, 0, 0, 0⟩ := ⟨by unfold popN; rw [if_neg hq], by unfold popL; rw [if_neg hq], by unfold popP; rw [if_neg hq]⟩
theorem pop_nil_e (hq : queueOk []) : popN [] = 8 ∧ popL [] = [] ∧ popP [] = ⟨0, 0, 0, 0⟩ := ⟨by unfold popN; rw [if_pos hq]; rfl, by unfold popL; rw [if_pos hq]; rfl, by unfold popP; rw [if_pos hq]; rfl⟩
theorem pop_cons_e {p : Pst} {l : List Pst} (hq : queueOk (p :: l)) : popN (p :: l) = 0 ∧ popL (p :: l) = l ∧ popP (p :: l) = p := ⟨by unfold popN; rw [if_pos hq, if_neg (by simp)], by unfold popL; rw [if_pos hq]; rfl, by unfold popP; rw [if_pos hq]; rfl⟩
theorem bus_Push_gen (ao : Option Addr) (l : List Pst) (cap : Nat) (p : Pst) (w : World) (hp : PostsAt w ao l) (hr : RegAt w) (hl : l.length ≤ 200) (hno : ao = none → l.length = 0 ∧ cap = 0) (hcap : l.length ≤ cap) :
    Calls Tryd.prog 9 #[.agg #[.slice ao l.length cap], .agg #[.int .i64 p.dev, .int .u32 p.at_, .int .i64 p.n, .int .u32 p.val]] w fun e w' => (∃ ao' cap', e = .returned (.tuple #[.agg #[.slice ao' (pushL l p).length cap'], errV (pushN l p)]) ∧ PostsAt w' ao' (pushL l p)) ∧ Below w.heap.size w w' := by
  by_cases hq : queueOk l
  · by_cases hm : p.may
    · by_cases h8 : l.length = 8
      · rw [(push_full_e hq hm h8).1, (push_full_e hq hm h8).2, errV_val (by omega)]
        refine (push_full ao l cap p w hp (by omega) hr hq hm h8).mono ?_
        rintro e w' ⟨rfl, hb⟩
        exact ⟨⟨none, 0, rfl, posts_nil _ _⟩, hb⟩
      · rw [(push_ok_e hq hm h8).1, (push_ok_e hq hm h8).2]
        refine (push_ok ao l cap p w hp (by omega) hr hq hm (by have := hq.1; omega) hno hcap).mono ?_
        rintro e w' ⟨⟨g, cap', rfl, hg, hc, hpp⟩, hb⟩
        exact ⟨⟨_, cap', by rw [List.length_append]; rfl, hpp⟩, hb⟩
    · rw [(push_bad_e (fun h => hm h.2)).1, (push_bad_e (fun h => hm h.2)).2, errV_val (by omega)]
      refine (push_bad2 ao l cap p w hp (by omega) hr hq hm).mono ?_
      rintro e w' ⟨rfl, hb⟩
      exact ⟨⟨none, 0, rfl, posts_nil _ _⟩, hb⟩
  · rw [(push_bad_e (p := p) (fun h => hq h.1)).1, (push_bad_e (p := p) (fun h => hq h.1)).2, errV_val (by omega)]
    refine (push_bad1 ao l cap p w hp (by omega) hr hq).mono ?_
    rintro e w' ⟨rfl, hb⟩
    exact ⟨⟨none, 0, rfl, posts_nil _ _⟩, hb⟩
theorem ref7_Push_gen (ao : Option Addr) (l : List Pst) (cap : Nat) (p : Pst) (w : World) (hp : PostsAt w ao l) (hwf : ∀ (k : Nat) (q : Pst), l[k]? = some q → q.wf) (hpw : p.wf) (hl : l.length ≤ 200) (hno : ao = none → l.length = 0 ∧ cap = 0) (hcap : l.length ≤ cap) :
    Calls Tryd.prog 10 #[.agg #[.slice ao l.length cap], .agg #[.int .i64 p.dev, .int .u32 p.at_, .int .i64 p.n, .int .u32 p.val]] w fun e w' => (∃ ao' cap', e = .returned (.tuple #[.agg #[.slice ao' (pushL l p).length cap'], .int .i64 (pushN l p : Nat)]) ∧ PostsAt w' ao' (pushL l p)) ∧ Below w.heap.size w w' := by
  by_cases hq : queueOk l
  · by_cases hm : p.may
    · by_cases h8 : l.length = 8
      · rw [(push_full_e hq hm h8).1, (push_full_e hq hm h8).2]
        refine (ref7_push_full ao l cap p w hp (by omega) hwf hpw hq hm h8).mono ?_
        rintro e w' ⟨rfl, hb⟩
        exact ⟨⟨none, 0, rfl, posts_nil _ _⟩, hb⟩
      · rw [(push_ok_e hq hm h8).1, (push_ok_e hq hm h8).2]
        refine (ref7_push_ok ao l cap p w hp (by omega) hwf hpw hq hm (by have := hq.1; omega) hno hcap).mono ?_
        rintro e w' ⟨⟨g, cap', rfl, hg, hc, hpp⟩, hb⟩
        exact ⟨⟨_, cap', by rw [List.length_append]; rfl, hpp⟩, hb⟩
    · rw [(push_bad_e (fun h => hm h.2)).1, (push_bad_e (fun h => hm h.2)).2]
      refine (ref7_push_bad2 ao l cap p w hp (by omega) hwf hpw hq hm).mono ?_
      rintro e w' ⟨rfl, hb⟩
      exact ⟨⟨none, 0, rfl, posts_nil _ _⟩, hb⟩
  · rw [(push_bad_e (p := p) (fun h => hq h.1)).1, (push_bad_e (p := p) (fun h => hq h.1)).2]
    refine (ref7_push_bad1 ao l cap p w hp (by omega) hwf hpw hq).mono ?_
    rintro e w' ⟨rfl, hb⟩
    exact ⟨⟨none, 0, rfl, posts_nil _ _⟩, hb⟩
theorem bus_Pop_gen (ao : Option Addr) (l : List Pst) (cap : Nat) (w : World) (hp : PostsAt w ao l) (hr : RegAt w) (hl : l.length ≤ 200) (hcap : l.length ≤ cap) :
    Calls Tryd.prog 11 #[.agg #[.slice ao l.length cap]] w fun e w' => (∃ ao' cap', e = .returned (.tuple #[.agg #[.slice ao' (popL l).length cap'], .agg #[.int .i64 (popP l).dev, .int .u32 (popP l).at_, .int .i64 (popP l).n, .int .u32 (popP l).val], errV (popN l)]) ∧ PostsAt w' ao' (popL l)) ∧ Below w.heap.size w w' := by
  by_cases hq : queueOk l
  · cases l with
    | nil =>
      rw [(pop_nil_e hq).1, (pop_nil_e hq).2.1, (pop_nil_e hq).2.2, errV_val (by omega)]
      refine (pop_empty ao cap w hr).mono ?_
      rintro e w' ⟨rfl, hb⟩
      exact ⟨⟨none, 0, rfl, posts_nil _ _⟩, hb⟩
    | cons p l =>
      rw [(pop_cons_e hq).1, (pop_cons_e hq).2.1, (pop_cons_e hq).2.2]
      obtain ⟨b, o, rfl, _⟩ := hp 0 p rfl
      rw [List.length_cons] at hcap ⊢
      by_cases hc : cap = 1
      · refine (pop_ok_one b o p l cap w hp hr hq hcap hc).mono ?_
        rintro e w' ⟨⟨g, cap', rfl, _, _, hpp⟩, hb⟩
        exact ⟨⟨_, cap', rfl, hpp⟩, hb⟩
      · refine (pop_ok_more b o p l cap w hp hr hq hcap hc).mono ?_
        rintro e w' ⟨⟨g, cap', rfl, _, _, hpp⟩, hb⟩
        exact ⟨⟨_, cap', rfl, hpp⟩, hb⟩
  · rw [(pop_bad_e hq).1, (pop_bad_e hq).2.1, (pop_bad_e hq).2.2, errV_val (by omega)]
    refine (pop_bad ao l cap w hp (by omega) hr hq).mono ?_
    rintro e w' ⟨rfl, hb⟩
    exact ⟨⟨none, 0, rfl, posts_nil _ _⟩, hb⟩
theorem ref7_Pop_gen (ao : Option Addr) (l : List Pst) (cap : Nat) (w : World) (hp : PostsAt w ao l) (hwf : ∀ (k : Nat) (q : Pst), l[k]? = some q → q.wf) (hl : l.length ≤ 200) (hcap : l.length ≤ cap) :
    Calls Tryd.prog 12 #[.agg #[.slice ao l.length cap]] w fun e w' => (∃ ao' cap', e = .returned (.tuple #[.agg #[.slice ao' (popL l).length cap'], .agg #[.int .i64 (popP l).dev, .int .u32 (popP l).at_, .int .i64 (popP l).n, .int .u32 (popP l).val], .int .i64 (popN l : Nat)]) ∧ PostsAt w' ao' (popL l)) ∧ Below w.heap.size w w' := by
  by_cases hq : queueOk l
  · cases l with
    | nil =>
      rw [(pop_nil_e hq).1, (pop_nil_e hq).2.1, (pop_nil_e hq).2.2]
      refine (ref7_pop_empty ao cap w hp).mono ?_
      rintro e w' ⟨rfl, hb⟩
      exact ⟨⟨none, 0, rfl, posts_nil _ _⟩, hb⟩
    | cons p l =>
      rw [(pop_cons_e hq).1, (pop_cons_e hq).2.1, (pop_cons_e hq).2.2]
      refine (ref7_Pop ao p l cap w hp hwf hq hcap).mono ?_
      rintro e w' ⟨⟨ao', cap', rfl, hpp⟩, hb⟩
      exact ⟨⟨_, cap', rfl, hpp⟩, hb⟩
  · rw [(pop_bad_e hq).1, (pop_bad_e hq).2.1, (pop_bad_e hq).2.2]
    refine (ref7_pop_bad ao l cap w hp hwf hq).mono ?_
    rintro e w' ⟨rfl, hb⟩
    exact ⟨⟨none, 0, rfl, posts_nil _ _⟩, hb⟩
end Go.Proofs.YtcmbnkmbaghkdaaDoor
