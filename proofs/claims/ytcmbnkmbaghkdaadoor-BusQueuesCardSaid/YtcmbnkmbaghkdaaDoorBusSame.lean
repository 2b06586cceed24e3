/-
pinnacelaw07.same, walked: two queues that hold the same writes are the same.
No condition.
-/
import Derived.Test.YtcmbnkmbaghkdaaDoorBusGive
namespace Go.Proofs.YtcmbnkmbaghkdaaDoor
open Go.RowKit
set_option linter.unusedVariables false

set_option maxRecDepth 100000 in
theorem post_equal (p : Pst) (w : World) : (Op.equalIn (9999 + 1) 37 (.agg #[.int .i64 p.dev, .int .u32 p.at_, .int .i64 p.n, .int .u32 p.val]) (.agg #[.int .i64 p.dev, .int .u32 p.at_, .int .i64 p.n, .int .u32 p.val])).run Tryd.prog w = .ok true w := by
  have h1 : (Op.equalIn 9999 3 (.int .i64 p.dev) (.int .i64 p.dev)).run Tryd.prog w = .ok true w := by
    show (Op.equalIn (9998 + 1) _ _ _).run Tryd.prog w = .ok true w
    generalize 9998 = d
    simp [Op.equalIn, go_sem]
  have h2 : (Op.equalIn 9999 3 (.int .i64 p.n) (.int .i64 p.n)).run Tryd.prog w = .ok true w := by
    show (Op.equalIn (9998 + 1) _ _ _).run Tryd.prog w = .ok true w
    generalize 9998 = d
    simp [Op.equalIn, go_sem]
  have h3 : ∀ x : Nat, (Op.equalIn 9999 25 (.int .u32 x) (.int .u32 x)).run Tryd.prog w = .ok true w := fun x => by
    show (Op.equalIn (9998 + 1) _ _ _).run Tryd.prog w = .ok true w
    generalize 9998 = d
    simp [Op.equalIn, go_sem]
  generalize 9999 = d at h1 h2 h3 ⊢
  simp [Op.equalIn, part, go_sem, h1, h2, h3]
theorem post_neq (p : Pst) (w : World) : (binOp BinOp.neq 37 (.agg #[.int .i64 p.dev, .int .u32 p.at_, .int .i64 p.n, .int .u32 p.val]) (.agg #[.int .i64 p.dev, .int .u32 p.at_, .int .i64 p.n, .int .u32 p.val])).run Tryd.prog w = .ok (.bool false) w := by
  have h2 : (Op.equalIn Op.maxDepth 37 (.agg #[.int .i64 p.dev, .int .u32 p.at_, .int .i64 p.n, .int .u32 p.val]) (.agg #[.int .i64 p.dev, .int .u32 p.at_, .int .i64 p.n, .int .u32 p.val])).run Tryd.prog w = .ok true w := post_equal p w
  simp [binOp, Op.equal, go_sem, h2]
theorem post_eql (p : Pst) (w : World) : (binOp BinOp.eql 37 (.agg #[.int .i64 p.dev, .int .u32 p.at_, .int .i64 p.n, .int .u32 p.val]) (.agg #[.int .i64 p.dev, .int .u32 p.at_, .int .i64 p.n, .int .u32 p.val])).run Tryd.prog w = .ok (.bool true) w := by
  have h2 : (Op.equalIn Op.maxDepth 37 (.agg #[.int .i64 p.dev, .int .u32 p.at_, .int .i64 p.n, .int .u32 p.val]) (.agg #[.int .i64 p.dev, .int .u32 p.at_, .int .i64 p.n, .int .u32 p.val])).run Tryd.prog w = .ok true w := post_equal p w
  simp [binOp, Op.equal, go_sem, h2]
theorem post_guard (b : BinOp) (x y : Operand) (f f' : Array Value) (w : World) : (eqGuard b 37 x y (.agg f) (.agg f')).run Tryd.prog w = .ok () w := by
  have h : Tryd.prog.eqGuardType Tryd.prog.depth 37 = false := by kernel_rfl
  cases b <;> simp [eqGuard, go_sem, h]
theorem yieldsIf_binB {P : Program} {ops : Array Oper} {S : World → Prop} {op : Oper} {a : Act} (hw : Region.wanted op (yielded ops a.tmps) = true) (b : BinOp) (t : TypeId) (x y : Operand) (t2 : TypeId) (ho : op.op = .binOp b t x y t2) (v vx vy : Value) (hx : a.eval x = vx) (hy : a.eval y = vy)
    (hg : ∀ w, (eqGuard b t x y vx vy).run P w = .ok () w) (h : ∀ w, (binOp b t vx vy).run P w = .ok v w) : YieldsIf P ops S op v a :=
  .inl ⟨hw, fun w _ => by
    subst hx hy
    unfold execOp
    simp only [ho, Sem.run_bind, Sem.run_pure, h, hg, Result.andThen_ok]⟩
theorem posts_row {w : World} {ao : Option Addr} {l : List Pst} (h : PostsAt w ao l) {k : Nat} {p : Pst} (hk : l[k]? = some p) : ∃ b o, ao = some ⟨b, o, none⟩ ∧ ∀ W, Below w.heap.size w W → W.rangeAt b (o + k * 4) [.int .i64 p.dev, .int .u32 p.at_, .int .i64 p.n, .int .u32 p.val] := by
  obtain ⟨b, o, ha, hb, c0, c1, c2, c3⟩ := h k p hk
  refine ⟨b, o, ha, fun W hW j v hj => ?_⟩
  match j, hj with
  | 0, hj => exact ((hW.cell (p := ⟨b, o + k * 4, none⟩) hb).trans c0).trans hj
  | 1, hj => exact ((hW.cell (p := ⟨b, o + k * 4 + 1, none⟩) hb).trans c1).trans hj
  | 2, hj => exact ((hW.cell (p := ⟨b, o + k * 4 + 2, none⟩) hb).trans c2).trans hj
  | 3, hj => exact ((hW.cell (p := ⟨b, o + k * 4 + 3, none⟩) hb).trans c3).trans hj
  | j + 4, hj => simp at hj
set_option maxRecDepth 100000 in
set_option maxHeartbeats 8000000 in
theorem law7_same (a1 a2 : Option Addr) (l : List Pst) (x1 x2 : Nat) (w : World) (h1 : PostsAt w a1 l) (h2 : PostsAt w a2 l) (hl : l.length ≤ 1000) :
    Calls Tryd.prog 13 #[.agg #[.slice a1 l.length x1], .agg #[.slice a2 l.length x2]] w fun e w' => e = .returned (.bool true) ∧ Below w.heap.size w w' := by
  obtain ⟨k0, k1, hb0⟩ := two_new w (.cells #[.slice a1 l.length x1] 31) (.cells #[.slice a2 l.length x2] 24)
  have HP := Lib.hid (And.intro (h1.below hb0) (h2.below hb0))
  obtain ⟨n, hn⟩ : ∃ n, n = l.length := ⟨_, rfl⟩
  rw [← hn] at k0 k1 hb0 hl HP ⊢
  have HN := Lib.hid hn
  have K0 := Lib.hid k0
  have K1 := Lib.hid k1
  have HB := Lib.hid hb0
  have hni : (n : Int) ≤ 1000 := by omega
  clear k0 k1 hb0 hn h1 h2 hl
  go_enter Tryd.func13, Tryd.ntmps13
  go_upto_region 1 with fail
  change Code.wp _ _ _ _ ((w.alloc (.cells #[.slice a1 n x1] 31)).alloc (.cells #[.slice a2 n x2] 24))
  generalize ((w.alloc (.cells #[.slice a1 n x1] 31)).alloc (.cells #[.slice a2 n x2] 24)) = w1 at K0 K1 HB HP ⊢
  have s0 := (cell_of_row _ _ 0 _ _ _ K0.out).trans (rfl : _ = some (.slice a1 n x1 : Value))
  have s1 := (cell_of_row _ _ 0 _ _ _ K1.out).trans (rfl : _ = some (.slice a2 n x2 : Value))
  go_wp2_with fail
  clear s0 s1
  go_loopw [5] (fun i wr => ∃ k : Nat, i = .int .i64 k ∧ k ≤ n ∧ Below w1.heap.size w1 wr) (fun i _ => n - (intOf i).toNat)
  case atStart => exact ⟨0, rfl, Nat.zero_le _, Below.refl _ _⟩
  case round =>
    obtain ⟨k, rfl, hk, hbr⟩ := hrel
    have HBR := Lib.hid hbr
    have s0 := (cell_of_row _ _ 0 _ _ _ (keepB K0.out hbr)).trans (rfl : _ = some (.slice a1 n x1 : Value))
    have hk0 : (0 : Int) ≤ (k : Int) := by omega
    clear hbr
    by_cases hlt : k < n
    · have hk1 : (k : Int) < (n : Int) := by omega
      obtain ⟨p, hpk⟩ : ∃ p, l[k]? = some p := ⟨l[k]'(by have := HN.out; omega), List.getElem?_eq_getElem (by have := HN.out; omega)⟩
      obtain ⟨b, o, rfl, hr1⟩ := posts_row HP.out.1 hpk
      obtain ⟨b', o', rfl, hr2⟩ := posts_row HP.out.2 hpk
      have HR := Lib.hid (And.intro hr1 hr2)
      clear hpk hr1 hr2
      go_upto_region 6 with fail
      clear s0
      refine wp_region_held_drew (S := fun W => Below w1.heap.size w1 W) (by kernel_rfl) (HBR.out.drew) (fun hH0 => ?_)
      refine wpAnyH_take (i := 0) (v := ?v0) rfl (by kernel_rfl) (by kernel_rfl) (by kernel_rfl) (fun _ _ _ h => h) (Or.inl ⟨by rfl, ?hy0⟩) (by assumption) ?rest0
      case hy0 => (intro W hSw; go_simp; first | done | with_reducible rfl)
      simp only [Act.put, List.getElem_toArray, List.getElem_cons_zero, List.setIfInBounds_toArray, List.set_cons_zero, List.set_cons_succ]
      refine wpAnyH_take (i := 1) (v := ?v1) rfl (by kernel_rfl) (by kernel_rfl) (by kernel_rfl) (fun _ _ _ h => h) (Or.inl ⟨by rfl, ?hy1⟩) (by assumption) ?rest1
      case hy1 => (intro W hSw; have cj := (cell_of_row _ _ 0 _ _ _ (keepB K0.out hSw)).trans (rfl : _ = some (.slice (some ⟨b, o, none⟩) n x1 : Value)); go_simp; first | done | with_reducible rfl)
      simp only [Act.put, List.getElem_toArray, List.getElem_cons_zero, List.getElem_cons_succ, List.setIfInBounds_toArray, List.set_cons_zero, List.set_cons_succ]
      refine wpAnyH_take (i := 2) (v := ?v2) rfl (by kernel_rfl) (by kernel_rfl) (by kernel_rfl) (fun _ _ _ h => h) (Or.inl ⟨by rfl, ?hy2⟩) (by assumption) ?rest2
      case hy2 => (intro W hSw; go_simp; first | done | with_reducible rfl)
      simp only [Act.put, List.getElem_toArray, List.getElem_cons_zero, List.getElem_cons_succ, List.setIfInBounds_toArray, List.set_cons_zero, List.set_cons_succ]
      refine wpAnyH_take (i := 3) (v := ?v3) rfl (by kernel_rfl) (by kernel_rfl) (by kernel_rfl) (fun _ _ _ h => h) (Or.inl ⟨by rfl, ?hy3⟩) (by assumption) ?rest3
      case hy3 => (intro W hSw; go_simp; first | done | with_reducible rfl)
      simp only [Act.put, List.getElem_toArray, List.getElem_cons_zero, List.getElem_cons_succ, List.setIfInBounds_toArray, List.set_cons_zero, List.set_cons_succ]
      refine wpAnyH_take (i := 5) (v := ?v5) rfl (by kernel_rfl) (by kernel_rfl) (by kernel_rfl) (fun _ _ _ h => h) (Or.inl ⟨by rfl, ?hy5⟩) (by assumption) ?rest5
      case hy5 => (intro W hSw; go_simp; first | done | with_reducible rfl)
      simp only [Act.put, List.getElem_toArray, List.getElem_cons_zero, List.getElem_cons_succ, List.setIfInBounds_toArray, List.set_cons_zero, List.set_cons_succ]
      refine wpAnyH_take (i := 6) (v := ?v6) rfl (by kernel_rfl) (by kernel_rfl) (by kernel_rfl) (fun _ _ _ h => h) (Or.inl ⟨by rfl, ?hy6⟩) (by assumption) ?rest6
      case hy6 => (intro W hSw; have cj := (cell_of_row _ _ 0 _ _ _ (keepB K1.out hSw)).trans (rfl : _ = some (.slice (some ⟨b', o', none⟩) n x2 : Value)); go_simp; first | done | with_reducible rfl)
      simp only [Act.put, List.getElem_toArray, List.getElem_cons_zero, List.getElem_cons_succ, List.setIfInBounds_toArray, List.set_cons_zero, List.set_cons_succ]
      refine wpAnyH_take (i := 7) (v := ?v7) rfl (by kernel_rfl) (by kernel_rfl) (by kernel_rfl) (fun _ _ _ h => h) (Or.inl ⟨by rfl, ?hy7⟩) (by assumption) ?rest7
      case hy7 => (intro W hSw; go_simp; first | done | with_reducible rfl)
      simp only [Act.put, List.getElem_toArray, List.getElem_cons_zero, List.getElem_cons_succ, List.setIfInBounds_toArray, List.set_cons_zero, List.set_cons_succ]
      refine wpAnyH_take (i := 8) (v := ?v8) rfl (by kernel_rfl) (by kernel_rfl) (by kernel_rfl) (fun _ _ _ h => h) (Or.inl ⟨by rfl, ?hy8⟩) (by assumption) ?rest8
      case hy8 => (intro W hSw; go_simp; first | done | with_reducible rfl)
      simp only [Act.put, List.getElem_toArray, List.getElem_cons_zero, List.getElem_cons_succ, List.setIfInBounds_toArray, List.set_cons_zero, List.set_cons_succ]
      refine wpAnyH_take (i := 4) rfl (by kernel_rfl) (by kernel_rfl) (by kernel_rfl) (fun _ _ _ h => h) (yieldsIf_load_mid (by rfl) 37 _ rfl b (o + k * 4) rfl [.int .i64 p.dev, .int .u32 p.at_, .int .i64 p.n, .int .u32 p.val] _ (fun W hSw => HR.out.1 W hSw) Tryd.underlying37 rfl ?hi4) (by assumption) ?rest4
      case hi4 => kernel_rfl
      simp only [Act.put, List.getElem_toArray, List.getElem_cons_zero, List.getElem_cons_succ, List.setIfInBounds_toArray, List.set_cons_zero, List.set_cons_succ]
      refine wpAnyH_take (i := 9) rfl (by kernel_rfl) (by kernel_rfl) (by kernel_rfl) (fun _ _ _ h => h) (yieldsIf_load_mid (by rfl) 27 _ rfl b' (o' + k * 4) rfl [.int .i64 p.dev, .int .u32 p.at_, .int .i64 p.n, .int .u32 p.val] _ (fun W hSw => HR.out.2 W hSw) Tryd.underlying27 rfl ?hi9) (by assumption) ?rest9
      case hi9 => kernel_rfl
      simp only [Act.put, List.getElem_toArray, List.getElem_cons_zero, List.getElem_cons_succ, List.setIfInBounds_toArray, List.set_cons_zero, List.set_cons_succ]
      refine wpAnyH_take (i := 10) rfl (by kernel_rfl) (by kernel_rfl) (by kernel_rfl) (fun _ _ _ h => h) (yieldsIf_binB (by rfl) BinOp.neq 37 _ _ _ rfl (.bool false) (.agg #[.int .i64 p.dev, .int .u32 p.at_, .int .i64 p.n, .int .u32 p.val]) (.agg #[.int .i64 p.dev, .int .u32 p.at_, .int .i64 p.n, .int .u32 p.val]) (by rfl) (by rfl) (fun W => post_guard _ _ _ _ _ W) (post_neq p)) (by assumption) ?rest10
      simp only [Act.put, List.getElem_toArray, List.getElem_cons_zero, List.getElem_cons_succ, List.setIfInBounds_toArray, List.set_cons_zero, List.set_cons_succ]
      refine wpAnyH_done (by kernel_rfl) ?_ _
      have HH := Lib.hid hH0
      clear hH0 hk1
      have hk2 : (k : Int) < 1000 := by omega
      go_wp2_with fail
      go_roundw
      case rel => exact ⟨k + 1, by go_num, by omega, HH.out⟩
      case measure => simp [intOf]; omega
    · have hk1 : ¬ (k : Int) < (n : Int) := by omega
      go_wp2_with fail
      go_ret
      exact ⟨rfl, HB.out.trans (HBR.out.mono HB.out.size)⟩
end Go.Proofs.YtcmbnkmbaghkdaaDoor
