/-
pinnacelaw07.BusOrder, walked: it answers true.
Condition: the package's table of regions reads as its text lays it; the package's sure answers true.
-/
import Derived.Test.YtenafjdlaefepaaDoorOrdLaw
import Derived.Deep.CutRange
namespace Go.Proofs.YtenafjdlaefepaaDoor
open Go.RowKit

/-- A slice of writes that came in, place by place; it stays while the call runs. -/
def PostsArg (w : World) (p : Option Addr) (n : Nat) : Prop := ∀ k, k < n → ∃ (b o : Nat) (x : Pst), p = some ⟨b, o, none⟩ ∧ ∀ W, Below w.heap.size w W →
  W.cell? ⟨b, o + k * 4, none⟩ = some (.int .i64 x.dev) ∧ W.cell? ⟨b, o + k * 4 + 1, none⟩ = some (.int .u32 x.at_) ∧ W.cell? ⟨b, o + k * 4 + 2, none⟩ = some (.int .i64 x.n) ∧ W.cell? ⟨b, o + k * 4 + 3, none⟩ = some (.int .u32 x.val)
def BoolsArg (w : World) (p : Option Addr) (n : Nat) : Prop := ∀ k, k < n → ∃ (b o : Nat) (v : Bool), p = some ⟨b, o, none⟩ ∧ ∀ W, Below w.heap.size w W → W.cell? ⟨b, o + k, none⟩ = some (.bool v)
theorem queue_push {l : List Pst} {p : Pst} (h : queueOk l) (hp : p.may) (h8 : l.length < 8) : queueOk (l ++ [p]) := by
  refine ⟨by simp; omega, fun k q hk => ?_⟩
  rcases Nat.lt_or_ge k l.length with hl | hl
  · rw [List.getElem?_append_left hl] at hk; exact h.2 k q hk
  · rw [List.getElem?_append_right hl] at hk
    have : k - l.length = 0 := by
      have := (List.getElem?_eq_some_iff.1 hk).1
      simp at this; omega
    rw [this] at hk
    obtain rfl : p = q := by simpa using hk
    exact hp
theorem queue_tail {l : List Pst} {p : Pst} (h : queueOk (p :: l)) : queueOk l := ⟨by have := h.1; simp at this; omega, fun k q hk => h.2 (k + 1) q (by simpa using hk)⟩
theorem bus_Push_all (ao : Option Addr) (l : List Pst) (cap : Nat) (p : Pst) (w : World) (hp : PostsAt w ao l) (hr : RegAt w) (hq : queueOk l) (hno : ao = none → l.length = 0 ∧ cap = 0) (hcap : l.length ≤ cap) :
    Calls Tryd.prog 29 #[.agg #[.slice ao l.length cap], p.v] w fun e w' => (∃ (ao' : Option Addr) (n' cap' : Nat) (ev : Value), e = .returned (.tuple #[.agg #[.slice ao' n' cap'], ev]) ∧
      ((∃ m, ev = .iface 116 m) ∨ (ev = .nilIface ∧ n' = l.length + 1 ∧ queueOk (l ++ [p]) ∧ l.length + 1 ≤ cap' ∧ ∃ g, ao' = some ⟨g, 0, none⟩ ∧ w.heap.size ≤ g ∧ PostsAt w' (some ⟨g, 0, none⟩) (l ++ [p])))) ∧ Below w.heap.size w w' := by
  have hl8 := hq.1
  by_cases hm : p.may
  · by_cases h8 : l.length = 8
    · refine (push_full ao l cap p w hp (by omega) hr hq hm h8).mono ?_
      rintro e w' ⟨rfl, hb⟩
      exact ⟨⟨none, 0, 0, _, rfl, .inl ⟨_, rfl⟩⟩, hb⟩
    · refine (push_ok ao l cap p w hp (by omega) hr hq hm (by omega) hno hcap).mono ?_
      rintro e w' ⟨⟨g, cap', rfl, hg, hc, hpp⟩, hb⟩
      exact ⟨⟨some ⟨g, 0, none⟩, l.length + 1, cap', _, rfl, .inr ⟨rfl, rfl, queue_push hq hm (by omega), hc, g, rfl, hg, hpp⟩⟩, hb⟩
  · refine (push_bad2 ao l cap p w hp (by omega) hr hq hm).mono ?_
    rintro e w' ⟨rfl, hb⟩
    exact ⟨⟨none, 0, 0, _, rfl, .inl ⟨_, rfl⟩⟩, hb⟩
theorem bus_Pop_all (ao : Option Addr) (p : Pst) (l : List Pst) (cap : Nat) (w : World) (hp : PostsAt w ao (p :: l)) (hr : RegAt w) (hq : queueOk (p :: l)) (hcap : (p :: l).length ≤ cap) :
    Calls Tryd.prog 31 #[.agg #[.slice ao (p :: l).length cap]] w fun e w' => (∃ g cap', e = .returned (.tuple #[.agg #[.slice (some ⟨g, 0, none⟩) l.length cap'], .agg #[.int .i64 p.dev, .int .u32 p.at_, .int .i64 p.n, .int .u32 p.val], .nilIface]) ∧ w.heap.size ≤ g ∧ l.length ≤ cap' ∧ PostsAt w' (some ⟨g, 0, none⟩) l) ∧ Below w.heap.size w w' := by
  obtain ⟨b, o, rfl, _⟩ := hp 0 p rfl
  rw [List.length_cons] at hcap ⊢
  by_cases hc : cap = 1
  · exact pop_ok_one b o p l cap w hp hr hq hcap hc
  · exact pop_ok_more b o p l cap w hp hr hq hcap hc
set_option maxRecDepth 100000 in
theorem err_nil (w : World) : (binOp BinOp.eql 35 .nilIface .nilIface).run Tryd.prog w = .ok (.bool true) w := by
  have h1 : (Op.equalIn (9999 + 1) 35 .nilIface .nilIface).run Tryd.prog w = .ok true w := by
    generalize 9999 = d
    simp [Op.equalIn, go_sem]
  have h2 : (Op.equalIn Op.maxDepth 35 .nilIface .nilIface).run Tryd.prog w = .ok true w := h1
  simp [binOp, Op.equal, go_sem, h2]
set_option maxRecDepth 100000 in
theorem err_not_nil (t : TypeId) (m : Value) (w : World) : (binOp BinOp.eql 35 (.iface t m) .nilIface).run Tryd.prog w = .ok (.bool false) w := by
  have h1 : (Op.equalIn (9999 + 1) 35 (.iface t m) .nilIface).run Tryd.prog w = .ok false w := by
    generalize 9999 = d
    simp [Op.equalIn, go_sem]
  have h2 : (Op.equalIn Op.maxDepth 35 (.iface t m) .nilIface).run Tryd.prog w = .ok false w := h1
  simp [binOp, Op.equal, go_sem, h2]
theorem err_guard_nil (a : Operand) (w : World) : (eqGuard BinOp.eql 35 a (.const .nilIface) .nilIface .nilIface).run Tryd.prog w = .ok () w := by
  simp [eqGuard, go_sem]
theorem err_guard (a : Operand) (t : TypeId) (m : Value) (w : World) : (eqGuard BinOp.eql 35 a (.const .nilIface) (.iface t m) .nilIface).run Tryd.prog w = .ok () w := by
  simp [eqGuard, go_sem]
theorem owns_form {w : World} {base e size n : Nat} {v : Value} {xs : List Value} (h : w.ownsRow base e size v n xs) : ∃ a c, v = .slice a n c := by
  rcases h.2 with ⟨rfl, rfl⟩ | ⟨g, cap, cur, rfl, _⟩
  · exact ⟨none, 0, rfl⟩
  · exact ⟨some ⟨g, 0, none⟩, cap, rfl⟩


set_option maxRecDepth 100000 in
set_option maxHeartbeats 8000000 in
theorem order_walk (lp bp : Option Addr) (n lc nb bc : Nat) (w : World) (HL : Hid (PostsArg w lp n)) (HBO : Hid (BoolsArg w bp nb)) (HRG : Hid (RegAt w))
    (HS : Hid (∀ W, Below w.heap.size w W → Calls Tryd.prog 23 #[] W fun e w' => e = .returned (.bool true) ∧ Below W.heap.size W w')) :
    Calls Tryd.prog 11 #[.slice lp n lc, .slice bp nb bc] w fun e w' => e = .returned (.bool true) ∧ Below w.heap.size w w' := by
  have H0 := Lib.hid (heap_alloc_new w (.cells #[.slice none 0 0] 66))
  have HB0 := Lib.hid ((Below.refl w.heap.size w).alloc (Nat.le_refl _) (.cells #[.slice none 0 0] 66))
  go_enter Tryd.func11, Tryd.ntmps11
  go_wp2_with fail
  go_loopw [6, 7, 8] (fun vin vout i wr => ∃ (k : Nat) (L IN OUT : List Pst) (ao : Option Addr) (cap : Nat), k ≤ n ∧ k ≤ 60 ∧ i = .int .i64 k ∧ IN = OUT ++ L ∧ IN.length ≤ k ∧ OrdAt w w.heap.size L IN OUT ao cap vin vout wr) (fun _ _ i _ => n - (intOf i).toNat)
  case atStart =>
    exact ⟨0, [], [], [], none, 0, by omega, by omega, rfl, rfl, by simp, ⟨H0.out, posts_nil _ _, ⟨by simp, fun k p h => by simp at h⟩, by simp, fun _ => ⟨rfl, rfl⟩, .inl rfl, World.ownsRow_nil _ _ _ _, World.ownsRow_nil _ _ _ _, fun g h => by simp [Value.ownBlock] at h, fun a h => by simp at h, HB0.out⟩⟩
  case round =>
    obtain ⟨k, L, IN, OUT, ao, cap, hkn, hk60, rfl, hio, hin, hord⟩ := hrel
    obtain ⟨ai, ci, rfl⟩ := owns_form hord.oi
    obtain ⟨aq, cq, rfl⟩ := owns_form hord.oo
    have HO := Lib.hid hord
    have HIO := Lib.hid hio
    have HIN := Lib.hid hin
    clear hord hio hin H0 HB0
    by_cases hk1 : k < n
    · by_cases hk2 : k < 60
      · obtain ⟨b, o, x, rfl, hcell⟩ := HL.out k hk1
        have hk0 : (0 : Int) ≤ ↑k := by omega
        have hk5' : (↑k : Int) < ↑n := by omega
        go_wp2_with fail
        go_cut [9, 10] from 16 to 89 (fun y e wx => ∃ (b9 : Nat) (ao' : Option Addr) (n' cap' : Nat) (ev : Value), y = .pointer (some ⟨b9, 0, none⟩) ∧ ev = e ∧ w.heap.size < b9 ∧ wx.heap[b9]? = some (.cells #[.slice ao' n' cap'] 66 (0, 0)) ∧ ((∃ m, ev = .iface 116 m) ∨ (ev = .nilIface ∧ n' = L.length + 1 ∧ queueOk (L ++ [x]) ∧ L.length + 1 ≤ cap' ∧ ∃ g, ao' = some ⟨g, 0, none⟩ ∧ wr.heap.size ≤ g ∧ PostsAt wx (some ⟨g, 0, none⟩) (L ++ [x]))) ∧ Below wr.heap.size wr wx)
        case first =>
          have HMK : Hid (∀ W : World, Below wr.heap.size wr W → (W.cell? ⟨w.heap.size, 0, none⟩ = some (.slice ao L.length cap) ∧ W.cell? ⟨b, o + k * 4, none⟩ = some (.int .i64 x.dev) ∧ W.cell? ⟨b, o + k * 4 + 1, none⟩ = some (.int .u32 x.at_) ∧ W.cell? ⟨b, o + k * 4 + 2, none⟩ = some (.int .i64 x.n) ∧ W.cell? ⟨b, o + k * 4 + 3, none⟩ = some (.int .u32 x.val) ∧ Below wr.heap.size wr W)) := Lib.hid (fun W h => by
            obtain ⟨a0, a1, a2, a3⟩ := hcell W (HO.out.b.trans (h.mono (Nat.le_of_lt HO.out.lt)))
            exact ⟨(cell_of_row _ _ 0 _ _ _ (keepB HO.out.q h)).trans rfl, a0, a1, a2, a3, h⟩)
          have HPU := Lib.hid (fun W (h : Below wr.heap.size wr W) => bus_Push_all ao L cap x W (HO.out.p.below h) (HRG.out.below (HO.out.b.trans (h.mono (Nat.le_of_lt HO.out.lt)))) HO.out.ok HO.out.no HO.out.lc)
          have hlt := HO.out.lt
          refine wp_region_held_drew (S := fun W => W.cell? ⟨w.heap.size, 0, none⟩ = some (.slice ao L.length cap) ∧ W.cell? ⟨b, o + k * 4, none⟩ = some (.int .i64 x.dev) ∧ W.cell? ⟨b, o + k * 4 + 1, none⟩ = some (.int .u32 x.at_) ∧ W.cell? ⟨b, o + k * 4 + 2, none⟩ = some (.int .i64 x.n) ∧ W.cell? ⟨b, o + k * 4 + 3, none⟩ = some (.int .u32 x.val) ∧ Below wr.heap.size wr W) (by kernel_rfl) (HMK.out _ (Below.refl _ _).drew) (fun hHeld => ?_)
          refine wpAnyH_take (i := 0) (v := ?v0) rfl (by kernel_rfl) (by kernel_rfl) (by kernel_rfl) (fun _ _ _ h => h) (Or.inl ⟨by rfl, ?hy0⟩) (by assumption) ?rest0
          case hy0 => (intro W hSw; (try dsimp only at hSw); go_split_ands; go_simp; first | done | with_reducible rfl)
          simp only [Act.put, List.getElem_toArray, List.getElem_cons_zero, List.setIfInBounds_toArray, List.set_cons_zero, List.set_cons_succ]
          refine wpAnyH_take (i := 1) (v := ?v1) rfl (by kernel_rfl) (by kernel_rfl) (by kernel_rfl) (fun _ _ _ h => h) (Or.inl ⟨by rfl, ?hy1⟩) (by assumption) ?rest1
          case hy1 => (intro W hSw; (try dsimp only at hSw); go_split_ands; go_simp; first | done | with_reducible rfl)
          simp only [Act.put, List.getElem_toArray, List.getElem_cons_zero, List.getElem_cons_succ, List.setIfInBounds_toArray, List.set_cons_zero, List.set_cons_succ]
          refine wpAnyH_take (i := 2) (v := ?v2) rfl (by kernel_rfl) (by kernel_rfl) (by kernel_rfl) (fun _ _ _ h => h) (Or.inl ⟨by rfl, ?hy2⟩) (by assumption) ?rest2
          case hy2 => (intro W hSw; (try dsimp only at hSw); go_split_ands; go_simp; first | done | with_reducible rfl)
          simp only [Act.put, List.getElem_toArray, List.getElem_cons_zero, List.getElem_cons_succ, List.setIfInBounds_toArray, List.set_cons_zero, List.set_cons_succ]
          refine wpAnyH_take (i := 3) (v := ?v3) rfl (by kernel_rfl) (by kernel_rfl) (by kernel_rfl) (fun _ _ _ h => h) (Or.inl ⟨by rfl, ?hy3⟩) (by assumption) ?rest3
          case hy3 => (intro W hSw; (try dsimp only at hSw); go_split_ands; go_simp; first | done | with_reducible rfl)
          simp only [Act.put, List.getElem_toArray, List.getElem_cons_zero, List.getElem_cons_succ, List.setIfInBounds_toArray, List.set_cons_zero, List.set_cons_succ]
          refine wpAnyH_take (i := 4) (v := ?v4) rfl (by kernel_rfl) (by kernel_rfl) (by kernel_rfl) (fun _ _ _ h => h) (Or.inl ⟨by rfl, ?hy4⟩) (by assumption) ?rest4
          case hy4 => (intro W hSw; (try dsimp only at hSw); go_split_ands; go_simp; first | done | with_reducible rfl)
          simp only [Act.put, List.getElem_toArray, List.getElem_cons_zero, List.getElem_cons_succ, List.setIfInBounds_toArray, List.set_cons_zero, List.set_cons_succ]
          refine wpAnyH_ready (rs := [5, 9]) (by kernel_rfl) (by simp) ?_
          refine AllReadyH.cons (o := _) rfl (fun K hK => ?_) (AllReadyH.cons (o := _) rfl (fun K hK => ?_) (AllReadyH.nil))
          · simp only [List.getElem_toArray, List.getElem_cons_zero, List.getElem_cons_succ]
            go_simp
            refine (HPU.out _ hHeld.2.2.2.2.2).mono ?_
            rintro e w3 ⟨⟨ao', n', cap', ev, rfl, hres⟩, hb⟩
            have hb1 := hHeld.2.2.2.2.2.trans (hb.mono hHeld.2.2.2.2.2.size)
            refine hK.out _ _ (HMK.out _ hb1) (fun hHeld1 => ?_)
            clear hK K hHeld hb
            refine wpAnyH_take (i := 6) (v := ?v6) rfl (by kernel_rfl) (by kernel_rfl) (by kernel_rfl) (fun _ _ _ h => h) (Or.inl ⟨by rfl, ?hy6⟩) (by assumption) ?rest6
            case hy6 => (intro W hSw; (try dsimp only at hSw); go_split_ands; go_simp; first | done | with_reducible rfl)
            simp only [Act.put, List.getElem_toArray, List.getElem_cons_zero, List.getElem_cons_succ, List.setIfInBounds_toArray, List.set_cons_zero, List.set_cons_succ]
            refine wpAnyH_take (i := 7) (v := ?v7) rfl (by kernel_rfl) (by kernel_rfl) (by kernel_rfl) (fun _ _ _ h => h) (Or.inl ⟨by rfl, ?hy7⟩) (by assumption) ?rest7
            case hy7 => (intro W hSw; (try dsimp only at hSw); go_split_ands; go_simp; first | done | with_reducible rfl)
            simp only [Act.put, List.getElem_toArray, List.getElem_cons_zero, List.getElem_cons_succ, List.setIfInBounds_toArray, List.set_cons_zero, List.set_cons_succ]
            refine wpAnyH_take (i := 8) (v := ?v8) rfl (by kernel_rfl) (by kernel_rfl) (by kernel_rfl) (fun _ _ _ h => h) (Or.inl ⟨by rfl, ?hy8⟩) (by assumption) ?rest8
            case hy8 => (intro W hSw; (try dsimp only at hSw); go_split_ands; go_simp; first | done | with_reducible rfl)
            simp only [Act.put, List.getElem_toArray, List.getElem_cons_zero, List.getElem_cons_succ, List.setIfInBounds_toArray, List.set_cons_zero, List.set_cons_succ]
            refine wpAnyH_ready (rs := [9]) (by kernel_rfl) (by simp) ?_
            refine AllReadyH.cons (o := _) rfl (fun K hK => ?_) (AllReadyH.nil)
            simp only [List.getElem_toArray, List.getElem_cons_zero, List.getElem_cons_succ]
            go_simp
            have HZ := heap_alloc_new w3 (.cells #[.slice none 0 0] 66)
            refine hK.out _ _ (HMK.out _ (hb1.alloc hb1.size _)) (fun hHeld2 => ?_)
            clear hK K hHeld1
            have cz := (cell_of_row _ _ 0 _ _ _ HZ).trans (rfl : _ = some (Value.slice none 0 0))
            have fz := frozen_of_row _ _ 0 _ _ HZ
            refine wpAnyH_ready (rs := [10]) (by kernel_rfl) (by simp) ?_
            refine AllReadyH.cons (o := _) rfl (fun K hK => ?_) (AllReadyH.nil)
            simp only [List.getElem_toArray, List.getElem_cons_zero, List.getElem_cons_succ]
            go_simp
            have hb4 := hb1.alloc hb1.size (.cells #[.slice ao' n' cap'] 66)
            refine hK.out _ _ (HMK.out _ hb4) (fun hHeld3 => ?_)
            clear hK K hHeld2 cz fz HZ
            refine wpAnyH_take (i := 11) (v := ?v11) rfl (by kernel_rfl) (by kernel_rfl) (by kernel_rfl) (fun _ _ _ h => h) (Or.inl ⟨by rfl, ?hy11⟩) (by assumption) ?rest11
            case hy11 => (intro W hSw; (try dsimp only at hSw); go_split_ands; go_simp; first | done | with_reducible rfl)
            simp only [Act.put, List.getElem_toArray, List.getElem_cons_zero, List.getElem_cons_succ, List.setIfInBounds_toArray, List.set_cons_zero, List.set_cons_succ]
            refine wpAnyH_done (by kernel_rfl) ?_ _
            have HZ := heap_alloc_new w3 (.cells #[.slice ao' n' cap'] 66)
            have hlw : w.heap.size < w3.heap.size := Nat.lt_of_lt_of_le hlt hb1.size
            have HRS : (∃ m, ev = .iface 116 m) ∨ (ev = .nilIface ∧ n' = L.length + 1 ∧ queueOk (L ++ [x]) ∧ L.length + 1 ≤ cap' ∧ ∃ g, ao' = some ⟨g, 0, none⟩ ∧ wr.heap.size ≤ g ∧ PostsAt (w3.alloc (.cells #[.slice ao' n' cap'] 66)) (some ⟨g, 0, none⟩) (L ++ [x])) := by
              rcases hres with h | ⟨h1, h2, h3, h4, g, h5, h6, h7⟩
              · exact .inl h
              · exact .inr ⟨h1, h2, h3, h4, g, h5, h6, h7.below ((Below.refl _ _).alloc (Nat.le_refl _) _)⟩
            generalize w3.alloc (.cells #[.slice ao' n' cap'] 66) = w4 at HZ HRS hb4 ⊢
            have HRS' := Lib.hid HRS
            clear hres HRS
            go_wp2_with fail
            go_meet
            case rel => exact ⟨w3.heap.size, ao', n', cap', ev, rfl, rfl, hlw, HZ, HRS'.out, hb4⟩
          · simp only [List.getElem_toArray, List.getElem_cons_zero, List.getElem_cons_succ]
            go_simp
            have HZ := heap_alloc_new wr.drew (.cells #[.slice none 0 0] 66)
            refine hK.out _ _ (HMK.out _ (hHeld.2.2.2.2.2.alloc hHeld.2.2.2.2.2.size _)) (fun hHeld0 => ?_)
            clear hK K hHeld
            refine wpAnyH_ready (rs := [5]) (by kernel_rfl) (by simp) ?_
            refine AllReadyH.cons (o := _) rfl (fun K hK => ?_) (AllReadyH.nil)
            simp only [List.getElem_toArray, List.getElem_cons_zero, List.getElem_cons_succ]
            go_simp
            refine (HPU.out _ hHeld0.2.2.2.2.2).mono ?_
            rintro e w3 ⟨⟨ao', n', cap', ev, rfl, hres⟩, hb⟩
            have hb1 := hHeld0.2.2.2.2.2.trans (hb.mono hHeld0.2.2.2.2.2.size)
            have HZ3 := keepB HZ hb
            refine hK.out _ _ (HMK.out _ hb1) (fun hHeld1 => ?_)
            clear hK K hHeld0 hb HZ
            refine wpAnyH_take (i := 6) (v := ?v6b) rfl (by kernel_rfl) (by kernel_rfl) (by kernel_rfl) (fun _ _ _ h => h) (Or.inl ⟨by rfl, ?hy6b⟩) (by assumption) ?rest6b
            case hy6b => (intro W hSw; (try dsimp only at hSw); go_split_ands; go_simp; first | done | with_reducible rfl)
            simp only [Act.put, List.getElem_toArray, List.getElem_cons_zero, List.getElem_cons_succ, List.setIfInBounds_toArray, List.set_cons_zero, List.set_cons_succ]
            refine wpAnyH_take (i := 7) (v := ?v7b) rfl (by kernel_rfl) (by kernel_rfl) (by kernel_rfl) (fun _ _ _ h => h) (Or.inl ⟨by rfl, ?hy7b⟩) (by assumption) ?rest7b
            case hy7b => (intro W hSw; (try dsimp only at hSw); go_split_ands; go_simp; first | done | with_reducible rfl)
            simp only [Act.put, List.getElem_toArray, List.getElem_cons_zero, List.getElem_cons_succ, List.setIfInBounds_toArray, List.set_cons_zero, List.set_cons_succ]
            refine wpAnyH_take (i := 8) (v := ?v8b) rfl (by kernel_rfl) (by kernel_rfl) (by kernel_rfl) (fun _ _ _ h => h) (Or.inl ⟨by rfl, ?hy8b⟩) (by assumption) ?rest8b
            case hy8b => (intro W hSw; (try dsimp only at hSw); go_split_ands; go_simp; first | done | with_reducible rfl)
            simp only [Act.put, List.getElem_toArray, List.getElem_cons_zero, List.getElem_cons_succ, List.setIfInBounds_toArray, List.set_cons_zero, List.set_cons_succ]
            have cz : w3.cell? ⟨wr.heap.size, 0, none⟩ = some (Value.slice none 0 0) := (cell_of_row _ _ 0 _ _ _ HZ3).trans rfl
            have fz : w3.frozen? ⟨wr.heap.size, 0, none⟩ = false := frozen_of_row _ _ 0 _ _ HZ3
            have HZ4 : (w3.setCell ⟨wr.heap.size, 0, none⟩ (.slice ao' n' cap')).heap[wr.heap.size]? = some (.cells #[.slice ao' n' cap'] 66 (0, 0)) := heap_setCell_same _ _ _ _ _ _ HZ3
            have hb4 := hb1.setCell (p := ⟨wr.heap.size, 0, none⟩) (Nat.le_refl _) (.slice ao' n' cap')
            refine wpAnyH_ready (rs := [10]) (by kernel_rfl) (by simp) ?_
            refine AllReadyH.cons (o := _) rfl (fun K hK => ?_) (AllReadyH.nil)
            simp only [List.getElem_toArray, List.getElem_cons_zero, List.getElem_cons_succ]
            go_simp
            refine hK.out _ _ (HMK.out _ hb4) (fun hHeld3 => ?_)
            clear hK K hHeld1 cz fz HZ3
            refine wpAnyH_take (i := 11) (v := ?v11b) rfl (by kernel_rfl) (by kernel_rfl) (by kernel_rfl) (fun _ _ _ h => h) (Or.inl ⟨by rfl, ?hy11b⟩) (by assumption) ?rest11b
            case hy11b => (intro W hSw; (try dsimp only at hSw); go_split_ands; go_simp; first | done | with_reducible rfl)
            simp only [Act.put, List.getElem_toArray, List.getElem_cons_zero, List.getElem_cons_succ, List.setIfInBounds_toArray, List.set_cons_zero, List.set_cons_succ]
            refine wpAnyH_done (by kernel_rfl) ?_ _
            have HRS : (∃ m, ev = .iface 116 m) ∨ (ev = .nilIface ∧ n' = L.length + 1 ∧ queueOk (L ++ [x]) ∧ L.length + 1 ≤ cap' ∧ ∃ g, ao' = some ⟨g, 0, none⟩ ∧ wr.heap.size ≤ g ∧ PostsAt (w3.setCell ⟨wr.heap.size, 0, none⟩ (.slice ao' n' cap')) (some ⟨g, 0, none⟩) (L ++ [x])) := by
              rcases hres with h | ⟨h1, h2, h3, h4, g, h5, h6, h7⟩
              · exact .inl h
              · have h6' : wr.heap.size + 1 ≤ g := by have h8 := h6; simp at h8; exact h8
                exact .inr ⟨h1, h2, h3, h4, g, h5, by omega, posts_setCell h7 (b := wr.heap.size) 0 _ (by omega)⟩
            generalize w3.setCell ⟨wr.heap.size, 0, none⟩ (.slice ao' n' cap') = w4 at HZ4 HRS hb4 ⊢
            have HRS' := Lib.hid HRS
            clear hres HRS
            go_wp2_with fail
            go_meet
            case rel => exact ⟨wr.heap.size, ao', n', cap', ev, rfl, rfl, hlt, HZ4, HRS'.out, hb4⟩
        case rest =>
          obtain ⟨b9, ao', n', cap', ev, rfl, rfl, hb9, hz9, hres, hbl⟩ := hcut
          have HBL := Lib.hid hbl
          have HZ9 := Lib.hid hz9
          have HO3 := Lib.hid (HO.out.below hbl)
          have hlt := HO.out.lt
          clear hbl hz9
          obtain ⟨eb, hEB, hres'⟩ : ∃ eb : Bool, (∀ W, (binOp BinOp.eql 35 ev .nilIface).run Tryd.prog W = .ok (.bool eb) W ∧ ∀ a, (eqGuard BinOp.eql 35 a (.const .nilIface) ev .nilIface).run Tryd.prog W = .ok () W) ∧ (eb = false ∨ (eb = true ∧ n' = L.length + 1 ∧ queueOk (L ++ [x]) ∧ L.length + 1 ≤ cap' ∧ ∃ g, ao' = some ⟨g, 0, none⟩ ∧ wr.heap.size ≤ g ∧ PostsAt wc (some ⟨g, 0, none⟩) (L ++ [x]))) := by
            rcases hres with ⟨m, rfl⟩ | ⟨rfl, h⟩
            · exact ⟨false, fun W => ⟨err_not_nil _ m W, fun a => err_guard a _ m W⟩, .inl rfl⟩
            · exact ⟨true, fun W => ⟨err_nil W, fun a => err_guard_nil a W⟩, .inr ⟨rfl, h⟩⟩
          have HRES := Lib.hid hres'
          clear hres hres'
          have hEG := (hEB wc).2
          replace hEB := (hEB wc).1
          go_upto_if 36 with fail
          clear hEB hEG
          go_cut [6] from 16 to 89 (fun vi wx => ∃ (L2 IN2 : List Pst) (ao2 : Option Addr) (cap2 : Nat), IN2 = OUT ++ L2 ∧ IN2.length ≤ k + 1 ∧ OrdAt w w.heap.size L2 IN2 OUT ao2 cap2 vi (.slice aq OUT.length cq) wx)
          case first =>
            rcases HRES.out with rfl | ⟨rfl, rfl, hq2, hc2, g, rfl, hg, hp2⟩
            · go_wp2_with fail
              go_meet
              case rel => exact ⟨L, IN, ao, cap, HIO.out, by have := HIN.out; omega, HO3.out⟩
            · have HP2 := Lib.hid hp2
              have HQ2 := Lib.hid hq2
              have HIX : IN.length < 1000 := by have := HIN.out; omega
              have hgi : (Value.slice ai IN.length ci).ownBlock ≠ some g := fun e => by have := (HO.out.oi.lt g e).2; omega
              have hgo : (Value.slice aq OUT.length cq).ownBlock ≠ some g := fun e => by have := (HO.out.oo.lt g e).2; omega
              have HGI := Lib.hid hgi
              have HGO := Lib.hid hgo
              have hgx : w.heap.size < g := by omega
              have hx0 := (cell_of_row _ _ 0 _ _ _ HZ9.out).trans (rfl : _ = some (Value.slice (some ⟨g, 0, none⟩) (L.length + 1) cap'))
              have HK5 := Lib.hid (HO3.out.setq (g := g) (cap' := cap') (L' := L ++ [x]) HP2.out HQ2.out (by simpa using hc2) hgx hgi hgo)
              rw [show (L ++ [x]).length = L.length + 1 by simp] at HK5
              have HQ0 := Lib.hid HO3.out.q
              have HOQ := Lib.hid (show (#[.slice (some ⟨g, 0, none⟩) (L.length + 1) cap'] : Array Value).all (·.oneCell') = true by simp [Value.oneCell'])
              clear hp2 hq2 hgi hgo
              go_upto_region 9 with (first | (refine wpList_store_row rfl 66 _ _ rfl w.heap.size #[.slice (some ⟨g, 0, none⟩) (L.length + 1) cap'] rfl rfl 66 #[.slice ao L.length cap] HQ0.out (by kernel_rfl) rfl HOQ.out ?_))
              generalize wc.setRow w.heap.size #[.slice (some ⟨g, 0, none⟩) (L.length + 1) cap'] = w5 at HK5 ⊢
              clear hx0 HQ0 HO3 HZ9 HBL
              obtain ⟨c0, c1, c2, c3⟩ := hcell w5 HK5.out.b
              obtain ⟨i, hi1, hi2, hi3, hi4⟩ := info_post
              have HAL := Lib.hid (HK5.out.below ((Below.refl w5.heap.size w5).alloc (Nat.le_refl _) (.cells #[.int .i64 x.dev, .int .u32 x.at_, .int .i64 x.n, .int .u32 x.val] 70)))
              have hnew := Lib.hid (heap_alloc_new w5 (.cells #[.int .i64 x.dev, .int .u32 x.at_, .int .i64 x.n, .int .u32 x.val] 70))
              have HXO := Lib.hid (show ∀ u ∈ x.c.toList, u.oneCell' = true from fun u hu => Array.all_eq_true_iff_forall_mem.1 x.c_one u (by simpa using hu))
              have HW5 := Lib.hid HK5.out.lt
              go_wp2_with (refine wpList_append_own_at (w := w5.alloc (.cells #[.int .i64 x.dev, .int .u32 x.at_, .int .i64 x.n, .int .u32 x.val] 70)) rfl _ _ 64 rfl (w.heap.size + 1) 70 i _ 4 32 Tryd.underlying64 hi1 hi2 hi3 hi4 rfl (by omega) (.slice ai IN.length ci) IN.length (flat IN) rfl HAL.out.oi ⟨w5.heap.size, 0, none⟩ 1 1 x.c.toList rfl rfl ?hc HXO.out (by simp only [maxLen]; omega) (by omega) ?hb ?hK)
              case hc =>
                intro j u hj
                have e : x.c.toList[j]? = some u := by rw [Array.getElem?_toList]; exact hj
                exact e
              case hb => have := HW5.out; simp; omega
              intro v' w6 hown hgr _ hvb
              have HF := Lib.hid (HAL.out.appendIn hown hgr (by simpa using hvb))
              clear hown hgr hvb hi1 hi2 hi3 hi4 c0 c1 c2 c3
              go_wp2_with fail
              go_meet
              case rel => exact ⟨L ++ [x], IN ++ [x], some ⟨g, 0, none⟩, cap', by rw [HIO.out, List.append_assoc], by have := HIN.out; simp; omega, HF.out⟩
          case rest =>
            obtain ⟨L2, IN2, ao2, cap2, hio2, hin2, ho2⟩ := hcut
            have HO2 := Lib.hid ho2
            have HIO2 := Lib.hid hio2
            have HIN2 := Lib.hid hin2
            obtain ⟨ai2, ci2, rfl⟩ := owns_form ho2.oi
            have hcq := (cell_of_row _ _ 0 _ _ _ ho2.q).trans (rfl : _ = some (Value.slice ao2 L2.length cap2))
            clear hio2 hin2 ho2 HO HZ9 HBL HRES HIO HIN
            have HC5 := Lib.hid hcq
            have hl8 := HO2.out.ok.1
            by_cases hkb : k < nb
            · obtain ⟨bb, ob, v, rfl, hv⟩ := HBO.out k hkb
              have hkb1 : (k : Int) < (nb : Int) := by omega
              have hvc := hv wc HO2.out.b
              cases v with
              | false =>
                have hsum : ((IN2.length : Int) != (OUT.length : Int) + ((L2 : List Pst).length : Int)) = false := by rw [HIO2.out]; simp
                have h8t : ¬ (8 : Int) < ((L2 : List Pst).length : Int) := by have := HO2.out.ok.1; omega
                have hob : (OUT.length : Int) ≤ 100 := by
                  have h1 := congrArg List.length HIO2.out
                  have h2 := HIN2.out
                  rw [List.length_append] at h1
                  omega
                go_wp2_with fail
                go_roundw
                case rel => exact ⟨k + 1, L2, IN2, OUT, ao2, cap2, by omega, by omega, by go_num, HIO2.out, HIN2.out, HO2.out⟩
                case measure => simp [intOf]; omega
              | true =>
                cases hL2 : L2 with
                | nil =>
                  subst hL2
                  have HPE := Lib.hid (pop_empty ao2 cap2 wc (HRG.out.below HO2.out.b))
                  have hcq0 : wc.cell? ⟨w.heap.size, 0, none⟩ = some (.slice ao2 0 cap2) := hcq
                  clear hcq
                  go_upto_region 11 with fail
                  go_wp2_with fail
                  refine (HPE.out).mono ?_
                  rintro e w3 ⟨rfl, hb⟩
                  have HO4 := Lib.hid ((HO2.out.below hb).below (((Below.refl w3.heap.size w3).alloc (Nat.le_refl _) (.cells #[.slice none 0 0] 66)).alloc (by simp) (.cells #[.int .i64 0, .int .u32 0, .int .i64 0, .int .u32 0] 70)))
                  clear hb hcq0
                  go_upto_region 12 with fail
                  generalize (w3.alloc (.cells #[.slice none 0 0] 66)).alloc (.cells #[.int .i64 0, .int .u32 0, .int .i64 0, .int .u32 0] 70) = w4 at HO4 ⊢
                  have hcq : w4.cell? ⟨w.heap.size, 0, none⟩ = some (.slice ao2 0 cap2) := (cell_of_row _ _ 0 _ _ _ HO4.out.q).trans rfl
                  go_quiet (fail)
                  have HO5 := Lib.hid (show OrdAt w w.heap.size [] IN2 OUT ao2 cap2 (.slice ai2 IN2.length ci2) (.slice aq OUT.length cq) (w4.drewN nq) from HO4.out.below (below_drewN (Below.refl _ _) nq))
                  clear HO4 hcq
                  generalize w4.drewN nq = w5 at HO5 ⊢
                  have hcq : w5.cell? ⟨w.heap.size, 0, none⟩ = some (.slice ao2 0 cap2) := (cell_of_row _ _ 0 _ _ _ HO5.out.q).trans rfl
                  have hsum : ((IN2.length : Int) != (OUT.length : Int) + (([] : List Pst).length : Int)) = false := by rw [HIO2.out]; simp
                  have h8t : ¬ (8 : Int) < (([] : List Pst).length : Int) := by have := HO5.out.ok.1; omega
                  have hsum0 : ((IN2.length : Int) != (OUT.length : Int)) = false := by rw [HIO2.out]; simp
                  have hob : (OUT.length : Int) ≤ 100 := by
                    have h1 := congrArg List.length HIO2.out
                    have h2 := HIN2.out
                    rw [List.length_append] at h1
                    omega
                  go_wp2_with fail
                  go_roundw
                  case rel => exact ⟨k + 1, [], IN2, OUT, ao2, cap2, by omega, by omega, by go_num, HIO2.out, HIN2.out, HO5.out⟩
                  case measure => simp [intOf]; omega
                | cons p l2 =>
                  subst hL2
                  have HPE := Lib.hid (bus_Pop_all ao2 p l2 cap2 wc HO2.out.p (HRG.out.below HO2.out.b) HO2.out.ok HO2.out.lc)
                  have hcq0 : wc.cell? ⟨w.heap.size, 0, none⟩ = some (.slice ao2 (p :: l2).length cap2) := hcq
                  obtain ⟨n2, hn2⟩ : ∃ n2, n2 = (p :: l2).length := ⟨_, rfl⟩
                  have HN2 := Lib.hid hn2
                  rw [← hn2] at HPE hcq0
                  clear hcq hn2 hl8 HC5
                  go_upto_region 11 with fail
                  go_wp2_with fail
                  refine (HPE.out).mono ?_
                  rintro e w3 ⟨⟨g2, cap3, rfl, hg2, hc3, hp3⟩, hb⟩
                  have HO3 := Lib.hid (HO2.out.below hb)
                  have HP3 := Lib.hid hp3
                  have hgx : w.heap.size < g2 := Nat.lt_of_lt_of_le HO2.out.lt hg2
                  have hgi : (Value.slice ai2 IN2.length ci2).ownBlock ≠ some g2 := fun e => by have := (HO2.out.oi.lt g2 e).2; omega
                  have hgo : (Value.slice aq OUT.length cq).ownBlock ≠ some g2 := fun e => by have := (HO2.out.oo.lt g2 e).2; omega
                  have hb4 : Below w3.heap.size w3 ((w3.alloc (.cells #[.slice (some ⟨g2, 0, none⟩) l2.length cap3] 66)).alloc (.cells #[.int .i64 p.dev, .int .u32 p.at_, .int .i64 p.n, .int .u32 p.val] 70)) := ((Below.refl w3.heap.size w3).alloc (Nat.le_refl _) _).alloc (by simp) _
                  have HO4 := Lib.hid (HO3.out.below hb4)
                  have HP4 := Lib.hid (HP3.out.below hb4)
                  have H11 := Lib.hid (heap_alloc2_old w3 (.cells #[.slice (some ⟨g2, 0, none⟩) l2.length cap3] 66) (.cells #[.int .i64 p.dev, .int .u32 p.at_, .int .i64 p.n, .int .u32 p.val] 70))
                  have H12 := Lib.hid (heap_alloc2_new w3 (.cells #[.slice (some ⟨g2, 0, none⟩) l2.length cap3] 66) (.cells #[.int .i64 p.dev, .int .u32 p.at_, .int .i64 p.n, .int .u32 p.val] 70))
                  have hlt3 := HO3.out.lt
                  clear hb hcq0 hp3 hb4 HO3 HP3
                  go_upto_region 12 with fail
                  generalize (w3.alloc (.cells #[.slice (some ⟨g2, 0, none⟩) l2.length cap3] 66)).alloc (.cells #[.int .i64 p.dev, .int .u32 p.at_, .int .i64 p.n, .int .u32 p.val] 70) = w4 at HO4 HP4 H11 H12 ⊢
                  generalize w3.heap.size = b11 at H11 H12 hlt3 ⊢
                  have hcq : w4.cell? ⟨w.heap.size, 0, none⟩ = some (.slice ao2 n2 cap2) := (cell_of_row _ _ 0 _ _ _ HO4.out.q).trans (by rw [HN2.out]; rfl)
                  have hn2p : (0 : Int) < (n2 : Int) := by have := HN2.out; simp at this; omega
                  have hn2q : 0 < n2 := by omega
                  have hn2d : decide (0 < n2) = true := by simp; omega
                  go_quiet (fail)
                  have HO5 := Lib.hid (HO4.out.below (below_drewN (Below.refl w4.heap.size w4) nq))
                  have HP5 := Lib.hid (HP4.out.below (below_drewN (Below.refl w4.heap.size w4) nq))
                  have H11' := Lib.hid (show (w4.drewN nq).heap[b11]? = _ from H11.out)
                  have H12' := Lib.hid (show (w4.drewN nq).heap[b11 + 1]? = _ from H12.out)
                  clear HO4 HP4 H11 H12 hcq hn2p hn2q hn2d
                  generalize w4.drewN nq = w5 at HO5 HP5 H11' H12' ⊢
                  have x11 := (cell_of_row _ _ 0 _ _ _ H11'.out).trans (rfl : _ = some (Value.slice (some ⟨g2, 0, none⟩) l2.length cap3))
                  have HK6 := Lib.hid (HO5.out.setq (g := g2) (cap' := cap3) (L' := l2) HP5.out (queue_tail HO5.out.ok) hc3 hgx hgi hgo)
                  have HQ5 := Lib.hid HO5.out.q
                  have H126 := Lib.hid (show (w5.setRow w.heap.size #[.slice (some ⟨g2, 0, none⟩) l2.length cap3]).heap[b11 + 1]? = _ from (row_keep1 (by omega)).trans H12'.out)
                  have HOQ := Lib.hid (show (#[.slice (some ⟨g2, 0, none⟩) l2.length cap3] : Array Value).all (·.oneCell') = true by simp [Value.oneCell'])
                  have HGI := Lib.hid (And.intro hgi hgo)
                  clear hgi hgo HP5
                  go_upto_region 16 with (first | (refine wpList_store_row rfl 66 _ _ rfl w.heap.size #[.slice (some ⟨g2, 0, none⟩) l2.length cap3] rfl rfl 66 #[.slice ao2 (p :: l2).length cap2] HQ5.out (by kernel_rfl) rfl HOQ.out ?_))
                  generalize w5.setRow w.heap.size #[.slice (some ⟨g2, 0, none⟩) l2.length cap3] = w6 at HK6 H126 ⊢
                  clear x11 HQ5 HO5 H11' H12'
                  have e0 := (cell_of_row _ _ 0 _ _ _ H126.out).trans (rfl : _ = some (Value.int .i64 p.dev))
                  have e1 := (cell_of_row _ _ 1 _ _ _ H126.out).trans (rfl : _ = some (Value.int .u32 p.at_))
                  have e2 := (cell_of_row _ _ 2 _ _ _ H126.out).trans (rfl : _ = some (Value.int .i64 p.n))
                  have e3 := (cell_of_row _ _ 3 _ _ _ H126.out).trans (rfl : _ = some (Value.int .u32 p.val))
                  obtain ⟨i, hi1, hi2, hi3, hi4⟩ := info_post
                  have HAL := Lib.hid (HK6.out.below ((Below.refl w6.heap.size w6).alloc (Nat.le_refl _) (.cells #[.int .i64 p.dev, .int .u32 p.at_, .int .i64 p.n, .int .u32 p.val] 70)))
                  have HXO := Lib.hid (show ∀ u ∈ p.c.toList, u.oneCell' = true from fun u hu => Array.all_eq_true_iff_forall_mem.1 p.c_one u (by simpa using hu))
                  have HW6 := Lib.hid HK6.out.lt
                  have hol : OUT.length ≤ 100 := by
                    have h1 := congrArg List.length HIO2.out
                    have h2 := HIN2.out
                    rw [List.length_append] at h1
                    omega
                  go_wp2_with (refine wpList_append_own_at (w := w6.alloc (.cells #[.int .i64 p.dev, .int .u32 p.at_, .int .i64 p.n, .int .u32 p.val] 70)) rfl _ _ 64 rfl (w.heap.size + 1) 70 i _ 4 32 Tryd.underlying64 hi1 hi2 hi3 hi4 rfl (by omega) (.slice aq OUT.length cq) OUT.length (flat OUT) rfl ?howO ⟨w6.heap.size, 0, none⟩ 1 1 p.c.toList rfl rfl ?hcO ?h1O ?hmO ?hbyO ?hbO ?hKO)
                  case howO => exact HAL.out.oo
                  case h1O => exact HXO.out
                  case hmO => simp only [maxLen]; omega
                  case hbyO => omega
                  case hcO =>
                    intro j u hj
                    rw [Addr.add_lit, Nat.zero_add]
                    have e : p.c[j]? = some u := by rw [← Array.getElem?_toList]; exact hj
                    exact (cell_of_row _ _ j _ _ _ (heap_alloc_new w6 _)).trans e
                  case hbO => have := HW6.out; simp; omega
                  intro v' w7 hown hgr _ hvb
                  have HF := Lib.hid (HAL.out.appendOut hown hgr (by simpa using hvb))
                  obtain ⟨av, cv, rfl⟩ := owns_form hown
                  clear hown hgr hvb hi1 hi2 hi3 hi4 e0 e1 e2 e3
                  have hcq7 := (cell_of_row _ _ 0 _ _ _ HF.out.q).trans (rfl : _ = some (Value.slice (some ⟨g2, 0, none⟩) l2.length cap3))
                  have HIO3 := Lib.hid (show IN2 = (OUT ++ [p]) ++ l2 by rw [HIO2.out, List.append_assoc]; rfl)
                  have hsum : ((IN2.length : Int) != ((OUT.length : Int) + 1) + (l2.length : Int)) = false := by rw [HIO3.out]; simp; omega
                  have h8t : ¬ (8 : Int) < (l2.length : Int) := by have := HF.out.ok.1; omega
                  have hob : (OUT.length : Int) ≤ 100 := by omega
                  go_wp2_with fail
                  go_roundw
                  case rel => exact ⟨k + 1, l2, IN2, OUT ++ [p], _, cap3, by omega, by omega, by go_num, HIO3.out, HIN2.out, HF.out⟩
                  case measure => simp [intOf]; omega
            · have hkb1 : ¬ (k : Int) < (nb : Int) := by omega
              have hsum : ((IN2.length : Int) != (OUT.length : Int) + ((L2 : List Pst).length : Int)) = false := by rw [HIO2.out]; simp
              have h8t : ¬ (8 : Int) < ((L2 : List Pst).length : Int) := by have := HO2.out.ok.1; omega
              have hob : (OUT.length : Int) ≤ 100 := by
                have h1 := congrArg List.length HIO2.out
                have h2 := HIN2.out
                rw [List.length_append] at h1
                omega
              go_wp2_with fail
              go_roundw
              case rel => exact ⟨k + 1, L2, IN2, OUT, ao2, cap2, by omega, by omega, by go_num, HIO2.out, HIN2.out, HO2.out⟩
              case measure => simp [intOf]; omega
      · have hk5' : ¬ ((k : Int) < 60) := by omega
        have hk6 : (k : Int) < ↑n := by omega
        clear hkn hk1 hk2
        have HOI := Lib.hid (show OUT.length ≤ IN.length by rw [HIO.out]; simp)
        have HIL := Lib.hid (show IN.length < 1000000 by have := HIN.out; omega)
        go_wp2_with fail
        go_loopw [14] (fun j wq => ∃ m : Nat, m ≤ OUT.length ∧ j = .int .i64 m ∧ OrdAt w w.heap.size L IN OUT ao cap (.slice ai IN.length ci) (.slice aq OUT.length cq) wq) (fun j _ => OUT.length - (intOf j).toNat)
        case atStart => exact ⟨0, by omega, rfl, HO.out⟩
        case round =>
          obtain ⟨m, hm, rfl, hom⟩ := hrel
          have HOM := Lib.hid hom
          clear hom HO
          by_cases hml : m < OUT.length
          · obtain ⟨p, hpm⟩ : ∃ p, OUT[m]? = some p := ⟨OUT[m]'hml, List.getElem?_eq_getElem hml⟩
            have hpi : IN[m]? = some p := by rw [HIO.out, List.getElem?_append_left hml]; exact hpm
            have hml2 : m < IN.length := Nat.lt_of_lt_of_le hml HOI.out
            obtain ⟨g1, rfl⟩ : ∃ g1, aq = some ⟨g1, 0, none⟩ := by
              rcases HOM.out.oo.2 with ⟨_, h0⟩ | ⟨g1, _, _, h1, _⟩
              · exact absurd h0 (by omega)
              · exact ⟨g1, by simpa using (congrArg (fun v => match v with | Value.slice a _ _ => a | _ => none) h1)⟩
            obtain ⟨g2, rfl⟩ : ∃ g2, ai = some ⟨g2, 0, none⟩ := by
              rcases HOM.out.oi.2 with ⟨_, h0⟩ | ⟨g1, _, _, h1, _⟩
              · exact absurd h0 (by omega)
              · exact ⟨g1, by simpa using (congrArg (fun v => match v with | Value.slice a _ _ => a | _ => none) h1)⟩
            obtain ⟨b1, o1, e1, _, c0, c1, c2, c3⟩ := posts_of_owns HOM.out.oo rfl m p hpm
            obtain ⟨rfl, rfl⟩ : g1 = b1 ∧ 0 = o1 := by simpa using e1
            obtain ⟨b2, o2, e2, _, d0, d1, d2, d3⟩ := posts_of_owns HOM.out.oi rfl m p hpi
            obtain ⟨rfl, rfl⟩ : g2 = b2 ∧ 0 = o2 := by simpa using e2
            simp only [Nat.zero_add] at c0 c1 c2 c3 d0 d1 d2 d3
            have hm0 : (0 : Int) ≤ (m : Int) := by omega
            have hmi : (m : Int) < (OUT.length : Int) := by omega
            have hmj : (m : Int) < (IN.length : Int) := by omega
            have hil := HIL.out
            clear hpm hpi e1 e2
            go_wp2_with fail
            go_quiet (fail)
            go_wp2_with fail
            go_roundw
            case rel => exact ⟨m + 1, by omega, by go_num, HOM.out.below (below_drewN (Below.refl _ _) _)⟩
            case measure => simp [intOf]; omega
          · have hmi : ¬ (m : Int) < (OUT.length : Int) := by omega
            go_wp2_with fail
            refine (HS.out _ HOM.out.b).mono ?_
            rintro e w9 ⟨rfl, hb9⟩
            go_wp2_with fail
            go_ret
            exact ⟨rfl, HOM.out.b.trans (hb9.mono HOM.out.b.size)⟩
    · have hk5' : ¬ ((k : Int) < ↑n) := by omega
      clear hkn hk1
      have HOI := Lib.hid (show OUT.length ≤ IN.length by rw [HIO.out]; simp)
      have HIL := Lib.hid (show IN.length < 1000000 by have := HIN.out; omega)
      go_wp2_with fail
      go_loopw [14] (fun j wq => ∃ m : Nat, m ≤ OUT.length ∧ j = .int .i64 m ∧ OrdAt w w.heap.size L IN OUT ao cap (.slice ai IN.length ci) (.slice aq OUT.length cq) wq) (fun j _ => OUT.length - (intOf j).toNat)
      case atStart => exact ⟨0, by omega, rfl, HO.out⟩
      case round =>
        obtain ⟨m, hm, rfl, hom⟩ := hrel
        have HOM := Lib.hid hom
        clear hom HO
        by_cases hml : m < OUT.length
        · obtain ⟨p, hpm⟩ : ∃ p, OUT[m]? = some p := ⟨OUT[m]'hml, List.getElem?_eq_getElem hml⟩
          have hpi : IN[m]? = some p := by rw [HIO.out, List.getElem?_append_left hml]; exact hpm
          have hml2 : m < IN.length := Nat.lt_of_lt_of_le hml HOI.out
          obtain ⟨g1, rfl⟩ : ∃ g1, aq = some ⟨g1, 0, none⟩ := by
            rcases HOM.out.oo.2 with ⟨_, h0⟩ | ⟨g1, _, _, h1, _⟩
            · exact absurd h0 (by omega)
            · exact ⟨g1, by simpa using (congrArg (fun v => match v with | Value.slice a _ _ => a | _ => none) h1)⟩
          obtain ⟨g2, rfl⟩ : ∃ g2, ai = some ⟨g2, 0, none⟩ := by
            rcases HOM.out.oi.2 with ⟨_, h0⟩ | ⟨g1, _, _, h1, _⟩
            · exact absurd h0 (by omega)
            · exact ⟨g1, by simpa using (congrArg (fun v => match v with | Value.slice a _ _ => a | _ => none) h1)⟩
          obtain ⟨b1, o1, e1, _, c0, c1, c2, c3⟩ := posts_of_owns HOM.out.oo rfl m p hpm
          obtain ⟨rfl, rfl⟩ : g1 = b1 ∧ 0 = o1 := by simpa using e1
          obtain ⟨b2, o2, e2, _, d0, d1, d2, d3⟩ := posts_of_owns HOM.out.oi rfl m p hpi
          obtain ⟨rfl, rfl⟩ : g2 = b2 ∧ 0 = o2 := by simpa using e2
          simp only [Nat.zero_add] at c0 c1 c2 c3 d0 d1 d2 d3
          have hm0 : (0 : Int) ≤ (m : Int) := by omega
          have hmi : (m : Int) < (OUT.length : Int) := by omega
          have hmj : (m : Int) < (IN.length : Int) := by omega
          have hil := HIL.out
          clear hpm hpi e1 e2
          go_wp2_with fail
          go_quiet (fail)
          go_wp2_with fail
          go_roundw
          case rel => exact ⟨m + 1, by omega, by go_num, HOM.out.below (below_drewN (Below.refl _ _) _)⟩
          case measure => simp [intOf]; omega
        · have hmi : ¬ (m : Int) < (OUT.length : Int) := by omega
          go_wp2_with fail
          refine (HS.out _ HOM.out.b).mono ?_
          rintro e w9 ⟨rfl, hb9⟩
          go_wp2_with fail
          go_ret
          exact ⟨rfl, HOM.out.b.trans (hb9.mono HOM.out.b.size)⟩

end Go.Proofs.YtenafjdlaefepaaDoor
